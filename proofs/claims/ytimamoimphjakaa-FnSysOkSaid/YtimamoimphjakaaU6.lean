import Derived.Test.YtimamoimphjakaaU5
set_option maxHeartbeats 8000000
set_option maxRecDepth 100000
set_option linter.unusedVariables false
set_option linter.unusedSimpArgs false
namespace Go.Proofs.Ytimamoimphjakaa.Eq
open Go.RowKit Go.Proofs.YtimamoimphjakaaW.PrintWords Go.Proofs.YtimamoimphjakaaW.PrintLast Go.Proofs.YtimamoimphjakaaW.PrintMore
theorem upOk_calls (s:Sys) (ss:List Value) (i:Nat) (w:World) (hs:kSys.K w s ss) (hi:i < s.tasks.length) (hn:s.tasks.length<=1048576):
  Calls Try.prog 65 #[.agg ss.toArray,.int .i64 i] w fun e w'=>e= .returned (.bool (upsOk s i))/\Below w.heap.size w w':=by
 obtain ⟨A0,c0,A1,c1,A3,c3,rfl,-,-,-,g1,-⟩:=kSys_open hs;have G1:=am g1;obtain ⟨b,o,cs,rfl,hcl,hK,hcc,-⟩:=C_field g1 zTask i hi (by decide);obtain ⟨t,ht⟩:∃ x,x=taskAt s.tasks i:=⟨_,rfl⟩;rw [show s.tasks.getD i zTask=t from ht.symm] at hK;have hK0:=hK;obtain ⟨B3,d3,B8,d8,B9,d9,B10,d10,rfl,-⟩:=kTask_open hK;have HCC:=am hcc;have HK:=am hK0;have q0:(0:Int)<=(i:Int):=by omega
 have q1:(i:Int) < (s.tasks.length:Int):=by omega
 have HU:Aside0 (upsOk s i=if i=0 then decide (t.up= -1) else inB t.up 0 (i - 1) && (!isLive t || decide ((taskAt s.tasks t.up.toNat).way=1))):=⟨by rw [ht];rfl⟩;clear hs g1 hcl hK hK0 hcc ht;go_enter Try.func65,Try.ntmps65;by_cases h0:i=0
 ·have y0:((i:Int) == 0)=true:=by simp [h0]
  have y0':(i == 0)=true:=by simp [h0]
  have H0:=am h0;clear h0
  go_wp2_with (first
  |((with_reducible refine gate_dst (N:=2) rfl ?_);refine box_event rfl (N:=2) rfl (t:=27) (by go_simp<;>rfl) ?_;intro gs hg w2 hbox hb;have BS:=am hbox;have HB:=am hb;have BSc:=zc8 BS.out;clear hbox hb hg)
  |((with_reducible refine gate_dst (N:=10) rfl ?_);refine wpList_load_mid rfl 38 (.tmp 9) rfl b (o+i*13) rfl _ _ (fun j u hu=>cellB HB.out (HCC.out j u hu)) Try.underlying38 rfl (by kernel_rfl) ?_)|((with_reducible refine gate_dst (N:=5) rfl ?_);refine box_event rfl (N:=5) rfl (t:=38) (by go_simp<;>rfl) ?_;intro gt hg wt hbox hb;have BT0:=am hbox;have GT:=am hg;have HBT:=am hb;clear hbox hb hg)|((with_reducible refine gate_store (t:=38) (p:=5) rfl ?_);refine store_block rfl rfl 38 (.tmp 5) (.tmp 10) rfl rfl rfl BT0.out rfl (by kernel_rfl) (aB rfl) ?_;intro wn hbox hg;have BT:=am hbox;have hbx:=pw_below_grown HBT.out _ HBT.out.size hg (fun z hz=>by cases hz;exact Nat.le_of_eq GT.out.symm);replace BS:=am (zb8 BS.out hbx);replace HB:=am (below_step HB.out hbx);clear BSc BT0 HBT hbx hbox hg;have BSc:=zc8 BS.out;have BTc:=zc8 BT.out))
  go_ret
  have hr:upsOk s i=(t.up == -1):=by
   rw [HU.out];rw [if_pos H0.out,Bool.eq_iff_iff,decide_eq_true_eq,beq_iff_eq]
  rw [hr];exact ⟨rfl,HB.out⟩
 ·have y0:((i:Int) == 0)=false:=by simp [h0]
  have y0':(i == 0)=false:=by simp [h0]
  have H0:=am h0;clear h0
  cases hb1:inB t.up 0 ((i:Int) - 1) with
  | false=>
   have H1:Aside0 ((decide (0<=t.up) && decide (t.up < (i:Int)))=false):=⟨by rw [place_in,hb1]⟩;have H1b:=am hb1;clear hb1
   go_wp2_with (first
   |((with_reducible refine gate_dst (N:=2) rfl ?_);refine box_event rfl (N:=2) rfl (t:=27) (by go_simp<;>rfl) ?_;intro gs hg w2 hbox hb;have BS:=am hbox;have HB:=am hb;have BSc:=zc8 BS.out;clear hbox hb hg)
   |((with_reducible refine gate_dst (N:=10) rfl ?_);refine wpList_load_mid rfl 38 (.tmp 9) rfl b (o+i*13) rfl _ _ (fun j u hu=>cellB HB.out (HCC.out j u hu)) Try.underlying38 rfl (by kernel_rfl) ?_)|((with_reducible refine gate_dst (N:=5) rfl ?_);refine box_event rfl (N:=5) rfl (t:=38) (by go_simp<;>rfl) ?_;intro gt hg wt hbox hb;have BT0:=am hbox;have GT:=am hg;have HBT:=am hb;clear hbox hb hg)|((with_reducible refine gate_store (t:=38) (p:=5) rfl ?_);refine store_block rfl rfl 38 (.tmp 5) (.tmp 10) rfl rfl rfl BT0.out rfl (by kernel_rfl) (aB rfl) ?_;intro wn hbox hg;have BT:=am hbox;have hbx:=pw_below_grown HBT.out _ HBT.out.size hg (fun z hz=>by cases hz;exact Nat.le_of_eq GT.out.symm);replace BS:=am (zb8 BS.out hbx);replace HB:=am (below_step HB.out hbx);clear BSc BT0 HBT hbx hbox hg;have BSc:=zc8 BS.out;have BTc:=zc8 BT.out)
   |(go_at_call 51;refine (isPlace_calls _ _ _).mono ?_;rw [H1.out];rintro e w9 ⟨rfl,rfl⟩))
   go_ret
   have hr:upsOk s i=false:=by
    rw [HU.out];rw [if_neg H0.out,H1b.out,Bool.false_and]
   rw [hr]
   exact ⟨rfl,HB.out⟩
  | true=>
   have H1:Aside0 ((decide (0<=t.up) && decide (t.up < (i:Int)))=true):=⟨by rw [place_in,hb1]⟩;have H1b:=am hb1;have hu:=inB_iff.1 hb1;clear hb1
   cases hlv:isLive t with
   | false=>
    have LV:=am hlv;clear hlv hu
    go_wp2_with (first
    |((with_reducible refine gate_dst (N:=2) rfl ?_);refine box_event rfl (N:=2) rfl (t:=27) (by go_simp<;>rfl) ?_;intro gs hg w2 hbox hb;have BS:=am hbox;have HB:=am hb;have BSc:=zc8 BS.out;clear hbox hb hg)
    |((with_reducible refine gate_dst (N:=10) rfl ?_);refine wpList_load_mid rfl 38 (.tmp 9) rfl b (o+i*13) rfl _ _ (fun j u hu=>cellB HB.out (HCC.out j u hu)) Try.underlying38 rfl (by kernel_rfl) ?_)|((with_reducible refine gate_dst (N:=5) rfl ?_);refine box_event rfl (N:=5) rfl (t:=38) (by go_simp<;>rfl) ?_;intro gt hg wt hbox hb;have BT0:=am hbox;have GT:=am hg;have HBT:=am hb;clear hbox hb hg)|((with_reducible refine gate_store (t:=38) (p:=5) rfl ?_);refine store_block rfl rfl 38 (.tmp 5) (.tmp 10) rfl rfl rfl BT0.out rfl (by kernel_rfl) (aB rfl) ?_;intro wn hbox hg;have BT:=am hbox;have hbx:=pw_below_grown HBT.out _ HBT.out.size hg (fun z hz=>by cases hz;exact Nat.le_of_eq GT.out.symm);replace BS:=am (zb8 BS.out hbx);replace HB:=am (below_step HB.out hbx);clear BSc BT0 HBT hbx hbox hg;have BSc:=zc8 BS.out;have BTc:=zc8 BT.out)
    |(go_at_call 51;refine (isPlace_calls _ _ _).mono ?_;rw [H1.out];rintro e w9 ⟨rfl,rfl⟩)
    |((with_reducible refine gate_dst (N:=21) rfl ?_);refine wpList_load_mid rfl 38 (.tmp 5) rfl gt 0 rfl _ _ (lC BT.out) Try.underlying38 rfl (by kernel_rfl) ?_)
    |(go_at_call 46;refine (live_calls t _ _ (kTask.K_below HB.out HK.out)).mono ?_;rw [LV.out];rintro e w9 ⟨rfl,hb⟩;replace BS:=am (zb8 BS.out hb);replace BT:=am (zb8 BT.out hb);replace HB:=am (below_step HB.out hb);clear BSc BTc hb;have BSc:=zc8 BS.out;have BTc:=zc8 BT.out))
    go_ret
    have hr:upsOk s i=true:=by
     rw [HU.out];rw [if_neg H0.out,H1b.out,LV.out];rfl
    rw [hr]
    exact ⟨rfl,HB.out⟩
   | true=>
    have LV:=am hlv;clear hlv;obtain ⟨u,hu0⟩:=Int.eq_ofNat_of_zero_le hu.1;have hul:u < s.tasks.length:=by omega
    have r0:(0:Int)<=t.up:=hu.1;have r1:t.up < (s.tasks.length:Int):=by omega
    have r4:t.up.toNat=u:=by omega
    obtain ⟨b',o',cs',he,hcl,hK,hcc,-⟩:=C_field G1.out zTask u hul (by decide);cases he;obtain ⟨wy,hwy⟩:∃ x,x=(taskAt s.tasks u).way:=⟨_,rfl⟩;rw [show s.tasks.getD u zTask=taskAt s.tasks u from rfl] at hK;obtain ⟨E3,f3,E8,f8,E9,f9,E10,f10,rfl,-⟩:=kTask_open hK;have pw:=hcc 4 _ rfl;simp only [show kTask.sz=13 from rfl] at pw;rw [<-hwy] at pw;have PW:=am pw;have HWY:=am hwy;clear hcl hK hcc pw hwy hu hu0
    go_wp2_with (first
    |((with_reducible refine gate_dst (N:=2) rfl ?_);refine box_event rfl (N:=2) rfl (t:=27) (by go_simp<;>rfl) ?_;intro gs hg w2 hbox hb;have BS:=am hbox;have HB:=am hb;have BSc:=zc8 BS.out;clear hbox hb hg)
    |((with_reducible refine gate_dst (N:=10) rfl ?_);refine wpList_load_mid rfl 38 (.tmp 9) rfl b (o+i*13) rfl _ _ (fun j u hu=>cellB HB.out (HCC.out j u hu)) Try.underlying38 rfl (by kernel_rfl) ?_)|((with_reducible refine gate_dst (N:=5) rfl ?_);refine box_event rfl (N:=5) rfl (t:=38) (by go_simp<;>rfl) ?_;intro gt hg wt hbox hb;have BT0:=am hbox;have GT:=am hg;have HBT:=am hb;clear hbox hb hg)|((with_reducible refine gate_store (t:=38) (p:=5) rfl ?_);refine store_block rfl rfl 38 (.tmp 5) (.tmp 10) rfl rfl rfl BT0.out rfl (by kernel_rfl) (aB rfl) ?_;intro wn hbox hg;have BT:=am hbox;have hbx:=pw_below_grown HBT.out _ HBT.out.size hg (fun z hz=>by cases hz;exact Nat.le_of_eq GT.out.symm);replace BS:=am (zb8 BS.out hbx);replace HB:=am (below_step HB.out hbx);clear BSc BT0 HBT hbx hbox hg;have BSc:=zc8 BS.out;have BTc:=zc8 BT.out)
    |(go_at_call 51;refine (isPlace_calls _ _ _).mono ?_;rw [H1.out];rintro e w9 ⟨rfl,rfl⟩)
    |((with_reducible refine gate_dst (N:=21) rfl ?_);refine wpList_load_mid rfl 38 (.tmp 5) rfl gt 0 rfl _ _ (lC BT.out) Try.underlying38 rfl (by kernel_rfl) ?_)
    |(go_at_call 46;refine (live_calls t _ _ (kTask.K_below HB.out HK.out)).mono ?_;rw [LV.out];rintro e w9 ⟨rfl,hb⟩;replace BS:=am (zb8 BS.out hb);replace BT:=am (zb8 BT.out hb);replace HB:=am (below_step HB.out hb);clear BSc BTc hb;have BSc:=zc8 BS.out;have BTc:=zc8 BT.out;have pww:=cellB HB.out PW.out))
    go_ret
    have hr:upsOk s i=(wy == 1):=by
     rw [HU.out];rw [if_neg H0.out,H1b.out,r4,<-HWY.out,LV.out];rw [Bool.true_and,Bool.not_true,Bool.false_or,Bool.eq_iff_iff,decide_eq_true_eq,beq_iff_eq]
    rw [hr];exact ⟨rfl,HB.out⟩
def ActPost (p:Prog) (t:Task) (w:World) (e:Ending) (w':World):Prop:=∃ (a:Act) (vs:List Value),e= .returned (.tuple #[.agg vs.toArray,.bool (decide (t.pc < (actsAt p.bodies t.body.toNat).length))])/\kAct.K w' a vs/\Below w.heap.size w w'/\(t.pc < (actsAt p.bodies t.body.toNat).length->a=actAt (actsAt p.bodies t.body.toNat) t.pc.toNat)
theorem actAt_calls (p:Prog) (ps:List Value) (t:Task) (ts:List Value) (w:World) (hp:kProg.K w p ps) (ht:kTask.K w t ts) (hz:ProgSz p) (hb0:0<=t.body) (hb1:t.body < p.bodies.length) (hp0:0<=t.pc) (hp1:t.pc<=(actsAt p.bodies t.body.toNat).length):
  Calls Try.prog 104 #[.agg ps.toArray,.agg ts.toArray] w fun e w'=>ActPost p t w e w':=by
 obtain ⟨Ac,cc,Ab,cb,rfl,-,-,-,gb⟩:=kProg_open hp;obtain ⟨B3,d3,B8,d8,B9,d9,B10,d10,rfl,-⟩:=kTask_open ht;obtain ⟨kb,hkb0⟩:=Int.eq_ofNat_of_zero_le hb0;have hkb:kb < p.bodies.length:=by omega
 have v4:t.body.toNat=kb:=by omega
 obtain ⟨bb,ob,cs2,rfl,hcl2,hK2,hcc2,-⟩:=C_field gb ([]:List Act) kb hkb (by decide);obtain ⟨Aa,ca,rfl,la,ga2⟩:=hK2;rw [v4] at hp1;obtain ⟨acts,hacts⟩:∃ x,x=actsAt p.bodies kb:=⟨_,rfl⟩;rw [<-hacts] at hp1;have hal:acts.length<=1048576:=by rw [hacts,actsAt_eq hkb];exact (hz.acts _ (List.getElem_mem hkb)).1
 have p2:=hcc2 0 _ rfl;simp only [show (Kd.slice 108 kAct).sz=1 from rfl,Nat.mul_one,Nat.add_zero] at p2;rw [show p.bodies.getD kb []=acts from hacts.symm] at p2 ga2;have P2:=am p2;have GA:=am ga2;have HACT:=am hacts;have HV:=am v4;clear hp ht gb hkb0 hcl2 hcc2 la ga2 hacts p2 hz;go_enter Try.func104,Try.ntmps104;by_cases he:t.pc=(acts.length:Int)
 ·have y0:(t.pc == (acts.length:Int))=true:=by simp [he]
  have HD:Aside0 (decide (t.pc < (actsAt p.bodies t.body.toNat).length)=false):=⟨decide_eq_false (by rw [HV.out,<-HACT.out];omega)⟩;have HE:=am he;clear he
  go_wp2_with (first
  |((with_reducible refine gate_dst (N:=2) rfl ?_);refine box_event rfl (N:=2) rfl (t:=48) (by go_simp<;>rfl) ?_;intro gp hg w2 hbox hb;have BP:=am hbox;clear hbox hg;have HB2:=am hb;clear hb;have HB:=HB2;clear HB2;have BPc:=zc8 BP.out)
  |((with_reducible refine gate_dst (N:=3) rfl ?_);refine box_event rfl (N:=3) rfl (t:=38) (by go_simp<;>rfl) ?_;intro gt hg w3 hbox hb;have BT:=am hbox;clear hbox hg;replace BP:=am (zb8 BP.out hb);replace HB:=am (below_step HB.out hb);clear hb BPc;have BPc:=zc8 BP.out;have BTc:=zc8 BT.out)
  |((with_reducible refine gate_dst (N:=4) rfl ?_);refine box_event rfl (N:=4) rfl (t:=108) (by go_simp<;>rfl) ?_;intro ga hg w4 hbox hb;have BA:=am hbox;have LG:=am (show w.heap.size<=ga from Nat.le_trans HB.out.size (Nat.le_of_eq hg.symm));clear hbox hg;replace BP:=am (zb8 BP.out hb);replace BT:=am (zb8 BT.out hb);replace HB:=am (below_step HB.out hb);clear hb BPc BTc;have BPc:=zc8 BP.out;have BTc:=zc8 BT.out;have BAc:=zc8 BA.out;have LA:=am (blk_lt BA.out);have p2:=cellB HB.out P2.out)
  |((with_reducible refine gate_store (t:=108) (p:=4) rfl ?_);refine store_block rfl rfl 108 (.tmp 4) (.tmp 18) rfl rfl rfl BA.out rfl (by kernel_rfl) (aB rfl) ?_;intro wn hbox hg;have BF:=am hbox;replace HB:=am (pw_below_grown HB.out _ HB.out.size hg (fun z hz=>by cases hz;exact LG.out));clear BA BAc hbox hg))
  refine bodyPost_ret (results_ct Try.results104 _ wn ga 108 #[.int .i64 0,.slice none 0 0,.slice none 0 0,.int .i64 0] (0,0) _ rfl BF.out Try.underlying108 rfl (by kernel_rfl)) rfl ?_;exact ⟨zAct,_,by rw [HD.out];rfl,kAct_mk zAct (Nat.zero_le _) (C_nil _ _) (Nat.zero_le _) (C_nil _ _),HB.out,fun h=>absurd h (of_decide_eq_false HD.out)⟩
 ·have y0:(t.pc == (acts.length:Int))=false:=by simpa using he
  obtain ⟨kp,hkp⟩:=Int.eq_ofNat_of_zero_le hp0;have hkl:kp < acts.length:=by omega
  have v5:t.pc.toNat=kp:=by omega
  have HD:Aside0 (decide (t.pc < (actsAt p.bodies t.body.toNat).length)=true):=⟨decide_eq_true (by rw [HV.out,<-HACT.out];omega)⟩;have hpl:t.pc < (acts.length:Int):=by omega
  obtain ⟨ba,oa,cs,rfl,hcl,hK,hcc,-⟩:=C_field GA.out zAct kp hkl (by decide);obtain ⟨a,hax⟩:∃ x,x=actAt acts kp:=⟨_,rfl⟩;rw [show acts.getD kp zAct=a from hax.symm] at hK;have HK:=am hK;obtain ⟨Ad,cd,Ak,ck,rfl,-⟩:=kAct_open hK;have HAC:=am hcc;have AX:=am hax;have V5:=am v5;clear he hkp hcl hK hcc hax
  go_wp2_with (first
  |((with_reducible refine gate_dst (N:=2) rfl ?_);refine box_event rfl (N:=2) rfl (t:=48) (by go_simp<;>rfl) ?_;intro gp hg w2 hbox hb;have BP:=am hbox;clear hbox hg;have HB2:=am hb;clear hb;have HB:=HB2;clear HB2;have BPc:=zc8 BP.out)
  |((with_reducible refine gate_dst (N:=3) rfl ?_);refine box_event rfl (N:=3) rfl (t:=38) (by go_simp<;>rfl) ?_;intro gt hg w3 hbox hb;have BT:=am hbox;clear hbox hg;replace BP:=am (zb8 BP.out hb);replace HB:=am (below_step HB.out hb);clear hb BPc;have BPc:=zc8 BP.out;have BTc:=zc8 BT.out)
  |((with_reducible refine gate_dst (N:=4) rfl ?_);refine box_event rfl (N:=4) rfl (t:=108) (by go_simp<;>rfl) ?_;intro ga hg w4 hbox hb;have BA:=am hbox;have LG:=am (show w.heap.size<=ga from Nat.le_trans HB.out.size (Nat.le_of_eq hg.symm));clear hbox hg;replace BP:=am (zb8 BP.out hb);replace BT:=am (zb8 BT.out hb);replace HB:=am (below_step HB.out hb);clear hb BPc BTc;have BPc:=zc8 BP.out;have BTc:=zc8 BT.out;have BAc:=zc8 BA.out;have LA:=am (blk_lt BA.out);have p2:=cellB HB.out P2.out)
  |((with_reducible refine gate_dst (N:=23) rfl ?_);refine wpList_load_mid rfl 108 (.tmp 22) rfl ba (oa+kp*4) rfl _ _ (fun j u hu=>cellB HB.out (HAC.out j u hu)) Try.underlying108 rfl (by kernel_rfl) ?_)
  |((with_reducible refine gate_store (t:=108) (p:=4) rfl ?_);refine store_block rfl rfl 108 (.tmp 4) (.tmp 23) rfl rfl rfl BA.out rfl (by kernel_rfl) (aB rfl) ?_;intro wn hbox hg;have BF:=am hbox;replace HB:=am (pw_below_grown HB.out _ HB.out.size hg (fun z hz=>by cases hz;exact LG.out));clear BA BAc hbox hg))
  refine bodyPost_ret (results_ct Try.results104 _ wn ga 108 #[.int .i64 a.kind,.slice Ad a.deeds.length cd,.slice Ak a.kids.length ck,.int .i64 a.reg] (0,0) _ rfl BF.out Try.underlying108 rfl (by kernel_rfl)) rfl ?_;exact ⟨a,_,by rw [HD.out];rfl,kAct.K_below HB.out HK.out,HB.out,fun _=>by rw [AX.out,HACT.out,V5.out,HV.out]⟩
def placeB (x n:Int):Bool:=decide (0<=x) && decide (x < n)
def timedB (s:Sys) (t:Task):Bool:=decide (t.since < t.when_) && decide (t.when_<=s.clock)
def restB (s:Sys) (t:Task) (deeds:Int):Bool:=
 if t.stage=1 then decide (0<=t.at_) && decide (t.at_<=deeds) && (t.when_ == 0)
 else if t.stage=2 then placeB t.at_ t.puts.length && (t.when_ == 0)
 else if t.stage=3 then decide (0 < t.puts.length) && (t.at_ == 0) && (t.when_ == 0)
 else if t.stage=4 then decide (0 < t.puts.length) && decide (0<=t.at_) && decide (t.at_<=(t.reads.length:Int)) && timedB s t
 else if t.stage=5 then placeB t.at_ t.puts.length && timedB s t
 else false
def stageB (p:Prog) (s:Sys) (t:Task):Bool:=
 if t.stage=0 then (t.at_ == 0) && ((t.reads.length:Int) == 0) && ((t.puts.length:Int) == 0) && decide (0<=t.when_) && decide (t.when_<=s.clock+1)
 else !(t.way != 0) && decide (t.pc < (actsAt p.bodies t.body.toNat).length) && !((actAt (actsAt p.bodies t.body.toNat) t.pc.toNat).kind != 1) && restB s t (actAt (actsAt p.bodies t.body.toNat) t.pc.toNat).deeds.length
theorem stage0F {q:Prop} (h:q:=by
  go_wp2_with ((first|with_reducible refine gB ?_ | with_reducible refine gA ?_);refine oB rfl M.out ?_;clear M C;intro g W M C;simp only [Cl] at C)
  go_ret;rw [HU.out];exact ⟨rfl,M.out.below⟩):q:=h
theorem stageEF {q:Prop} (h:q:=by
  go_wp2;go_ret;rw [HU.out];exact ⟨rfl,M.out.below⟩):q:=h
theorem stage1F {q:Prop} (h:q:=by
  go_wp2_with (go_at_call 51;refine oEb (isPlace_calls _ _ _) ZP.out ?_)
  go_ret;rw [HU.out,RR.out];exact ⟨rfl,M.out.below⟩):q:=h
theorem stageOk_calls (p:Prog) (ps:List Value) (s:Sys) (ss:List Value) (t:Task) (ts:List Value) (w:World) (hp:kProg.K w p ps) (hs:kSys.K w s ss) (ht:kTask.K w t ts) (hz:ProgSz p) (hk:0<=s.clock/\s.clock<=200) (hbd:0<=t.body/\t.body < p.bodies.length) (hpc:0<=t.pc/\t.pc<=(actsAt p.bodies t.body.toNat).length):
  Calls Try.prog 64 #[.agg ps.toArray,.agg ss.toArray,.agg ts.toArray] w fun e w'=>e= .returned (.bool (stageB p s t))/\Below w.heap.size w w':=by
 have HPK:=am hp;have HTK:=am ht;have HPZ:=am hz;have HBD:=am hbd;have HPC:=am hpc;obtain ⟨Ac,cc,Ab,cb,rfl,-⟩:=kProg_open hp;obtain ⟨A0,c0,A1,c1,A3,c3,rfl,-⟩:=kSys_open hs;obtain ⟨B3,d3,B8,d8,B9,d9,B10,d10,rfl,-⟩:=kTask_open ht;have wc:wrap64 (s.clock+1)=s.clock+1:=Rd.wrap_in (by omega) (by omega);have M:=am (Own.nil w);have C:=M.out.cl;clear hp hs ht hz hbd hpc hk;by_cases h0:t.stage=0
 ·have ys:(t.stage == 0)=true:=by simp [h0]
  obtain ⟨b0,y0⟩:∃ b,(t.at_ == 0)=b:=⟨_,rfl⟩;obtain ⟨b1,y1⟩:∃ b,((t.reads.length:Int) == 0)=b:=⟨_,rfl⟩;obtain ⟨b2,y2⟩:∃ b,((t.puts.length:Int) == 0)=b:=⟨_,rfl⟩;obtain ⟨b3,y3⟩:∃ b,decide (0<=t.when_)=b:=⟨_,rfl⟩;have HU:Aside0 (stageB p s t=(b0 && b1 && b2 && b3 && decide (t.when_<=s.clock+1))):=⟨by unfold stageB;rw [if_pos h0,y0,y1,y2,y3]⟩;clear h0;go_enter Try.func64,Try.ntmps64;cases b0;exact stage0F;cases b1;exact stage0F;cases b2;exact stage0F;cases b3;exact stage0F;exact stage0F
 ·have ys:(t.stage == 0)=false:=by simpa using h0
  obtain ⟨bt,yt⟩:∃ b,decide (t.pc < (actsAt p.bodies t.body.toNat).length)=b:=⟨_,rfl⟩;have YT:=am yt;obtain ⟨a0,ha0⟩:∃ x,x=actAt (actsAt p.bodies t.body.toNat) t.pc.toNat:=⟨_,rfl⟩;have HA0:=am ha0;obtain ⟨b5,y5⟩:∃ b,decide (t.since < t.when_)=b:=⟨_,rfl⟩;obtain ⟨bw,yw⟩:∃ b,(t.way != 0)=b:=⟨_,rfl⟩;obtain ⟨bk,yk⟩:∃ b,(a0.kind != 1)=b:=⟨_,rfl⟩;have HU:Aside0 (stageB p s t=(!bw && bt && !bk && restB s t a0.deeds.length)):=⟨by unfold stageB;rw [if_neg h0,yw,yt,<-ha0,yk]⟩;have Y5:=am y5;clear h0 yt ha0;go_enter Try.func64,Try.ntmps64
  go_upto_region 4 with (first
  |((first|with_reducible refine gB ?_ | with_reducible refine gA ?_);refine oB rfl M.out ?_;clear M C;intro g W M C;simp only [Cl] at C)
  |((with_reducible refine gL ?_);refine oL rfl rfl M.out ?_)
  |((with_reducible refine gS ?_);refine oS rfl rfl rfl M.out ?_;clear M C;intro W M C;simp only [Cl] at C)
  |(go_at_call 104;refine (actAt_calls p _ t _ _ (kProg.K_below M.out.below HPK.out) (kTask.K_below M.out.below HTK.out) HPZ.out HBD.out.1 HBD.out.2 HPC.out.1 HPC.out.2).mono ?_;rintro e W ⟨a,vs,rfl,hk,hb,ha⟩;obtain ⟨Ad,cd,Ak,ck,rfl,-⟩:=kAct_open hk;rw [YT.out];replace M:=am (M.out.step hb);have HAA:=am ha;clear C hk hb ha;have C:=M.out.cl;simp only [Cl] at C))
  cases bw
  case true=>exact stageEF
  cases bt
  case false=>exact stageEF
  obtain rfl:a=a0:=(by rw [HA0.out];exact HAA.out (of_decide_eq_true YT.out));cases bk
  case true=>exact stageEF
  go_upto_region 6 with fail;cases b5
  all_goals
   refine dS M.out ?_;clear M C;intro W M;refine dN [0,1,2,3,4,5,6,7,8,9,10,11,12,13,14,15,16] M.out ?_;iterate 17 (first|refine sP rfl ?_ | refine sG rfl ?_ | refine sU rfl ?_)
   refine stillS_nil ?_;refine dD ?_;have C:=M.out.cl;simp only [Cl] at C;by_cases h1:t.stage=1
   ·obtain ⟨n0,zn0⟩:∃ b,decide (0<=t.at_)=b:=⟨_,rfl⟩
    obtain ⟨n1,zn1⟩:∃ b,decide (t.at_<=(a.deeds.length:Int))=b:=⟨_,rfl⟩;have RR:Aside0 (restB s t a.deeds.length=(n0 && n1 && (t.when_ == 0))):=⟨by unfold restB;rw [if_pos h1,zn0,zn1]⟩;have e1:(t.stage == 1)=true:=by simp [h1]
    clear h1;cases n0;exact stage1F;cases n1;exact stage1F;exact stage1F
   have e1:(t.stage == 1)=false:=by simpa using h1
   by_cases h2:t.stage=2
   ·obtain ⟨pl,zpl⟩:∃ b,placeB t.at_ t.puts.length=b:=⟨_,rfl⟩
    have RR:Aside0 (restB s t a.deeds.length=(pl && (t.when_ == 0))):=⟨by unfold restB;rw [if_neg h1,if_pos h2,zpl]⟩;have e2:(t.stage == 2)=true:=by simp [h2]
    have ZP:=am zpl;clear zpl;clear h2;cases pl;exact stage1F;exact stage1F
   have e2:(t.stage == 2)=false:=by simpa using h2
   by_cases h3:t.stage=3
   ·obtain ⟨n0,zn0⟩:∃ b,decide (0 < t.puts.length)=b:=⟨_,rfl⟩
    obtain ⟨n1,zn1⟩:∃ b,(t.at_ == 0)=b:=⟨_,rfl⟩;have RR:Aside0 (restB s t a.deeds.length=(n0 && n1 && (t.when_ == 0))):=⟨by unfold restB;rw [if_neg h1,if_neg h2,if_pos h3,zn0,zn1]⟩;have e3:(t.stage == 3)=true:=by simp [h3]
    clear h3;cases n0;exact stage1F;cases n1;exact stage1F;exact stage1F
   have e3:(t.stage == 3)=false:=by simpa using h3
   by_cases h4:t.stage=4
   ·obtain ⟨n0,zn0⟩:∃ b,decide (0 < t.puts.length)=b:=⟨_,rfl⟩
    obtain ⟨n1,zn1⟩:∃ b,decide (0<=t.at_)=b:=⟨_,rfl⟩;obtain ⟨n2,zn2⟩:∃ b,decide (t.at_<=(t.reads.length:Int))=b:=⟨_,rfl⟩;have RR:Aside0 (restB s t a.deeds.length=(n0 && n1 && n2 && (_ && decide (t.when_<=s.clock)))):=⟨by unfold restB;rw [if_neg h1,if_neg h2,if_neg h3,if_pos h4,zn0,zn1,zn2];unfold timedB;rw [Y5.out]⟩;have e4:(t.stage == 4)=true:=by simp [h4]
    clear h4;cases n0;exact stage1F;cases n1;exact stage1F;cases n2;exact stage1F;exact stage1F
   have e4:(t.stage == 4)=false:=by simpa using h4
   by_cases h5:t.stage=5
   ·obtain ⟨pl,zpl⟩:∃ b,placeB t.at_ t.puts.length=b:=⟨_,rfl⟩
    have RR:Aside0 (restB s t a.deeds.length=(pl && (_ && decide (t.when_<=s.clock)))):=⟨by unfold restB;rw [if_neg h1,if_neg h2,if_neg h3,if_neg h4,if_pos h5,zpl];unfold timedB;rw [Y5.out]⟩;have e5:(t.stage == 5)=true:=by simp [h5]
    have ZP:=am zpl;clear zpl;clear h5;cases pl;exact stage1F;exact stage1F
   have e5:(t.stage == 5)=false:=by simpa using h5
   have RR:Aside0 (restB s t a.deeds.length=false):=⟨by unfold restB;rw [if_neg h1,if_neg h2,if_neg h3,if_neg h4,if_neg h5]⟩;clear h1 h2 h3 h4 h5;exact stage1F
def formB (p:Prog) (s:Sys) (t:Task):Bool:=
 placeB t.body p.bodies.length && !decide (t.pc < 0) && !decide (((actsAt p.bodies t.body.toNat).length:Int) < t.pc) && !decide (t.way < 0) && !decide (4 < t.way) && numsOk t.regs 3 && numsOk t.old 3 &&
 !decide (t.since < 0) && !decide (s.clock < t.since) && !decide (t.from_ < 0) && !decide ((s.log.length:Int) < t.from_) && listOk t.reads s.cells.length && listOk t.puts s.cells.length
theorem formOk_calls (p:Prog) (ps:List Value) (s:Sys) (ss:List Value) (t:Task) (ts:List Value) (w:World) (hp:kProg.K w p ps) (hs:kSys.K w s ss) (ht:kTask.K w t ts) (hz:t.regs.length<=1048576/\t.old.length<=1048576/\t.reads.length<=1048576/\t.puts.length<=1048576):
  Calls Try.prog 63 #[.agg ps.toArray,.agg ss.toArray,.agg ts.toArray] w fun e w'=>e= .returned (.bool (formB p s t))/\Below w.heap.size w w':=by
 obtain ⟨Ac,cc,Ab,cb,rfl,-,-,-,gb⟩:=kProg_open hp;obtain ⟨A0,c0,A1,c1,A3,c3,rfl,-⟩:=kSys_open hs;obtain ⟨B3,d3,B8,d8,B9,d9,B10,d10,rfl,-,g3,-,g8,-,g9,-,g10⟩:=kTask_open ht;have G:=am (And.intro g3 (And.intro g8 (And.intro g9 (And.intro g10 hz))));obtain ⟨b1,y1⟩:∃ b,placeB t.body p.bodies.length=b:=⟨_,rfl⟩;obtain ⟨b2,y2⟩:∃ b,decide (t.pc < 0)=b:=⟨_,rfl⟩;obtain ⟨b3,y3⟩:∃ b,decide (((actsAt p.bodies t.body.toNat).length:Int) < t.pc)=b:=⟨_,rfl⟩;obtain ⟨b4,y4⟩:∃ b,decide (t.way < 0)=b:=⟨_,rfl⟩;obtain ⟨b5,y5⟩:∃ b,decide (4 < t.way)=b:=⟨_,rfl⟩;obtain ⟨b6,y6⟩:∃ b,numsOk t.regs 3=b:=⟨_,rfl⟩;obtain ⟨b7,y7⟩:∃ b,numsOk t.old 3=b:=⟨_,rfl⟩;obtain ⟨b8,y8⟩:∃ b,decide (t.since < 0)=b:=⟨_,rfl⟩;obtain ⟨b9,y9⟩:∃ b,decide (s.clock < t.since)=b:=⟨_,rfl⟩;obtain ⟨c1',z1⟩:∃ b,decide (t.from_ < 0)=b:=⟨_,rfl⟩;obtain ⟨c2',z2⟩:∃ b,decide ((s.log.length:Int) < t.from_)=b:=⟨_,rfl⟩;obtain ⟨c3',z3⟩:∃ b,listOk t.reads s.cells.length=b:=⟨_,rfl⟩;have HU:Aside0 (formB p s t=(b1 && !b2 && !b3 && !b4 && !b5 && b6 && b7 && !b8 && !b9 && !c1' && !c2' && c3' && listOk t.puts s.cells.length)):=⟨by unfold formB;rw [y1,y2,y3,y4,y5,y6,y7,y8,y9,z1,z2,z3]⟩;have Y1:=am y1;have Y6:=am y6;have Y7:=am y7;have Z3:=am z3;have M:=am (Own.nil w);have C:=M.out.cl;have GB:=am gb;clear hp hs ht g3 g8 g9 g10 hz y1 y6 y7 z3 gb
 cases b1 with
 | false=>
  clear y2 y3 y4 y5 y8 y9 z1 z2;go_enter Try.func63,Try.ntmps63;go_wp2_with (refine oB rfl M.out ?_;clear M C;intro g W M C;simp only [Cl] at C)
  refine dS M.out ?_;clear M C;intro W M;refine dN [0,1,2,3,4] M.out ?_;iterate 5 refine sP rfl ?_
  refine stillS_nil ?_;refine dC 5 rfl ?_;refine oEb (isPlace_calls _ _ _) Y1.out ?_;refine ⟨_,rfl,M,dA (dN [6,7,8,9,10,11,12,13,14,15,16,17,18,19,20,21,22,23] M.out ?_)⟩;iterate 18 (first|refine sP rfl ?_ | refine sG rfl ?_ | refine sU rfl ?_)
  refine stillS_nil (dD ?_);have C:=M.out.cl;simp only [Cl] at C
  go_wp2_with (first
  |(go_at_call 102;refine oEb (regsOk_calls _ _ _ _ (by first|exact Kd.C_below G.out.1 M.out.below | exact Kd.C_below G.out.2.1 M.out.below) (by first|exact G.out.2.2.2.2.1 | exact G.out.2.2.2.2.2.1)) (by first|exact Y6.out | exact Y7.out) ?_)
  |(go_at_call 103;refine oCb M.out (putsOk_calls _ _ _ _ _ (by first|exact Kd.C_below G.out.2.2.1 M.out.below | exact Kd.C_below G.out.2.2.2.1 M.out.below) (by first|exact G.out.2.2.2.2.2.2.1 | exact G.out.2.2.2.2.2.2.2)) (by first|exact Z3.out | rfl) ?_;clear M C;intro W M C;simp only [Cl] at C))
  go_ret;rw [HU.out]
  exact ⟨rfl,M.out.below⟩
 | true=>
  have hb:=(Bool.and_eq_true_iff).1 (show (decide (0<=t.body) && decide (t.body < (p.bodies.length:Int)))=true from Y1.out);have hb0:0<=t.body:=of_decide_eq_true hb.1;have hb1:t.body < p.bodies.length:=of_decide_eq_true hb.2;obtain ⟨kb,hkb0⟩:=Int.eq_ofNat_of_zero_le hb0;have hkb:kb < p.bodies.length:=by omega
  have v4:t.body.toNat=kb:=by omega
  obtain ⟨bb,ob,cs2,rfl,hcl2,hK2,hcc2,-⟩:=C_field GB.out ([]:List Act) kb hkb (by decide);obtain ⟨Aa,ca,rfl,la,-⟩:=hK2;have p2:=hcc2 0 _ rfl;simp only [show (Kd.slice 108 kAct).sz=1 from rfl,Nat.mul_one,Nat.add_zero] at p2;rw [v4] at y3;rw [show (p.bodies.getD kb []).length=(actsAt p.bodies kb).length from rfl] at p2;generalize (actsAt p.bodies kb).length=na at p2 y3;replace M:=am (M.out.far p2);clear C hcl2 hcc2 p2 la hkb0 hb hkb;have C:=M.out.cl;simp only [Cl] at C;cases b2;cases b3;cases b4;cases b5;cases b6;rotate_left;cases b7;rotate_left;cases b8;cases b9;cases c1';cases c2';cases c3';rotate_left
  all_goals
   go_enter Try.func63,Try.ntmps63;go_wp2_with (refine oB rfl M.out ?_;clear M C;intro g W M C;simp only [Cl] at C)
   refine dS M.out ?_;clear M C;intro W M;refine dN [0,1,2,3,4] M.out ?_;iterate 5 refine sP rfl ?_
   refine stillS_nil ?_;refine dC 5 rfl ?_;refine oEb (isPlace_calls _ _ _) Y1.out ?_;refine ⟨_,rfl,M,dA (dN [6,7,8,9,10,11,12,13,14,15,16,17,18,19,20,21,22,23] M.out ?_)⟩;iterate 18 (first|refine sP rfl ?_ | refine sG rfl ?_ | refine sU rfl ?_)
   refine stillS_nil (dD ?_);have C:=M.out.cl;simp only [Cl] at C
   go_wp2_with (first
   |(go_at_call 102;refine oEb (regsOk_calls _ _ _ _ (by first|exact Kd.C_below G.out.1 M.out.below | exact Kd.C_below G.out.2.1 M.out.below) (by first|exact G.out.2.2.2.2.1 | exact G.out.2.2.2.2.2.1)) (by first|exact Y6.out | exact Y7.out) ?_)
   |(go_at_call 103;refine oCb M.out (putsOk_calls _ _ _ _ _ (by first|exact Kd.C_below G.out.2.2.1 M.out.below | exact Kd.C_below G.out.2.2.2.1 M.out.below) (by first|exact G.out.2.2.2.2.2.2.1 | exact G.out.2.2.2.2.2.2.2)) (by first|exact Z3.out | rfl) ?_;clear M C;intro W M C;simp only [Cl] at C))
   go_ret;rw [HU.out];exact ⟨rfl,M.out.below⟩
def begunTo (s:Sys) (ks:List Int) (n:Nat):Nat:=cntTo (fun j=> !decide ((taskAt s.tasks (rd ks j).toNat).way=4)) n
def wayB (p:Prog) (s:Sys) (i:Nat):Bool:=
 let t:=taskAt s.tasks i
 let acts:=actsAt p.bodies t.body.toNat
 if t.way=1 then decide (t.pc < acts.length) && ((actAt acts t.pc.toNat).kind == 2) && decide ((actAt acts t.pc.toNat).kids.length<=begunTo s (kids s.tasks i) (kids s.tasks i).length)
 else if t.way=2 then !decide (t.pc < acts.length) else true
theorem rd_mem {ks:List Int} {k:Nat} (h:k < ks.length):rd ks (k:Int) ∈ ks:=by
 unfold rd;rw [Int.toNat_natCast,List.getD_eq_getElem?_getD,List.getElem?_eq_getElem h];exact List.getElem_mem h
theorem wayEF {q:Prop} (h:q:=by
  go_wp2;go_ret;rw [HU.out];exact ⟨rfl,M.out.below⟩):q:=h
theorem wayLF {q:Prop} (h:q:=by
  go_wp2;go_ret;rw [HU.out];exact ⟨rfl,below_step HB0.out M.out.below⟩):q:=h
theorem wayOk_calls (p:Prog) (ps:List Value) (s:Sys) (ss:List Value) (i:Nat) (w:World) (hp:kProg.K w p ps) (hs:kSys.K w s ss) (hz:ProgSz p) (hi:i < s.tasks.length) (hn:s.tasks.length<=1048576) (hbd:0<=(taskAt s.tasks i).body/\(taskAt s.tasks i).body < p.bodies.length) (hpc:0<=(taskAt s.tasks i).pc/\(taskAt s.tasks i).pc<=(actsAt p.bodies (taskAt s.tasks i).body.toNat).length):
  Calls Try.prog 66 #[.agg ps.toArray,.agg ss.toArray,.int .i64 i] w fun e w'=>e= .returned (.bool (wayB p s i))/\Below w.heap.size w w':=by
 have HPK:=am hp;have HSK:=am hs;have HPZ:=am hz;have HN:=am hn;obtain ⟨Ac,cc,Ab,cb,rfl,-⟩:=kProg_open hp;obtain ⟨A0,c0,A1,c1,A3,c3,rfl,-,-,-,g1,-⟩:=kSys_open hs;obtain ⟨b,o,cs,rfl,hcl,hK,hcc,-⟩:=C_field g1 zTask i hi (by decide);obtain ⟨t,ht⟩:∃ x,x=taskAt s.tasks i:=⟨_,rfl⟩;rw [<-ht] at hbd hpc;rw [show s.tasks.getD i zTask=t from ht.symm] at hK;have HTK:=am hK;obtain ⟨B3,d3,B8,d8,B9,d9,B10,d10,rfl,-⟩:=kTask_open hK;have HC:=am hcc;have G1:=am g1;have HBD:=am hbd;have HPC:=am hpc;obtain ⟨bt,yt⟩:∃ b,decide (t.pc < (actsAt p.bodies t.body.toNat).length)=b:=⟨_,rfl⟩;have YT:=am yt;obtain ⟨a0,ha0⟩:∃ x,x=actAt (actsAt p.bodies t.body.toNat) t.pc.toNat:=⟨_,rfl⟩;have HA0:=am ha0;obtain ⟨ks,hks⟩:∃ x,x=kids s.tasks i:=⟨_,rfl⟩;have HKS:=am hks;have HU:Aside0 (wayB p s i=if t.way=1 then bt && (a0.kind == 2) && decide (a0.kids.length<=begunTo s ks ks.length) else if t.way=2 then !bt else true):=⟨by rw [hks,ha0,<-yt,ht];rfl⟩;have q0:(0:Int)<=(i:Int):=by omega
 have q1:(i:Int) < (s.tasks.length:Int):=by omega
 have M:=am (Own.nil w);have C:=M.out.cl;clear hp hs hz hK hcc hcl yt ha0 hks g1 hbd hpc hi hn ht;go_enter Try.func66,Try.ntmps66
 go_upto_region 3 with (first
 |((first|with_reducible refine gB ?_ | with_reducible refine gA ?_);refine oB rfl M.out ?_;clear M C;intro g W M C;simp only [Cl] at C)
 |((with_reducible refine gL ?_);refine oR rfl rfl M.out HC.out ?_)
 |((with_reducible refine gL ?_);refine oL rfl rfl M.out ?_)
 |((with_reducible refine gS ?_);refine oS rfl rfl rfl M.out ?_;clear M C;intro W M C;simp only [Cl] at C)
 |(go_at_call 104;refine (actAt_calls p _ t _ _ (kProg.K_below M.out.below HPK.out) (kTask.K_below M.out.below HTK.out) HPZ.out HBD.out.1 HBD.out.2 HPC.out.1 HPC.out.2).mono ?_;rintro e W ⟨a,vs,rfl,hk,hb,ha⟩;obtain ⟨Ad,cd,Ak,ck,rfl,-⟩:=kAct_open hk;rw [YT.out];have HAA:=am ha;clear hk ha;replace M:=am (M.out.step hb);clear C;have C:=M.out.cl;simp only [Cl] at C;clear hb))
 by_cases h1:t.way=1
 ·have y1:(t.way == 1)=true:=by simp [h1]
  replace HU:=am (HU.out.trans (if_pos h1));clear h1
  go_wp2_with (first
  |((first|with_reducible refine gB ?_ | with_reducible refine gA ?_);refine oB rfl M.out ?_;clear M C;intro g W M C;simp only [Cl] at C)
  |((with_reducible refine gL ?_);refine oR rfl rfl M.out HC.out ?_)
  |((with_reducible refine gL ?_);refine oL rfl rfl M.out ?_)
  |((with_reducible refine gS ?_);refine oS rfl rfl rfl M.out ?_;clear M C;intro W M C;simp only [Cl] at C)
  |(go_at_call 31;refine (implKids_calls s _ _ _ (kSys.K_below M.out.below HSK.out) HN.out).mono ?_;rintro e W1 ⟨v,rfl,hv,hb⟩;obtain ⟨A,c,rfl,-,hcv⟩:=Kd.R_reads hv;have HB0:=am (below_step M.out.below hb);have KX:=am hcv;clear hv hcv;have M1:=am (M.out.step hb).rebase;simp only [List.map_cons,List.map_nil,En.old] at M1;clear M C hb;have M:=M1;clear M1;have C:=M.out.cl;simp only [Cl] at C))
  rw [<-HKS.out] at KX ⊢;obtain ⟨L,EL,ML⟩:=Own.named M;go_loopw [10,12,32] (fun bv _ j w'=>∃ k:Nat,k<=ks.length/\bv= .int .i64 (begunTo s ks k:Nat)/\j= .int .i64 k/\Aside0 (Own W1 w' L)) (fun _ _ j _=>ks.length - (intOf j).toNat)
  case atStart=>exact ⟨0,Nat.zero_le _,rfl,rfl,ML⟩
  case round=>
   obtain ⟨k,hk,rfl,rfl,M2⟩:=hrel;have e:=EL.out;subst e;clear M C ML EL;have M:=M2;clear M2;have C:=M.out.cl;simp only [Cl] at C;by_cases hlt:k < ks.length
   ·have s0:(0:Int)<=(k:Int):=by omega
    have s1:(k:Int) < (ks.length:Int):=by omega
    obtain ⟨ad,ed,hx⟩:=Kd.at_int KX.out (k:Int) s0 s1;cases ed;simp only [Int.toNat_natCast] at hx;obtain ⟨n,hn,-,-,-,hkn⟩:=mem_kids.1 (show rd ks (k:Int) ∈ kids s.tasks i by rw [<-HKS.out];exact rd_mem hlt);rw [hkn] at hx;obtain ⟨b',o',cs',eb,hcl',hK',hcc',-⟩:=C_field (Kd.C_below G1.out HB0.out) zTask n hn (by decide);cases eb;obtain ⟨B3',d3',B8',d8',B9',d9',B10',d10',rfl,-⟩:=kTask_open hK';have p4:=hcc' 4 _ rfl;rw [show s.tasks.getD n zTask=taskAt s.tasks n from rfl] at p4;simp only [show kTask.sz=13 from rfl] at p4;have HL:ks.length<=1048576:=by rw [HKS.out];exact Nat.le_trans (pickTo_length _ _) HN.out
    replace M:=am ((M.out.far hx).far p4);clear C;have C:=M.out.cl;simp only [Cl] at C;have n0:(0:Int)<=(n:Int):=by omega
    have n1:(n:Int) < (s.tasks.length:Int):=by omega
    have hb:begunTo s ks (k+1)=begunTo s ks k+if (!decide ((taskAt s.tasks n).way=4)) then 1 else 0:=by
     show begunTo s ks k+(if (!decide ((taskAt s.tasks (rd ks (k:Int)).toNat).way=4)) then 1 else 0)=_;rw [hkn,Int.toNat_natCast]
    have hle:begunTo s ks k<=k:=cntTo_le _ _;have HX:=am (And.intro hb hle);clear hx hK' hcc' hcl' p4 hkn hb hle;by_cases h4:(taskAt s.tasks n).way=4
    ·have y4:((taskAt s.tasks n).way != 4)=false:=by simp [h4]
     go_wp2;go_roundw
     case rel=>exact ⟨k+1,by omega,by rw [HX.out.1,decide_eq_true h4];rfl,by go_num,⟨M.out.pop.pop⟩⟩
     case measure=>simp [intOf];omega
    ·have y4:((taskAt s.tasks n).way != 4)=true:=by simp [h4]
     go_wp2;go_roundw
     case rel=>exact ⟨k+1,by omega,by rw [HX.out.1,decide_eq_false h4,Rd.wrap_in (by omega) (by have:=HX.out.2;omega)];rfl,by go_num,⟨M.out.pop.pop⟩⟩
     case measure=>simp [intOf];omega
   ·obtain rfl:k=ks.length:=by omega
    have s1:¬ (ks.length:Int) < (ks.length:Int):=by omega
    cases bt
    case false=>exact wayLF
    obtain rfl:a=a0:=(by rw [HA0.out];exact HAA.out (of_decide_eq_true YT.out));obtain ⟨bk,yk⟩:∃ b,(a.kind == 2)=b:=⟨_,rfl⟩;rw [yk] at HU;cases bk
    case false=>exact wayLF
    exact wayLF
 ·have y1:(t.way == 1)=false:=by simpa using h1
  have HU1:=am (HU.out.trans (if_neg h1));clear h1 HU;by_cases h2:t.way=2
  ·have y2:(t.way == 2)=true:=by simp [h2]
   have HU:=am (HU1.out.trans (if_pos h2));exact wayEF
  ·have y2:(t.way == 2)=false:=by simpa using h2
   have HU:=am (HU1.out.trans (if_neg h2));exact wayEF
end Go.Proofs.Ytimamoimphjakaa.Eq
namespace Go.Proofs.Ytimamoimphjakaa.Eq
def must (t:Task):List Put:=if t.stage=2 then t.puts.take t.at_.toNat else if t.stage=3\/t.stage=4 then t.puts else if t.stage=5 then t.puts.drop t.at_.toNat else []
theorem asc_one {l:List Put} (h:l.Pairwise fun x y=>x.cell < y.cell) {i j:Nat} (hi:i < l.length) (hj:j < l.length) (he:l[i].cell=l[j].cell):i=j:=by
 rw [List.pairwise_iff_getElem] at h;rcases Nat.lt_trichotomy i j with h1 | h1 | h1
 ·have:=h i j hi hj h1
  omega
 ·exact h1
 ·have:=h j i hj hi h1
  omega
theorem findP_no {l:List Put} {c:Int} (h:findP l c=none):∀ x ∈ l,x.cell ≠ c:=by
 unfold findP at h;rw [List.findIdx?_eq_none_iff] at h;intro x hx;simpa using h x hx
theorem findP_yes {l:List Put} {c:Int} {i:Nat} (h:findP l c=some i):∃ hi:i < l.length,l[i].cell=c:=by
 unfold findP at h;rw [List.findIdx?_eq_some_iff_getElem] at h;exact ⟨h.1,by simpa using h.2.1⟩
theorem holds_must {n:Nat} {t:Task} (h:PutsIn n t.puts) (h0:0<=t.at_) {c:Int}:holds t c=true ↔ ∃ x ∈ must t,x.cell=c:=by
 unfold holds must
 cases hf:findP t.puts c with
 | none=>
  have hn:=findP_no hf;constructor
  ·intro hh
   cases hh
  ·rintro ⟨x,hx,hc⟩
   exfalso;refine hn x ?_ hc;split at hx
   ·exact List.mem_of_mem_take hx
   ·split at hx
    ·exact hx
    ·split at hx
     ·exact List.mem_of_mem_drop hx
     ·simp at hx
 | some i=>
  obtain ⟨hi,hc⟩:=findP_yes hf;have hone:∀ j (hj:j < t.puts.length),t.puts[j].cell=c->j=i:=fun j hj hjc=>asc_one h.asc hj hi (hjc.trans hc.symm)
  show (if t.stage=2 then decide ((i:Int) < t.at_) else if t.stage=3\/t.stage=4 then true else if t.stage=5 then decide (t.at_<=i) else false)=true ↔ _;by_cases h2:t.stage=2
  ·rw [if_pos h2,if_pos h2,decide_eq_true_eq]
   constructor
   ·intro hlt
    exact ⟨t.puts[i],by rw [List.mem_take_iff_getElem];exact ⟨i,by omega,rfl⟩,hc⟩
   ·rintro ⟨x,hx,hxc⟩
    rw [List.mem_take_iff_getElem] at hx;obtain ⟨j,hj,rfl⟩:=hx;have:=hone j (by omega) hxc;omega
  ·rw [if_neg h2,if_neg h2]
   by_cases h3:t.stage=3\/t.stage=4
   ·rw [if_pos h3,if_pos h3]
    exact ⟨fun _=>⟨_,List.getElem_mem hi,hc⟩,fun _=>rfl⟩
   ·rw [if_neg h3,if_neg h3]
    by_cases h5:t.stage=5
    ·rw [if_pos h5,if_pos h5,decide_eq_true_eq]
     constructor
     ·intro hle
      refine ⟨t.puts[i], ?_,hc⟩;rw [List.mem_iff_getElem];exact ⟨i - t.at_.toNat,by rw [List.length_drop];omega,by rw [List.getElem_drop];congr 1;omega⟩
     ·rintro ⟨x,hx,hxc⟩
      rw [List.mem_iff_getElem] at hx;obtain ⟨j,hj,rfl⟩:=hx;rw [List.length_drop] at hj;rw [List.getElem_drop] at hxc;have:=hone _ (by omega) hxc;omega
    ·rw [if_neg h5,if_neg h5]
     constructor
     ·intro hh
      cases hh
     ·rintro ⟨x,hx,_⟩
      simp at hx
theorem must_asc {n:Nat} {t:Task} (h:PutsIn n t.puts):(must t).Pairwise (fun x y=>x.cell < y.cell)/\∀ x ∈ must t,0<=x.cell/\x.cell < n:=by
 unfold must;split
 ·exact ⟨h.asc.take,fun x hx=>h.cell x (List.mem_of_mem_take hx)⟩
 ·split
  ·exact ⟨h.asc,h.cell⟩
  ·split
   ·exact ⟨h.asc.drop,fun x hx=>h.cell x (List.mem_of_mem_drop hx)⟩
   ·exact ⟨List.Pairwise.nil,fun x hx=>by simp at hx⟩
def place:List (Nat × Nat)->List Int->Option (List Int)
 | [],h=>some h
 | q :: l,h=>if numAt h q.1= -1 then place l (h.set q.1 q.2) else none
theorem place_free:∀ {l:List (Nat × Nat)} {h h':List Int},place l h=some h'->(∀ q ∈ l,q.1 < h.length)->∀ q ∈ l,numAt h q.1= -1
 | [],h,h',_,_=>fun q hq=>by simp at hq
 | a :: l,h,h',hp,hl=>by
  unfold place at hp;split at hp
  ·rename_i ha
   intro q hq;rcases List.mem_cons.1 hq with rfl | hq
   ·exact ha
   ·have:=place_free hp (fun q hq=>by rw [List.length_set];exact hl q (by simp [hq])) q hq
    rw [numAt_set (hl a (by simp))] at this;split at this
    ·omega
    ·exact this
  ·cases hp
theorem place_some:∀ {l:List (Nat × Nat)} {h h':List Int},place l h=some h'->(∀ q ∈ l,q.1 < h.length)->h'.length=h.length/\(∀ q ∈ l,numAt h' q.1=q.2)/\∀ c,(∀ q ∈ l,q.1 ≠ c)->numAt h' c=numAt h c
 | [],h,h',hp,_=>by
  unfold place at hp;cases hp
  exact ⟨rfl,fun q hq=>by simp at hq,fun _ _=>rfl⟩
 | a :: l,h,h',hp,hl=>by
  unfold place at hp;split at hp
  ·rename_i ha
   have hl':∀ q ∈ l,q.1 < (h.set a.1 a.2).length:=fun q hq=>by rw [List.length_set];exact hl q (by simp [hq])
   obtain ⟨h1,h2,h3⟩:=place_some hp hl';have h4:=place_free hp hl';refine ⟨by rw [h1,List.length_set],fun q hq=> ?_,fun c hc=> ?_⟩
   ·rcases List.mem_cons.1 hq with rfl | hq
    ·rw [h3 q.1 (fun r hr he=> ?_),numAt_set (hl q (by simp)),if_pos rfl]
     have:=h4 r hr
     rw [he,numAt_set (hl q (by simp)),if_pos rfl] at this;omega
    ·exact h2 q hq
   ·rw [h3 c (fun q hq=>hc q (by simp [hq])),numAt_set (hl a (by simp)),if_neg (hc a (by simp))]
  ·cases hp
theorem place_can:∀ {l:List (Nat × Nat)} {h:List Int},(∀ q ∈ l,q.1 < h.length/\numAt h q.1= -1)->(l.map Prod.fst).Nodup->∃ h',place l h=some h'
 | [],h,_,_=>⟨h,rfl⟩
 | a :: l,h,hl,hn=>by
  rw [List.map_cons,List.nodup_cons] at hn;unfold place;rw [if_pos (hl a (by simp)).2];refine place_can (fun q hq=>⟨by rw [List.length_set];exact (hl q (by simp [hq])).1, ?_⟩) hn.2;rw [numAt_set (hl a (by simp)).1,if_neg]
  ·exact (hl q (by simp [hq])).2
  ·intro he
   exact hn.1 (he ▸ List.mem_map_of_mem hq)
def musts (s:Sys):List (Nat × Nat):=((List.range s.tasks.length).map fun k=>(must (taskAt s.tasks k)).map fun x=>(x.cell.toNat,k)).flatten
def locksOk (s:Sys):Bool:=
 match place (musts s) (List.replicate s.cells.length (-1)) with
 | none=>false
 | some h=>allB s.cells.length fun i=>decide ((cellAt s.cells i).lock=numAt h i)
theorem numAt_rep {n i:Nat} (h:i < n):numAt (List.replicate n (-1)) i= -1:=by simp [numAt,h]
theorem mem_musts {s:Sys} {c k:Nat} (hp:∀ i,i < s.tasks.length->PutsIn s.cells.length (taskAt s.tasks i).puts) (h0:∀ i,i < s.tasks.length->0<=(taskAt s.tasks i).at_):(c,k) ∈ musts s ↔ k < s.tasks.length/\holds (taskAt s.tasks k) c=true:=by
 unfold musts;rw [List.mem_flatten];constructor
 ·rintro ⟨l,hl,hq⟩
  obtain ⟨j,hj,rfl⟩:=List.mem_map.1 hl;rw [List.mem_range] at hj;obtain ⟨x,hx,he⟩:=List.mem_map.1 hq;injection he with he1 he2;subst he2;refine ⟨hj,(holds_must (hp j hj) (h0 j hj)).2 ⟨x,hx, ?_⟩⟩;have:=(must_asc (hp j hj)).2 x hx;omega
 ·rintro ⟨hk,hh⟩
  obtain ⟨x,hx,he⟩:=(holds_must (hp k hk) (h0 k hk)).1 hh;exact ⟨_,List.mem_map.2 ⟨k,List.mem_range.2 hk,rfl⟩,List.mem_map.2 ⟨x,hx,by rw [he];simp⟩⟩
theorem musts_lt {s:Sys} (hp:∀ i,i < s.tasks.length->PutsIn s.cells.length (taskAt s.tasks i).puts):∀ q ∈ musts s,q.1 < s.cells.length:=by
 intro q hq;unfold musts at hq;obtain ⟨l,hl,hq⟩:=List.mem_flatten.1 hq;obtain ⟨j,hj,rfl⟩:=List.mem_map.1 hl;rw [List.mem_range] at hj;obtain ⟨x,hx,rfl⟩:=List.mem_map.1 hq;have:=(must_asc (hp j hj)).2 x hx;show x.cell.toNat < _;omega
theorem locks_iff {s:Sys} (hp:∀ i,i < s.tasks.length->PutsIn s.cells.length (taskAt s.tasks i).puts) (h0:∀ i,i < s.tasks.length->0<=(taskAt s.tasks i).at_):
  locksOk s=true ↔ ∀ i,i < s.cells.length->(-1<=(cellAt s.cells i).lock/\(cellAt s.cells i).lock<=s.tasks.length - 1)/\∀ k,k < s.tasks.length->(holds (taskAt s.tasks k) i=true ↔ (cellAt s.cells i).lock=k):=by
 have hlt:∀ q ∈ musts s,q.1 < (List.replicate s.cells.length (-1:Int)).length:=fun q hq=>by rw [List.length_replicate];exact musts_lt hp q hq
 unfold locksOk;constructor
 ·intro h
  cases hpl:place (musts s) (List.replicate s.cells.length (-1)) with
  | none=>rw [hpl] at h;cases h
  | some g=>
   rw [hpl] at h;obtain ⟨_,g2,g3⟩:=place_some hpl hlt;intro i hi
   have hli:(cellAt s.cells i).lock=numAt g i:=by
    have:=allB_iff.1 h i hi
    simpa using this
   by_cases hex:∃ k,(i,k) ∈ musts s
   ·obtain ⟨k,hk⟩:=hex
    have hgk:=g2 _ hk;have hk':=(mem_musts hp h0).1 hk;rw [hli,show numAt g i=(k:Int) from hgk];refine ⟨by omega,fun j hj=>⟨fun hh=> ?_,fun he=> ?_⟩⟩
    ·have:=g2 _ ((mem_musts hp h0).2 ⟨hj,hh⟩)
     rw [<-this];exact hgk.symm
    ·have:k=j:=by omega
     rw [<-this];exact hk'.2
   ·have hg:numAt g i= -1:=by
     rw [g3 i (fun q hq he=>hex ⟨q.2,by rw [<-he];exact hq⟩),numAt_rep hi]
    rw [hli,hg];refine ⟨by omega,fun j hj=>⟨fun hh=>absurd ⟨j,(mem_musts hp h0).2 ⟨hj,hh⟩⟩ hex,fun he=>by omega⟩⟩
 ·intro h
  have hnd:((musts s).map Prod.fst).Nodup:=by
   have he:(musts s).map Prod.fst=((List.range s.tasks.length).map fun k=>(must (taskAt s.tasks k)).map fun x=>x.cell.toNat).flatten:=by
    unfold musts;rw [List.map_flatten,List.map_map];congr 1;refine List.map_congr_left fun k _=> ?_
    simp only [Function.comp,List.map_map];rfl
   rw [he];refine nodup_flat (fun k hk=> ?_) ?_
   ·rw [List.mem_range] at hk
    obtain ⟨h1,h2⟩:=must_asc (hp k hk);rw [List.Nodup,List.pairwise_map];refine List.Pairwise.imp_of_mem (fun {a b} ha hb hab=> ?_) h1;have:=h2 a ha;have:=h2 b hb;omega
   ·refine List.Pairwise.imp_of_mem (fun {a b} ha hb hab c hca hcb=> ?_) List.pairwise_lt_range
    rw [List.mem_range] at ha hb;obtain ⟨x,hx,rfl⟩:=List.mem_map.1 hca;obtain ⟨y,hy,hxy⟩:=List.mem_map.1 hcb;have hx2:=(must_asc (hp a ha)).2 x hx;have hy2:=(must_asc (hp b hb)).2 y hy;have hc:=(h x.cell.toNat (by omega)).2;have h1:=(hc a ha).1 ((holds_must (hp a ha) (h0 a ha)).2 ⟨x,hx,by omega⟩);have h2:=(hc b hb).1 ((holds_must (hp b hb) (h0 b hb)).2 ⟨y,hy,by omega⟩);omega
  obtain ⟨g,hg⟩:=place_can (h:=List.replicate s.cells.length (-1)) (fun q hq=>⟨hlt q hq,numAt_rep (musts_lt hp q hq)⟩) hnd;obtain ⟨_,g2,g3⟩:=place_some hg hlt;rw [hg];show allB _ _=true;rw [allB_iff];intro i hi;rw [decide_eq_true_eq];obtain ⟨h1,h2⟩:=h i hi;by_cases hex:∃ k,(i,k) ∈ musts s
  ·obtain ⟨k,hk⟩:=hex
   have hk':=(mem_musts hp h0).1 hk;rw [(h2 k hk'.1).1 hk'.2];exact (g2 _ hk).symm
  ·have hgi:numAt g i= -1:=by
    rw [g3 i (fun q hq he=>hex ⟨q.2,by rw [<-he];exact hq⟩),numAt_rep hi]
   rw [hgi];by_cases hl:(cellAt s.cells i).lock= -1
   ·exact hl
   ·exfalso
    have hk:(cellAt s.cells i).lock.toNat < s.tasks.length:=by omega
    have:=(h2 _ hk).2 (by omega)
    exact hex ⟨_,(mem_musts hp h0).2 ⟨hk,this⟩⟩
end Go.Proofs.Ytimamoimphjakaa.Eq
namespace Go.Proofs.Ytimamoimphjakaa.Eq
open Go.RowKit Go.Proofs.YtimamoimphjakaaW.PrintWords Go.Proofs.YtimamoimphjakaaW.PrintLast Go.Proofs.YtimamoimphjakaaW.PrintMore
def MustPost (t:Task) (ts:List Value) (w:World) (e:Ending) (w':World):Prop:=∃ A c,e= .returned (.slice A (must t).length c)/\(∀ V,kTask.K V t ts->kPut.C V A (must t).length (must t))/\Below w.heap.size w w'
theorem task_puts {V:World} {t:Task} {a0 a1 a2 a3 a4 a5 a6 a7 a8 a9 a11 a12:Value} {A:Option Addr} {n c:Nat} (h:kTask.K V t [a0,a1,a2,a3,a4,a5,a6,a7,a8,a9,.slice A n c,a11,a12]):kPut.C V A t.puts.length t.puts:=by
 obtain ⟨_,_,_,_,_,_,_,_,he,-,-,-,-,-,-,-,g10⟩:=kTask_open h;simp only [List.cons.injEq,Value.slice.injEq,true_and] at he;obtain ⟨-,-,-,-,-,-,-,-,-,-,⟨rfl,-,-⟩,-⟩:=he;exact g10
theorem mustHold_calls (t:Task) (ts:List Value) (w:World) (ht:kTask.K w t ts) (hz:t.puts.length<=1048576) (h25:t.stage=2\/t.stage=5->0<=t.at_/\t.at_<=t.puts.length):
  Calls Try.prog 105 #[.agg ts.toArray] w (MustPost t ts w):=by
 obtain ⟨B3,d3,B8,d8,B9,d9,B10,d10,rfl,-,-,-,-,-,-,l10,g10⟩:=kTask_open ht;obtain ⟨i0,hi0,_,hsz,_⟩:=info_parts info_put;have G:=am g10;have M:=am (Own.nil w);have C:=M.out.cl;clear ht g10;go_enter Try.func105,Try.ntmps105;by_cases h2:t.stage=2
 ·have y2:(t.stage == 2)=true:=by simp [h2]
  obtain ⟨p0,p1⟩:=h25 (Or.inl h2);have HM:Aside0 (must t=t.puts.take t.at_.toNat):=⟨by unfold must;rw [if_pos h2]⟩;have hl:(t.puts.take t.at_.toNat).length=t.at_.toNat:=by rw [List.length_take];omega
  have hcut:=cut_to (P:=Try.prog) 36 103 .i64 Try.underlying36 hi0 B10 t.puts.length d10 t.at_ p0 p1 l10;have HLE:t.at_.toNat<=t.puts.length:=by omega
  have HL:=am hl;have q0:(0<=t.at_)=True:=eq_true p0;have q1:(t.at_<=(t.puts.length:Int))=True:=eq_true p1;clear h2 hi0 hl p0 p1 l10 h25
  go_wp2_with (first
  |((first|with_reducible refine gB ?_ | with_reducible refine gA ?_);refine oB rfl M.out ?_;clear M C;intro g W M C;simp only [Cl] at C))
  go_ret;exact ⟨B10,d10,by rw [HM.out,HL.out];rfl,by rw [HM.out];exact fun V hV=>Kd.C_take (task_puts hV) (by omega),M.out.below⟩
 by_cases h34:t.stage=3\/t.stage=4
 ·have HM:Aside0 (must t=t.puts):=⟨by unfold must;rw [if_neg h2,if_pos h34]⟩
  have y2:(t.stage == 2)=false:=by simpa using h2
  clear h2 hi0 l10 h25 hsz;rcases h34 with h3 | h3
  all_goals
   obtain ⟨b3,y3⟩:∃ b,(t.stage == 3)=b:=⟨_,rfl⟩;obtain ⟨b4,y4⟩:∃ b,(t.stage == 4)=b:=⟨_,rfl⟩;rw [h3] at y3 y4;cases y3;cases y4;have y3:(t.stage == 3)=_:=congrArg (· == (3:Int)) h3;have y4:(t.stage == 4)=_:=congrArg (· == (4:Int)) h3;simp only [Int.reduceBEq] at y3 y4;clear h3
   go_wp2_with (first
   |((first|with_reducible refine gB ?_ | with_reducible refine gA ?_);refine oB rfl M.out ?_;clear M C;intro g W M C;simp only [Cl] at C))
   go_ret;exact ⟨B10,d10,by rw [HM.out];rfl,by rw [HM.out];exact fun V hV=>task_puts hV,M.out.below⟩
 have y2:(t.stage == 2)=false:=by simpa using h2
 have y3:(t.stage == 3)=false:=by simp;omega
 have y4:(t.stage == 4)=false:=by simp;omega
 by_cases h5:t.stage=5
 ·have y5:(t.stage == 5)=true:=by simp [h5]
  obtain ⟨p0,p1⟩:=h25 (Or.inr h5);have HM:Aside0 (must t=t.puts.drop t.at_.toNat):=⟨by unfold must;rw [if_neg h2,if_neg h34,if_pos h5]⟩;have hl:(t.puts.drop t.at_.toNat).length=t.puts.length - t.at_.toNat:=List.length_drop;have hcut:=cut_from (P:=Try.prog) 36 103 .i64 Try.underlying36 hi0 2 hsz B10 t.puts.length d10 t.at_ p0 p1;have HLE:t.at_.toNat<=t.puts.length:=by omega
  obtain ⟨A,hA⟩:∃ A,A=(if d10=t.at_.toNat then B10 else B10.map (·.add (t.at_.toNat*2))):=⟨_,rfl⟩;rw [<-hA] at hcut;have HA:=am hA;clear hA;have HL:=am hl;have q0:(0<=t.at_)=True:=eq_true p0;have q1:(t.at_<=(t.puts.length:Int))=True:=eq_true p1;clear h2 h34 h5 hi0 hl p0 p1 h25
  go_wp2_with (first
  |((first|with_reducible refine gB ?_ | with_reducible refine gA ?_);refine oB rfl M.out ?_;clear M C;intro g W M C;simp only [Cl] at C))
  go_ret;exact ⟨A,d10 - t.at_.toNat,by rw [HM.out,HL.out];rfl,by rw [HM.out,HA.out];exact fun V hV=>Kd.C_drop (task_puts hV) (by omega) l10,M.out.below⟩
 have y5:(t.stage == 5)=false:=by simpa using h5
 have HM:Aside0 (must t= []):=⟨by unfold must;rw [if_neg h2,if_neg h34,if_neg h5]⟩;clear h2 h34 h5 hi0 l10 h25
 go_wp2_with (first
 |((first|with_reducible refine gB ?_ | with_reducible refine gA ?_);refine oB rfl M.out ?_;clear M C;intro g W M C;simp only [Cl] at C))
 go_ret;exact ⟨none,0,by rw [HM.out];rfl,by rw [HM.out];exact fun V _=>C_nil _ _,M.out.below⟩
def mustsTo (s:Sys) (n:Nat):List (Nat × Nat):=((List.range n).map fun k=>(must (taskAt s.tasks k)).map fun x=>(x.cell.toNat,k)).flatten
theorem mustsTo_succ (s:Sys) (n:Nat):mustsTo s (n+1)=mustsTo s n ++ (must (taskAt s.tasks n)).map fun x=>(x.cell.toNat,n):=by simp [mustsTo,List.range_succ]
theorem place_app:∀ (a b:List (Nat × Nat)) (h:List Int),place (a ++ b) h=(place a h).bind (place b)
 | [],_,_=>rfl
 | q :: a,b,h=>by
  show (if numAt h q.1= -1 then place (a ++ b) (h.set q.1 q.2) else none)=(if numAt h q.1= -1 then place a (h.set q.1 q.2) else none).bind (place b);split
  ·exact place_app a b _
  ·rfl
theorem mustsTo_all {s:Sys}:∀ {n k:Nat},k < n->∃ b,mustsTo s n=mustsTo s k ++ ((must (taskAt s.tasks k)).map fun x=>(x.cell.toNat,k)) ++ b
 | n+1,k,h=>by
  rcases Nat.lt_or_ge k n with hk | hk
  ·obtain ⟨b,hb⟩:=mustsTo_all (s:=s) hk
   exact ⟨b ++ _,by rw [mustsTo_succ,hb,List.append_assoc]⟩
  ·obtain rfl:k=n:=by omega
   exact ⟨[],by rw [mustsTo_succ,List.append_nil]⟩
theorem locks_no {s:Sys} {k j:Nat} {hs:List Int} (hk:k < s.tasks.length) (hj:j < (must (taskAt s.tasks k)).length)
  (hp:place (mustsTo s k ++ ((must (taskAt s.tasks k)).take j).map fun x=>(x.cell.toNat,k)) (List.replicate s.cells.length (-1))=some hs) (hx:numAt hs (putAt (must (taskAt s.tasks k)) j).cell.toNat ≠ -1):locksOk s=false:=by
 obtain ⟨b,hb⟩:=mustsTo_all (s:=s) hk
 have hn:place (musts s) (List.replicate s.cells.length (-1))=none:=by
  show place (mustsTo s s.tasks.length) _=none;obtain ⟨m,hm⟩:∃ m,m=must (taskAt s.tasks k):=⟨_,rfl⟩;rw [<-hm] at hp hj hx hb
  have hd:m.map (fun x=>(x.cell.toNat,k))=(m.take j).map (fun x=>(x.cell.toNat,k)) ++ ((putAt m j).cell.toNat,k) :: (m.drop (j+1)).map (fun x=>(x.cell.toNat,k)):=by
   have h0:m=m.take j ++ putAt m j :: m.drop (j+1):=by
    conv=>(lhs;rw [<-List.take_append_drop j m,List.drop_eq_getElem_cons hj])
    simp [putAt,hj]
   conv=>(lhs;rw [h0])
   simp
  rw [hb,hd,<-List.append_assoc,List.append_assoc (mustsTo s k ++ _),place_app,hp];show place (_ :: _) hs=none;unfold place;rw [if_neg hx]
 unfold locksOk;rw [hn]
theorem locks_yes {s:Sys} {hs:List Int} (hp:place (mustsTo s s.tasks.length) (List.replicate s.cells.length (-1))=some hs):locksOk s=allB s.cells.length fun i=>decide ((cellAt s.cells i).lock=numAt hs i):=by
 unfold locksOk;rw [show place (musts s) (List.replicate s.cells.length (-1))=some hs from hp]
theorem must_len (t:Task):(must t).length<=t.puts.length:=by
 unfold must;repeat' split
 all_goals simp
 omega
def minus (n k:Nat):List Int:=List.replicate k (-1) ++ List.replicate (n - k) 0
theorem minus_len {n k:Nat} (h:k<=n):(minus n k).length=n:=by simp [minus];omega
theorem minus_set {n k:Nat} (h:k < n):(minus n k).set k (-1)=minus n (k+1):=by
 apply List.ext_getElem?;intro i;unfold minus;simp only [List.getElem?_set,List.getElem?_append,List.length_append,List.length_replicate,List.getElem?_replicate];repeat' split
 all_goals first | rfl|(exfalso;omega)
theorem locksOk_calls (s:Sys) (ss:List Value) (w:World) (hs:kSys.K w s ss) (hn:s.tasks.length<=1048576) (hm:s.cells.length<=1048576)
  (hf:∀ i,i < s.tasks.length->PutsIn s.cells.length (taskAt s.tasks i).puts/\(taskAt s.tasks i).puts.length<=1048576/\0<=(taskAt s.tasks i).at_/\((taskAt s.tasks i).stage=2\/(taskAt s.tasks i).stage=5->(taskAt s.tasks i).at_<=(taskAt s.tasks i).puts.length)):
  Calls Try.prog 67 #[.agg ss.toArray] w fun e w'=>e= .returned (.bool (locksOk s))/\Below w.heap.size w w':=by
 obtain ⟨A0,c0,A1,c1,A3,c3,rfl,-,g0,-,g1,-⟩:=kSys_open hs;have G0:=am g0;have G1:=am g1;have HF:=am hf;have HMC:=am hm;have M:=am (Own.nil w);have C:=M.out.cl;clear hs g0 g1 hf;go_enter Try.func67,Try.ntmps67
 go_wp2_with (first
 |((first|with_reducible refine gB ?_ | with_reducible refine gA ?_);refine oB rfl M.out ?_;clear M C;intro g W M C;simp only [Cl] at C)
 |(refine oM rfl rfl rfl Try.underlying29 info_int M.out HMC.out ?_;clear M C;intro gH W M C;simp only [Cl] at C))
 obtain ⟨L,EL,ML⟩:=Own.namedT M;go_loopw [4,17] (fun _ j w'=>∃ k:Nat,k<=s.cells.length/\j= .int .i64 k/\Aside0 (Own w w' (.b gH (nums .i64 (minus s.cells.length k)).toArray 3 :: L))) (fun _ j _=>s.cells.length - (intOf j).toNat)
 case atStart=>exact ⟨0,Nat.zero_le _,rfl,ML⟩
 case round=>
  obtain ⟨k,hk,rfl,M2⟩:=hrel;have eL:=EL.out;subst eL;clear M C ML EL;have M:=M2;clear M2;have C:=M.out.cl;simp only [Cl] at C;by_cases hlt:k < s.cells.length
  ·have q0:(0:Int)<=(k:Int):=by omega
   have q1:(k:Int) < (s.cells.length:Int):=by omega
   have HL:=am (show k < (minus s.cells.length k).length by rw [minus_len hk];exact hlt)
   go_wp2_with (first
   |((with_reducible refine gS ?_);refine oI (j:=k) rfl rfl rfl M.out (hs:=minus s.cells.length k) .here HL.out ?_;clear M C;intro W M C;simp only [Cl] at C))
   go_roundw
   case rel=>exact ⟨k+1,by omega,by go_num,by rw [<-minus_set hlt];exact M⟩
   case measure=>simp [intOf];omega
  ·obtain rfl:k=s.cells.length:=by omega
   have q1:¬ (s.cells.length:Int) < (s.cells.length:Int):=by omega
   go_wp2_with fail
   clear q1 hk;obtain ⟨L,EL,ML⟩:=Own.namedT M;go_loopw [5,6,8,27,33,34,35] (fun _ _ _ j _ _ _ w'=>∃ (k:Nat) (hs:List Int),k<=s.tasks.length/\j= .int .i64 k/\Aside0 (hs.length=s.cells.length/\place (mustsTo s k) (List.replicate s.cells.length (-1))=some hs)/\Aside0 (Own w w' (.b gH (nums .i64 hs).toArray 3 :: L))) (fun _ _ _ j _ _ _ _=>s.tasks.length - (intOf j).toNat)
   case atStart=>exact ⟨0,_,Nat.zero_le _,rfl,⟨minus_len (Nat.le_refl _),by simp [mustsTo,place,minus]⟩,ML⟩
   case round=>
    obtain ⟨k,hs,hk,rfl,HP,M2⟩:=hrel;have eL:=EL.out;subst eL;clear M C ML EL;have M:=M2;clear M2;have C:=M.out.cl;simp only [Cl] at C;by_cases hlt:k < s.tasks.length
    ·have q0:(0:Int)<=(k:Int):=by omega
     have q1:(k:Int) < (s.tasks.length:Int):=by omega
     obtain ⟨b,o,cs,rfl,hcl,hK,hcc,-⟩:=C_field G1.out zTask k hlt (by decide);obtain ⟨t,ht⟩:∃ x,x=taskAt s.tasks k:=⟨_,rfl⟩;rw [show s.tasks.getD k zTask=t from ht.symm] at hK;have HTK:=am hK;obtain ⟨B3,d3,B8,d8,B9,d9,B10,d10,rfl,-⟩:=kTask_open hK;have HC:=am hcc;have HT:=am ht;have HFk:=am (ht ▸ HF.out k hlt);clear hcl hK hcc ht
     go_wp2_with (first
     |((first|with_reducible refine gB ?_ | with_reducible refine gA ?_);refine oB rfl M.out ?_;clear M C;intro g W M C;simp only [Cl] at C)
     |((with_reducible refine gL ?_);refine oR rfl rfl M.out HC.out ?_)
     |((with_reducible refine gL ?_);refine oL rfl rfl M.out ?_)
     |((with_reducible refine gS ?_);refine oS rfl rfl rfl M.out ?_;clear M C;intro W M C;simp only [Cl] at C)
     |(go_at_call 105;refine (mustHold_calls t _ _ (kTask.K_below M.out.below HTK.out) HFk.out.2.1 (fun h=>⟨HFk.out.2.2.1,HFk.out.2.2.2 h⟩)).mono ?_;rintro e W ⟨Am,cm,rfl,hrow,hb⟩;have KX:=am (hrow w HTK.out);clear hrow;replace M:=am (M.out.step hb);clear C;have C:=M.out.cl;simp only [Cl] at C;clear hb))
     clear q0 q1;obtain ⟨E,L,EE,EL,ML⟩:=Own.namedX M;go_loopw [8,35] (fun _ i w'=>∃ (j:Nat) (hs2:List Int),j<=(must t).length/\i= .int .i64 j/\Aside0 (hs2.length=s.cells.length/\place (mustsTo s k ++ ((must t).take j).map fun x=>(x.cell.toNat,k)) (List.replicate s.cells.length (-1))=some hs2)/\Aside0 (Own w w' (E :: .b gH (nums .i64 hs2).toArray 3 :: L))) (fun _ i _=>(must t).length - (intOf i).toNat)
     case atStart=>exact ⟨0,hs,Nat.zero_le _,rfl,⟨HP.out.1,by rw [List.take_zero,List.map_nil,List.append_nil];exact HP.out.2⟩,ML⟩
     case round=>
      obtain ⟨j,hs2,hj,rfl,HP2,M2⟩:=hrel;have eE:=EE.out;subst eE;clear EE;have eL:=EL.out;subst eL;clear M C ML EL;have M:=M2;clear M2;have C:=M.out.cl;simp only [Cl] at C;have HML:(must t).length<=1048576:=Nat.le_trans (must_len t) HFk.out.2.1;by_cases hjt:j < (must t).length
      ·have s0:(0:Int)<=(j:Int):=by omega
       have s1:(j:Int) < ((must t).length:Int):=by omega
       obtain ⟨b2,o2,cs2,rfl,hcl2,hK2,hcc2,-⟩:=C_field KX.out zPut j hjt (by decide);obtain ⟨x,hx⟩:∃ x,x=putAt (must t) j:=⟨_,rfl⟩;rw [show (must t).getD j zPut=x from hx.symm] at hK2;have e2:=kPut_open hK2;subst e2;have HC2:=am hcc2;have hin:0<=x.cell/\x.cell < s.cells.length:=(must_asc HFk.out.1).2 x (by rw [hx];unfold putAt;rw [List.getD_eq_getElem?_getD,List.getElem?_eq_getElem hjt];exact List.getElem_mem hjt);obtain ⟨c,hc⟩:=Int.eq_ofNat_of_zero_le hin.1;have hcl:c < hs2.length:=by rw [HP2.out.1];omega
       have hget:(nums .i64 hs2)[c]? = some (.int .i64 (numAt hs2 c)):=by rw [<-List.getElem?_toArray];exact nums_get hcl
       have HX:=am hx;have HCC:=am hc;have HIN:=am hcl;have hcn:x.cell.toNat=c:=by omega
       have HCN:=am hcn;rw [hc] at HC2;have r0:(0:Int)<=(c:Int):=by omega
       have r1:(c:Int) < (s.cells.length:Int):=by have:=HP2.out.1;omega
       clear hcl2 hK2 hcc2 hx hc hin hcl hcn;by_cases hv:numAt hs2 c= -1
       ·have y1:(numAt hs2 c != -1)=false:=by simp [hv]
        have HV:=am hv;clear hv
        go_wp2_with (first
        |((first|with_reducible refine gB ?_ | with_reducible refine gA ?_);refine oB rfl M.out ?_;clear M C;intro g W M C;simp only [Cl] at C)
        |((with_reducible refine gL ?_);refine oR rfl rfl M.out HC2.out ?_)
        |((with_reducible refine gS ?_);refine oS rfl rfl rfl M.out ?_;clear M C;intro W M C;simp only [Cl] at C)
        |((with_reducible refine gS ?_);refine oI (j:=c) rfl rfl rfl M.out (.there (.there .here)) HIN.out ?_;clear M C;intro W M C;simp only [Cl] at C))
        go_roundw
        case rel=>exact ⟨j+1,hs2.set c k,by omega,by go_num,⟨by rw [List.length_set];exact HP2.out.1,by
         rw [List.take_succ_eq_append_getElem hjt,List.map_append,<-List.append_assoc,place_app,HP2.out.2,show (must t)[j]=x by rw [HX.out];simp [putAt,hjt]];show (if numAt hs2 x.cell.toNat= -1 then place [] (hs2.set x.cell.toNat (k:Int)) else none)=_;rw [HCN.out,if_pos HV.out];rfl⟩,⟨M.out.pop⟩⟩
        case measure=>simp [intOf];omega
       ·have y1:(numAt hs2 c != -1)=true:=by simp [hv]
        have HV:=am hv;clear hv
        go_wp2_with (first
        |((first|with_reducible refine gB ?_ | with_reducible refine gA ?_);refine oB rfl M.out ?_;clear M C;intro g W M C;simp only [Cl] at C)
        |((with_reducible refine gL ?_);refine oR rfl rfl M.out HC2.out ?_)
        |((with_reducible refine gS ?_);refine oS rfl rfl rfl M.out ?_;clear M C;intro W M C;simp only [Cl] at C))
        go_ret;rw [locks_no hlt (by rw [<-HT.out];exact hjt) (by rw [<-HT.out];exact HP2.out.2) (by rw [<-HT.out,<-HX.out,HCN.out];exact HV.out)];exact ⟨rfl,M.out.below⟩
      ·obtain rfl:j=(must t).length:=by omega
       have s1:¬ ((must t).length:Int) < ((must t).length:Int):=by omega
       go_wp2;go_roundw
       case rel=>exact ⟨k+1,hs2,by omega,by go_num,⟨HP2.out.1,by rw [mustsTo_succ,<-HT.out];have:=HP2.out.2;rwa [List.take_length] at this⟩,⟨M.out.pop⟩⟩
       case measure=>simp [intOf];omega
    ·obtain rfl:k=s.tasks.length:=by omega
     have q1:¬ (s.tasks.length:Int) < (s.tasks.length:Int):=by omega
     have HY:=am (locks_yes HP.out.2);go_wp2_with fail
     clear q1;obtain ⟨L,EL,ML⟩:=Own.namedT M;go_loopw [9,10,55] (fun _ _ j w'=>∃ k:Nat,k<=s.cells.length/\j= .int .i64 k/\Aside0 (∀ i,i < k->(cellAt s.cells i).lock=numAt hs i)/\Aside0 (Own w w' (.b gH (nums .i64 hs).toArray 3 :: L))) (fun _ _ j _=>s.cells.length - (intOf j).toNat)
     case atStart=>exact ⟨0,Nat.zero_le _,rfl,⟨fun i hi=>by omega⟩,ML⟩
     case round=>
      obtain ⟨k,hk,rfl,HJ,M2⟩:=hrel;have eL:=EL.out;subst eL;clear M C ML EL;have M:=M2;clear M2;have C:=M.out.cl;simp only [Cl] at C;by_cases hlt:k < s.cells.length
      ·have q0:(0:Int)<=(k:Int):=by omega
       have q1:(k:Int) < (s.cells.length:Int):=by omega
       obtain ⟨b,o,cs,rfl,hcl,hK,hcc,-⟩:=C_field G0.out zCell k hlt (by decide);obtain ⟨cc,hcx⟩:∃ x,x=cellAt s.cells k:=⟨_,rfl⟩;rw [show s.cells.getD k zCell=cc from hcx.symm] at hK;have e2:=kCell_open hK;subst e2;have HC:=am hcc;have HCX:=am hcx;have hget:(nums .i64 hs)[k]? = some (.int .i64 (numAt hs k)):=by rw [<-List.getElem?_toArray];exact nums_get (by rw [HP.out.1];exact hlt)
       have HLN:=am HP.out.1;clear hcl hK hcc hcx;by_cases hv:cc.lock=numAt hs k
       ·have y1:(cc.lock != numAt hs k)=false:=by simp [hv]
        have HV:=am hv;clear hv
        go_wp2_with (first
        |((first|with_reducible refine gB ?_ | with_reducible refine gA ?_);refine oB rfl M.out ?_;clear M C;intro g W M C;simp only [Cl] at C)
        |((with_reducible refine gL ?_);refine oR rfl rfl M.out HC.out ?_)
        |((with_reducible refine gS ?_);refine oS rfl rfl rfl M.out ?_;clear M C;intro W M C;simp only [Cl] at C))
        refine dS M.out ?_;clear M C;intro W M;refine dN [0,1,2,3,4,5,6] M.out ?_;iterate 7 (first|refine sP rfl ?_ | refine sG rfl ?_ | refine sU rfl ?_)
        refine stillS_nil ?_;refine dD ?_;have C:=M.out.cl;simp only [Cl] at C;go_wp2;go_roundw
        case rel=>exact ⟨k+1,by omega,by go_num,⟨fun i hi=>by rcases Nat.lt_or_ge i k with h | h;exact HJ.out i h;obtain rfl:i=k:=(by omega);rw [<-HCX.out];exact HV.out⟩,⟨M.out.pop⟩⟩
        case measure=>simp [intOf];omega
       ·have y1:(cc.lock != numAt hs k)=true:=by simp [hv]
        have HV:=am hv;clear hv
        go_wp2_with (first
        |((first|with_reducible refine gB ?_ | with_reducible refine gA ?_);refine oB rfl M.out ?_;clear M C;intro g W M C;simp only [Cl] at C)
        |((with_reducible refine gL ?_);refine oR rfl rfl M.out HC.out ?_)
        |((with_reducible refine gS ?_);refine oS rfl rfl rfl M.out ?_;clear M C;intro W M C;simp only [Cl] at C))
        refine dS M.out ?_;clear M C;intro W M;refine dN [0,1,2,3,4,5,6] M.out ?_;iterate 7 (first|refine sP rfl ?_ | refine sG rfl ?_ | refine sU rfl ?_)
        refine stillS_nil ?_;refine dD ?_;have C:=M.out.cl;simp only [Cl] at C;go_wp2;go_ret;rw [HY.out,show (allB s.cells.length fun i=>decide ((cellAt s.cells i).lock=numAt hs i))=false from allB_no hlt (decide_eq_false (by rw [<-HCX.out];exact HV.out))];exact ⟨rfl,M.out.below⟩
      ·obtain rfl:k=s.cells.length:=by omega
       have q1:¬ (s.cells.length:Int) < (s.cells.length:Int):=by omega
       go_wp2;go_ret;rw [HY.out,show (allB s.cells.length fun i=>decide ((cellAt s.cells i).lock=numAt hs i))=true from allB_iff.2 (fun i hi=>decide_eq_true (HJ.out i hi))];exact ⟨rfl,M.out.below⟩
def logAt (p:Prog) (s:Sys) (i:Nat):Bool:=
 let e:=entryAt s.log i
 placeB e.task s.tasks.length && placeB e.act (actsAt p.bodies (taskAt s.tasks e.task.toNat).body.toNat).length && !decide (e.when_ < 0) && !decide (s.clock < e.when_) && !decide (e.from_ < 0) && !decide ((i:Int) < e.from_) && listOk e.reads s.cells.length && listOk e.puts s.cells.length
def logB (p:Prog) (s:Sys):Bool:=allB s.log.length (logAt p s)
theorem logBad {q:Prop} (h:q:=by
  go_wp2_with (go_at_call 103;refine oCb M.out (putsOk_calls _ _ _ _ _ (by first|exact Kd.C_below R3.out M.out.below | exact Kd.C_below R4.out M.out.below) (by first|exact HZ.out.1 | exact HZ.out.2)) (by first|exact Y7.out | exact Y8.out) ?_;clear M C;intro W M C;simp only [Cl] at C)
  go_ret;rw [show logB p s=false from allB_no hlt (by rw [HU.out];try rfl)];exact ⟨rfl,M.out.below⟩):q:=h
theorem logOk_calls (p:Prog) (ps:List Value) (s:Sys) (ss:List Value) (w:World) (hp:kProg.K w p ps) (hs:kSys.K w s ss) (hl:s.log.length<=1048576)
  (hf:∀ i,i < s.tasks.length->0<=(taskAt s.tasks i).body/\(taskAt s.tasks i).body < p.bodies.length) (hz:∀ i,i < s.log.length->(entryAt s.log i).reads.length<=1048576/\(entryAt s.log i).puts.length<=1048576):
  Calls Try.prog 68 #[.agg ps.toArray,.agg ss.toArray] w fun e w'=>e= .returned (.bool (logB p s))/\Below w.heap.size w w':=by
 obtain ⟨Ac,cc,Ab,cb,rfl,-,-,-,gb⟩:=kProg_open hp;obtain ⟨A0,c0,A1,c1,A3,c3,rfl,-,-,-,g1,-,g3⟩:=kSys_open hs;have GB:=am gb;have G1:=am g1;have G3:=am g3;have HF:=am hf;have HZA:=am hz;have M:=am (Own.nil w);have C:=M.out.cl;clear hp hs gb g1 g3 hf hz;go_enter Try.func68,Try.ntmps68
 go_wp2_with (first
 |((first|with_reducible refine gB ?_ | with_reducible refine gA ?_);refine oB rfl M.out ?_;clear M C;intro g W M C;simp only [Cl] at C))
 obtain ⟨L,EL,ML⟩:=Own.named M;go_loopw [5,6,10] (fun _ _ j w'=>∃ k:Nat,k<=s.log.length/\j= .int .i64 k/\Aside0 (∀ i,i < k->logAt p s i=true)/\Aside0 (Own w w' L)) (fun _ _ j _=>s.log.length - (intOf j).toNat)
 case atStart=>exact ⟨0,Nat.zero_le _,rfl,⟨fun i hi=>by omega⟩,ML⟩
 case round=>
  obtain ⟨k,hk,rfl,HJ,M2⟩:=hrel;have eL:=EL.out;subst eL;clear M C ML EL;have M:=M2;clear M2;have C:=M.out.cl;simp only [Cl] at C;by_cases hlt:k < s.log.length
  ·have q0:(0:Int)<=(k:Int):=by omega
   have q1:(k:Int) < (s.log.length:Int):=by omega
   obtain ⟨b,o,cs,rfl,hcl,hK,hcc,-⟩:=C_field G3.out zEntry k hlt (by decide);obtain ⟨e,he⟩:∃ x,x=entryAt s.log k:=⟨_,rfl⟩;rw [show s.log.getD k zEntry=e from he.symm] at hK;obtain ⟨E3,f3,E4,f4,rfl,-,gr,-,gp⟩:=kEntry_open hK;have HC:=am hcc;have R3:=am gr;have R4:=am gp;have HZ:=am (he ▸ HZA.out k hlt);obtain ⟨b1,y1⟩:∃ b,placeB e.task s.tasks.length=b:=⟨_,rfl⟩;obtain ⟨b2,y2⟩:∃ b,placeB e.act (actsAt p.bodies (taskAt s.tasks e.task.toNat).body.toNat).length=b:=⟨_,rfl⟩;obtain ⟨b3,y3⟩:∃ b,decide (e.when_ < 0)=b:=⟨_,rfl⟩;obtain ⟨b4,y4⟩:∃ b,decide (s.clock < e.when_)=b:=⟨_,rfl⟩;obtain ⟨b5,y5⟩:∃ b,decide (e.from_ < 0)=b:=⟨_,rfl⟩;obtain ⟨b6,y6⟩:∃ b,decide ((k:Int) < e.from_)=b:=⟨_,rfl⟩;obtain ⟨b7,y7⟩:∃ b,listOk e.reads s.cells.length=b:=⟨_,rfl⟩;obtain ⟨b8,y8⟩:∃ b,listOk e.puts s.cells.length=b:=⟨_,rfl⟩;have HU:Aside0 (logAt p s k=(b1 && b2 && !b3 && !b4 && !b5 && !b6 && b7 && b8)):=⟨by rw [<-y1,<-y2,<-y3,<-y4,<-y5,<-y6,<-y7,<-y8,he];rfl⟩;have Y1:=am y1;have Y2:=am y2;have Y7:=am y7;have Y8:=am y8;clear hcl hK hcc gr gp he y1 y2 y7 y8
   go_wp2_with (first
   |((first|with_reducible refine gB ?_ | with_reducible refine gA ?_);refine oB rfl M.out ?_;clear M C;intro g W M C;simp only [Cl] at C)
   |((with_reducible refine gL ?_);refine oR rfl rfl M.out HC.out ?_)
   |((with_reducible refine gS ?_);refine oS rfl rfl rfl M.out ?_;clear M C;intro W M C;simp only [Cl] at C))
   cases b1
   case false=>
    clear Y2;refine dS M.out ?_;clear M C;intro W M;refine dN [0,1,2,3,4] M.out ?_;iterate 5 (first|refine sP rfl ?_ | refine sG rfl ?_ | refine sU rfl ?_)
    refine stillS_nil ?_;refine dC 5 rfl ?_;refine oEb (isPlace_calls _ _ _) Y1.out ?_;refine ⟨_,rfl,M,dA ?_⟩;refine dN [6,7,8,9,10,11,12,13,14,15,16,17,18,19,20,21] M.out ?_;iterate 16 (first|refine sP rfl ?_ | refine sG rfl ?_ | refine sU rfl ?_)
    refine stillS_nil ?_;refine dU 22 rfl rfl M.out (dA ?_);refine dN [23,24] M.out ?_;iterate 2 (first|refine sP rfl ?_ | refine sG rfl ?_ | refine sU rfl ?_)
    refine stillS_nil ?_;refine dD ?_;have C:=M.out.cl;simp only [Cl] at C;exact logBad
   have hb:=(Bool.and_eq_true_iff).1 (show (decide (0<=e.task) && decide (e.task < (s.tasks.length:Int)))=true from Y1.out);have hb0:0<=e.task:=of_decide_eq_true hb.1;have hb1:e.task < s.tasks.length:=of_decide_eq_true hb.2;obtain ⟨n,hn⟩:=Int.eq_ofNat_of_zero_le hb0;have hnl:n < s.tasks.length:=by omega
   have v4:e.task.toNat=n:=by omega
   obtain ⟨b9,o9,cs9,rfl,hcl,hK,hcc,-⟩:=C_field G1.out zTask n hnl (by decide);obtain ⟨B3,d3,B8,d8,B9,d9,B10,d10,rfl,-⟩:=kTask_open hK;have p0:=hcc 0 _ rfl;rw [show s.tasks.getD n zTask=taskAt s.tasks n from rfl] at p0;simp only [show kTask.sz=13 from rfl,Nat.add_zero] at p0;clear hcl hK hcc hb;obtain ⟨hb0',hb1'⟩:=HF.out n hnl;obtain ⟨kb,hkb0⟩:=Int.eq_ofNat_of_zero_le hb0';have hkb:kb < p.bodies.length:=by omega
   obtain ⟨bb,ob,cs2,rfl,hcl2,hK2,hcc2,-⟩:=C_field GB.out ([]:List Act) kb hkb (by decide);obtain ⟨Aa,ca,rfl,la,-⟩:=hK2;have p2:=hcc2 0 _ rfl;simp only [show (Kd.slice 108 kAct).sz=1 from rfl,Nat.mul_one,Nat.add_zero] at p2;rw [hkb0] at p0;have e2:(actsAt p.bodies (taskAt s.tasks e.task.toNat).body.toNat).length=(p.bodies.getD kb []).length:=by rw [v4,hkb0,Int.toNat_natCast];rfl
   rw [e2] at Y2;rw [hn] at Y1;replace M:=am ((M.out.far p2).far p0);have n0:(0:Int)<=(n:Int):=by omega
   have n1:(n:Int) < (s.tasks.length:Int):=by omega
   have k0:(0:Int)<=(kb:Int):=by omega
   have k1:(kb:Int) < (p.bodies.length:Int):=by omega
   clear C hcl2 hcc2 p2 p0 la hkb0 hkb e2 hb0' hb1';have C:=M.out.cl;simp only [Cl] at C;refine dS M.out ?_;clear M C;intro W M;refine dN [0,1,2,3,4] M.out ?_;iterate 5 (first|refine sP rfl ?_ | refine sG rfl ?_ | refine sU rfl ?_)
   refine stillS_nil ?_;refine dC 5 rfl ?_;refine oEb (isPlace_calls _ _ _) Y1.out ?_;refine ⟨_,rfl,M,dA ?_⟩;refine dN [6,7,8,9,10,11,12,13,14,15,16,17,18,19,20,21] M.out ?_;iterate 16 (first|refine sP rfl ?_ | refine sG rfl ?_ | refine sU rfl ?_)
   refine stillS_nil ?_;cases b2
   case false=>
    refine dC 22 rfl ?_;refine oEb (isPlace_calls _ _ _) Y2.out ?_;refine ⟨_,rfl,M,dA ?_⟩;refine dN [23,24] M.out ?_;iterate 2 (first|refine sP rfl ?_ | refine sG rfl ?_ | refine sU rfl ?_)
    refine stillS_nil ?_;refine dD ?_;have C:=M.out.cl;simp only [Cl] at C;exact logBad
   refine dC 22 rfl ?_;refine oEb (isPlace_calls _ _ _) Y2.out ?_;refine ⟨_,rfl,M,dA ?_⟩;refine dN [23,24] M.out ?_;iterate 2 (first|refine sP rfl ?_ | refine sG rfl ?_ | refine sU rfl ?_)
   refine stillS_nil ?_;refine dD ?_;have C:=M.out.cl;simp only [Cl] at C;cases b3
   case true=>exact logBad
   cases b4
   case true=>exact logBad
   cases b5
   case true=>exact logBad
   cases b6
   case true=>exact logBad
   cases b7
   case false=>exact logBad
   cases b8
   case false=>exact logBad
   go_wp2_with (first
   |(go_at_call 103;refine oCb M.out (putsOk_calls _ _ _ _ _ (by first|exact Kd.C_below R3.out M.out.below | exact Kd.C_below R4.out M.out.below) (by first|exact HZ.out.1 | exact HZ.out.2)) (by first|exact Y7.out | exact Y8.out) ?_;clear M C;intro W M C;simp only [Cl] at C))
   go_roundw
   case rel=>exact ⟨k+1,by omega,by go_num,⟨fun i hi=>by rcases Nat.lt_or_ge i k with h | h;exact HJ.out i h;obtain rfl:i=k:=(by omega);rw [HU.out];rfl⟩,⟨M.out.pop.pop.pop⟩⟩
   case measure=>simp [intOf];omega
  ·obtain rfl:k=s.log.length:=by omega
   have q1:¬ (s.log.length:Int) < (s.log.length:Int):=by omega
   go_wp2;go_ret;rw [show logB p s=true from allB_iff.2 HJ.out];exact ⟨rfl,M.out.below⟩
def partD (d:Deed):Value:=
 if d.kind=1 then .iface 193 (.agg #[.int .i64 d.a,.int .i64 d.b])
 else if d.kind=2 then .iface 195 (.agg #[.int .i64 d.a,.int .i64 d.b])
 else if d.kind=3 then .iface 197 (.agg #[.int .i64 d.a,.int .i64 d.b])
 else if d.kind=4 then .iface 199 (.agg #[.int .i64 d.a,.int .i64 d.b])
 else if d.kind=5 then (if d.b=0 then .iface 200 (.agg #[.int .i64 d.a]) else .nilIface)
 else .nilIface
theorem partF {q:Prop} (h:q:=by
  go_wp2_with ((first|with_reducible refine gB ?_ | with_reducible refine gA ?_);refine oB rfl M.out ?_;clear M C;intro g W M C;simp only [Cl] at C)
  go_ret;rw [HU.out];exact ⟨rfl,M.out.below⟩):q:=h
theorem partOfDeed_calls (d:Deed) (ds:List Value) (w:World) (hd:kDeed.K w d ds):
  Calls Try.prog 144 #[.agg ds.toArray] w fun e w'=>e= .returned (partD d)/\Below w.heap.size w w':=by
 obtain rfl:=kDeed_open hd;have M:=am (Own.nil w);have C:=M.out.cl;clear hd;go_enter Try.func144,Try.ntmps144;by_cases h1:d.kind=1
 ·have y1:(d.kind == 1)=true:=by simp [h1]
  have HU:Aside0 (partD d=_):=⟨by unfold partD;rw [if_pos h1]⟩;exact partF
 have y1:(d.kind == 1)=false:=by simpa using h1
 by_cases h2:d.kind=2
 ·have y2:(d.kind == 2)=true:=by simp [h2]
  have HU:Aside0 (partD d=_):=⟨by unfold partD;rw [if_neg h1,if_pos h2]⟩;exact partF
 have y2:(d.kind == 2)=false:=by simpa using h2
 by_cases h3:d.kind=3
 ·have y3:(d.kind == 3)=true:=by simp [h3]
  have HU:Aside0 (partD d=_):=⟨by unfold partD;rw [if_neg h1,if_neg h2,if_pos h3]⟩;exact partF
 have y3:(d.kind == 3)=false:=by simpa using h3
 by_cases h4:d.kind=4
 ·have y4:(d.kind == 4)=true:=by simp [h4]
  have HU:Aside0 (partD d=_):=⟨by unfold partD;rw [if_neg h1,if_neg h2,if_neg h3,if_pos h4]⟩;exact partF
 have y4:(d.kind == 4)=false:=by simpa using h4
 by_cases h5:d.kind=5
 ·have y5:(d.kind == 5)=true:=by simp [h5]
  by_cases hb:d.b=0
  ·have yb:(d.b == 0)=true:=by simp [hb]
   have HU:Aside0 (partD d=_):=⟨by unfold partD;rw [if_neg h1,if_neg h2,if_neg h3,if_neg h4,if_pos h5,if_pos hb]⟩;exact partF
  ·have yb:(d.b == 0)=false:=by simpa using hb
   have HU:Aside0 (partD d=_):=⟨by unfold partD;rw [if_neg h1,if_neg h2,if_neg h3,if_neg h4,if_pos h5,if_neg hb]⟩;exact partF
 have y5:(d.kind == 5)=false:=by simpa using h5
 have HU:Aside0 (partD d=_):=⟨by unfold partD;rw [if_neg h1,if_neg h2,if_neg h3,if_neg h4,if_neg h5]⟩;exact partF
theorem ta_run {P:Program} (T xT:TypeId) (z:Value) (hB:(match P.underlying T with | some (.interface _)=>false | some _=>true | none=>false)=true) (hz:((P.info? T).bind (·.zero))=some z):
  (∀ (t:TypeId) (v:Value) (W:World),(Instr.typeAssert (.iface t v) xT T true).run P W= .ok (if t=T then .tuple #[v,.bool true] else .tuple #[z,.bool false]) W)/\∀ W:World,(Instr.typeAssert .nilIface xT T true).run P W= .ok (.tuple #[z,.bool false]) W:=by
 obtain ⟨j,hj,hjz⟩:=Option.bind_eq_some_iff.1 hz
 cases hu:P.underlying T with
 | none=>rw [hu] at hB;cases hB
 | some d=>
  rw [hu] at hB;constructor
  ·intro t v W
   unfold Instr.typeAssert;simp only [Sem.run_bind,run_underlying hu,Result.andThen_ok];by_cases h:t=T
   ·cases d <;> first|(cases hB;done)|(dsimp only;simp [h,Result.andThen_ok])
   ·cases d <;> first|(cases hB;done)|(dsimp only;simp [h,zeroValue,typeInfo,hj,hjz,Result.andThen_ok])
  ·intro W
   unfold Instr.typeAssert;simp only [Sem.run_bind,run_underlying hu,Result.andThen_ok];cases d <;> first|(cases hB;done)|(dsimp only;simp [zeroValue,typeInfo,hj,hjz,Result.andThen_ok])
theorem inB_reg (x:Int):(decide (0<=x) && decide (x < 3))=inB x 0 2:=by rw [Bool.eq_iff_iff,inB_iff];simp;omega
theorem inB_place (x n:Int):(decide (0<=x) && decide (x < n))=inB x 0 (n - 1):=by rw [Bool.eq_iff_iff,inB_iff];simp;omega
theorem pdeedF {q:Prop} (h:q:=by
  go_wp2_with (first
  |((first|with_reducible refine gB ?_ | with_reducible refine gA ?_);refine oB rfl M.out ?_;clear M C;intro g W M C;simp only [Cl] at C)
  |((with_reducible refine gS ?_);refine oS rfl rfl rfl M.out ?_;clear M C;intro W M C;simp only [Cl] at C)
  |(go_at_call 128;refine oEb (isReg_calls _ _) (by first|exact Y1.out | exact Y2.out) ?_)
  |(go_at_call 101;refine oEb (isNum_calls _ _) Y2.out ?_)
  |(go_at_call 51;refine oEb (isPlace_calls _ _ _) (by first|exact Y1.out | exact Y2.out) ?_))
  go_ret;rw [HU.out];exact ⟨rfl,M.out.below⟩):q:=h
theorem deedOk_calls (d:Deed) (n:Int) (w:World):
  Calls Try.prog 143 #[partD d,.int .i64 n] w fun e w'=>e= .returned (.bool (deedOk d n))/\Below w.heap.size w w':=by
 have M:=am (Own.nil w);have C:=M.out.cl;have a_loadDeed:=ta_run (P:=Try.prog) 193 122 (.agg #[.int .i64 0,.int .i64 0]) (by kernel_rfl) (by kernel_rfl);have a_storeDeed:=ta_run (P:=Try.prog) 195 122 (.agg #[.int .i64 0,.int .i64 0]) (by kernel_rfl) (by kernel_rfl);have a_numDeed:=ta_run (P:=Try.prog) 197 122 (.agg #[.int .i64 0,.int .i64 0]) (by kernel_rfl) (by kernel_rfl);have a_addDeed:=ta_run (P:=Try.prog) 199 122 (.agg #[.int .i64 0,.int .i64 0]) (by kernel_rfl) (by kernel_rfl);have a_needDeed:=ta_run (P:=Try.prog) 200 122 (.agg #[.int .i64 0]) (by kernel_rfl) (by kernel_rfl);by_cases h1:d.kind=1
 ·have y1:(d.kind == 1)=true:=by simp [h1]
  obtain ⟨b1,y1⟩:∃ b,(decide (0<=d.a) && decide (d.a < 3))=b:=⟨_,rfl⟩;obtain ⟨b2,y2⟩:∃ b,(decide (0<=d.b) && decide (d.b < n))=b:=⟨_,rfl⟩;have HU:Aside0 (deedOk d n=(b1 && b2)):=⟨by unfold deedOk;rw [if_pos h1,<-y1,<-y2,inB_reg d.a,inB_place d.b n]⟩;rw [show partD d=_ from by unfold partD;rw [if_pos h1]];have Y1:=am y1;have Y2:=am y2;clear y1 y2;go_enter Try.func143,Try.ntmps143;cases b1;exact pdeedF;exact pdeedF
 have y1:(d.kind == 1)=false:=by simpa using h1
 by_cases h2:d.kind=2
 ·have y2:(d.kind == 2)=true:=by simp [h2]
  obtain ⟨b1,y1⟩:∃ b,(decide (0<=d.a) && decide (d.a < n))=b:=⟨_,rfl⟩;obtain ⟨b2,y2⟩:∃ b,(decide (0<=d.b) && decide (d.b < 3))=b:=⟨_,rfl⟩;have HU:Aside0 (deedOk d n=(b1 && b2)):=⟨by unfold deedOk;rw [if_neg h1,if_pos h2,<-y1,<-y2,inB_place d.a n,inB_reg d.b]⟩;rw [show partD d=_ from by unfold partD;rw [if_neg h1,if_pos h2]];have Y1:=am y1;have Y2:=am y2;clear y1 y2;go_enter Try.func143,Try.ntmps143;cases b1;exact pdeedF;exact pdeedF
 have y2:(d.kind == 2)=false:=by simpa using h2
 by_cases h3:d.kind=3
 ·have y3:(d.kind == 3)=true:=by simp [h3]
  obtain ⟨b1,y1⟩:∃ b,(decide (0<=d.a) && decide (d.a < 3))=b:=⟨_,rfl⟩;obtain ⟨b2,y2⟩:∃ b,(decide (0<=d.b) && decide (d.b < 100))=b:=⟨_,rfl⟩;have HU:Aside0 (deedOk d n=(b1 && b2)):=⟨by unfold deedOk;rw [if_neg h1,if_neg h2,if_pos h3,<-y1,<-y2,inB_reg d.a,num_in d.b]⟩;rw [show partD d=_ from by unfold partD;rw [if_neg h1,if_neg h2,if_pos h3]];have Y1:=am y1;have Y2:=am y2;clear y1 y2;go_enter Try.func143,Try.ntmps143;cases b1;exact pdeedF;exact pdeedF
 have y3:(d.kind == 3)=false:=by simpa using h3
 by_cases h4:d.kind=4
 ·have y4:(d.kind == 4)=true:=by simp [h4]
  obtain ⟨b1,y1⟩:∃ b,(decide (0<=d.a) && decide (d.a < 3))=b:=⟨_,rfl⟩;obtain ⟨b2,y2⟩:∃ b,(decide (0<=d.b) && decide (d.b < 3))=b:=⟨_,rfl⟩;have HU:Aside0 (deedOk d n=(b1 && b2)):=⟨by unfold deedOk;rw [if_neg h1,if_neg h2,if_neg h3,if_pos h4,<-y1,<-y2,inB_reg d.a,inB_reg d.b]⟩;rw [show partD d=_ from by unfold partD;rw [if_neg h1,if_neg h2,if_neg h3,if_pos h4]];have Y1:=am y1;have Y2:=am y2;clear y1 y2;go_enter Try.func143,Try.ntmps143;cases b1;exact pdeedF;exact pdeedF
 have y4:(d.kind == 4)=false:=by simpa using h4
 by_cases h5:d.kind=5
 ·have y5:(d.kind == 5)=true:=by simp [h5]
  by_cases hb:d.b=0
  ·rw [show partD d=_ from by unfold partD;rw [if_neg h1,if_neg h2,if_neg h3,if_neg h4,if_pos h5,if_pos hb]]
   have HU:Aside0 (deedOk d n=(decide (0<=d.a) && decide (d.a < 3))):=⟨by unfold deedOk;rw [if_neg h1,if_neg h2,if_neg h3,if_neg h4,if_pos h5,decide_eq_true hb,Bool.and_true,inB_reg]⟩;have Y1:Aside0 (True):=⟨trivial⟩;go_enter Try.func143,Try.ntmps143
   go_wp2_with (first
   |((first|with_reducible refine gB ?_ | with_reducible refine gA ?_);refine oB rfl M.out ?_;clear M C;intro g W M C;simp only [Cl] at C)
   |((with_reducible refine gS ?_);refine oS rfl rfl rfl M.out ?_;clear M C;intro W M C;simp only [Cl] at C)
   |(go_at_call 128;refine oEb (isReg_calls _ _) rfl ?_))
   go_ret;rw [HU.out];exact ⟨rfl,M.out.below⟩
  ·rw [show partD d=_ from by unfold partD;rw [if_neg h1,if_neg h2,if_neg h3,if_neg h4,if_pos h5,if_neg hb]]
   have HU:Aside0 (deedOk d n=false):=⟨by unfold deedOk;rw [if_neg h1,if_neg h2,if_neg h3,if_neg h4,if_pos h5,decide_eq_false hb,Bool.and_false]⟩;go_enter Try.func143,Try.ntmps143;exact stageEF
 have y5:(d.kind == 5)=false:=by simpa using h5
 rw [show partD d=_ from by unfold partD;rw [if_neg h1,if_neg h2,if_neg h3,if_neg h4,if_neg h5]];have HU:Aside0 (deedOk d n=false):=⟨by unfold deedOk;rw [if_neg h1,if_neg h2,if_neg h3,if_neg h4,if_neg h5]⟩;go_enter Try.func143,Try.ntmps143;exact stageEF
def changeB (ds:List Deed) (n:Int):Bool:= !decide (n < 0) && !decide (3 < n) && !decide ((5:Int) < ds.length) && deedsOk ds n
theorem chgEF {q:Prop} (h:q:=by
  go_wp2;go_ret;rw [HU.out];exact ⟨rfl,M.out.below⟩):q:=h
theorem changeOk_calls (A:Option Addr) (c:Nat) (ds:List Deed) (n:Int) (w:World) (hd:kDeed.C w A ds.length ds) (hz:ds.length<=1048576):
  Calls Try.prog 127 #[.slice A ds.length c,.int .i64 n] w fun e w'=>e= .returned (.bool (changeB ds n))/\Below w.heap.size w w':=by
 have HD:=am hd;obtain ⟨b1,y1⟩:∃ b,decide (n < 0)=b:=⟨_,rfl⟩;obtain ⟨b2,y2⟩:∃ b,decide (3 < n)=b:=⟨_,rfl⟩;obtain ⟨b3,y3⟩:∃ b,decide ((5:Int) < (ds.length:Int))=b:=⟨_,rfl⟩;have HU:Aside0 (changeB ds n=(!b1 && !b2 && !b3 && deedsOk ds n)):=⟨by rw [<-y1,<-y2,<-y3];rfl⟩;have M:=am (Own.nil w);have C:=M.out.cl;clear hd;go_enter Try.func127,Try.ntmps127;cases b1
 case true=>exact chgEF
 cases b2
 case true=>exact chgEF
 cases b3
 case true=>exact chgEF
 go_wp2_with fail
 go_loopw [6,20] (fun _ j w'=>∃ k:Nat,k<=ds.length/\j= .int .i64 k/\Aside0 (∀ i,i < k->deedOk (deedAt ds i) n=true)/\Aside0 (Own w w' [])) (fun _ j _=>ds.length - (intOf j).toNat)
 case atStart=>exact ⟨0,Nat.zero_le _,rfl,⟨fun i hi=>by omega⟩,M⟩
 case round=>
  obtain ⟨k,hk,rfl,HJ,M2⟩:=hrel;clear M C;have M:=M2;clear M2;have C:=M.out.cl;simp only [Cl] at C;by_cases hlt:k < ds.length
  ·have q0:(0:Int)<=(k:Int):=by omega
   have q1:(k:Int) < (ds.length:Int):=by omega
   obtain ⟨b,o,cs,rfl,hcl,hK,hcc,-⟩:=C_field HD.out zDeed k hlt (by decide);obtain ⟨d,hdx⟩:∃ x,x=deedAt ds k:=⟨_,rfl⟩;rw [show ds.getD k zDeed=d from hdx.symm] at hK;have HKD:=am hK;obtain rfl:=kDeed_open hK;have HC:=am hcc;have HDX:=am hdx;obtain ⟨bx,yx⟩:∃ b,deedOk d n=b:=⟨_,rfl⟩;have YX:=am yx;clear hcl hK hcc hdx yx
   go_upto_if 28 with (first
   |((first|with_reducible refine gB ?_ | with_reducible refine gA ?_);refine oB rfl M.out ?_;clear M C;intro g W M C;simp only [Cl] at C)
   |((with_reducible refine gL ?_);refine oR rfl rfl M.out HC.out ?_)
   |((with_reducible refine gS ?_);refine oS rfl rfl rfl M.out ?_;clear M C;intro W M C;simp only [Cl] at C)
   |((with_reducible refine gL ?_);refine oL rfl rfl M.out ?_)
   |(go_at_call 144;refine oC M.out (partOfDeed_calls d _ _ (kDeed.K_below M.out.below HKD.out)) ?_;clear M C;intro W M C;simp only [Cl] at C)
   |(go_at_call 143;refine oCb M.out (deedOk_calls d n _) YX.out ?_;clear M C;intro W M C;simp only [Cl] at C))
   cases bx
   ·go_wp2
    go_ret;rw [HU.out,show deedsOk ds n=false from allB_no hlt (by rw [<-HDX.out];exact YX.out)];exact ⟨rfl,M.out.below⟩
   ·go_wp2
    go_roundw
    case rel=>exact ⟨k+1,by omega,by go_num,⟨fun i hi=>by rcases Nat.lt_or_ge i k with h | h;exact HJ.out i h;obtain rfl:i=k:=(by omega);rw [<-HDX.out];exact YX.out⟩,⟨M.out.pop⟩⟩
    case measure=>simp [intOf];omega
  ·obtain rfl:k=ds.length:=by omega
   have q1:¬ (ds.length:Int) < (ds.length:Int):=by omega
   go_wp2;go_ret;rw [HU.out,show deedsOk ds n=true from allB_iff.2 HJ.out];exact ⟨rfl,M.out.below⟩
def partA (a:Act) (vd vk:Value):Value:=
 if a.kind=1 then (if ((a.kids.length:Int) == 0) && (a.reg == 0) then .iface 160 (.agg #[vd]) else .nilIface)
 else if a.kind=2 then (if ((a.deeds.length:Int) == 0) && (a.reg == 0) then .iface 163 (.agg #[vk]) else .nilIface)
 else if a.kind=3 then (if ((a.deeds.length:Int) == 0) && ((a.kids.length:Int) == 0) && (a.reg == 0) then .iface 165 (.agg #[]) else .nilIface)
 else if a.kind=4 then (if ((a.deeds.length:Int) == 0) && ((a.kids.length:Int) == 0) then .iface 167 (.agg #[.int .i64 a.reg]) else .nilIface)
 else .nilIface
theorem paF {q:Prop} (h:q:=by
  go_wp2;go_ret;rw [HU.out];exact ⟨rfl,M.out.below⟩):q:=h
theorem partOfAct_calls (a:Act) (Ad:Option Addr) (cd:Nat) (Ak:Option Addr) (ck:Nat) (w:World):
  Calls Try.prog 99 #[.agg #[.int .i64 a.kind,.slice Ad a.deeds.length cd,.slice Ak a.kids.length ck,.int .i64 a.reg]] w fun e w'=>e= .returned (partA a (.slice Ad a.deeds.length cd) (.slice Ak a.kids.length ck))/\Below w.heap.size w w':=by
 have M:=am (Own.nil w);have C:=M.out.cl;obtain ⟨nd,yd⟩:∃ b,((a.deeds.length:Int) == 0)=b:=⟨_,rfl⟩;obtain ⟨nk,yk⟩:∃ b,((a.kids.length:Int) == 0)=b:=⟨_,rfl⟩;obtain ⟨nr,yr⟩:∃ b,(a.reg == 0)=b:=⟨_,rfl⟩;have YS:=am (And.intro yd (And.intro yk yr));go_enter Try.func99,Try.ntmps99
 go_wp2_with (first
 |((first|with_reducible refine gB ?_ | with_reducible refine gA ?_);refine oB rfl M.out ?_;clear M C;intro g W M C;simp only [Cl] at C))
 refine dS M.out ?_;clear M C;intro W M;refine dN [0,1,2,3,4,5,6,7,8,9,10,11,12,13] M.out ?_;iterate 14 (first|refine sP rfl ?_ | refine sG rfl ?_ | refine sU rfl ?_)
 refine stillS_nil ?_;refine dD ?_;have C:=M.out.cl;simp only [Cl] at C;by_cases h1:a.kind=1
 ·have y1:(a.kind == 1)=true:=by simp [h1]
  have y2:(a.kind == 2)=false:=by simp [h1]
  have y3:(a.kind == 3)=false:=by simp [h1]
  have y4:(a.kind == 4)=false:=by simp [h1]
  have HU:=am (show partA a (.slice Ad a.deeds.length cd) (.slice Ak a.kids.length ck)=_ from by unfold partA;rw [if_pos h1,YS.out.2.1,YS.out.2.2]);cases nk;exact paF;cases nr;exact paF;exact paF
 have y1:(a.kind == 1)=false:=by simpa using h1
 by_cases h2:a.kind=2
 ·have y2:(a.kind == 2)=true:=by simp [h2]
  have y3:(a.kind == 3)=false:=by simp [h2]
  have y4:(a.kind == 4)=false:=by simp [h2]
  have HU:=am (show partA a (.slice Ad a.deeds.length cd) (.slice Ak a.kids.length ck)=_ from by unfold partA;rw [if_neg h1,if_pos h2,YS.out.1,YS.out.2.2]);cases nd;exact paF;cases nr;exact paF;exact paF
 have y2:(a.kind == 2)=false:=by simpa using h2
 by_cases h3:a.kind=3
 ·have y3:(a.kind == 3)=true:=by simp [h3]
  have y4:(a.kind == 4)=false:=by simp [h3]
  have HU:=am (show partA a (.slice Ad a.deeds.length cd) (.slice Ak a.kids.length ck)=_ from by unfold partA;rw [if_neg h1,if_neg h2,if_pos h3,YS.out.1,YS.out.2.1,YS.out.2.2]);cases nd;exact paF;cases nk;exact paF;cases nr;exact paF;exact paF
 have y3:(a.kind == 3)=false:=by simpa using h3
 by_cases h4:a.kind=4
 ·have y4:(a.kind == 4)=true:=by simp [h4]
  have HU:=am (show partA a (.slice Ad a.deeds.length cd) (.slice Ak a.kids.length ck)=_ from by unfold partA;rw [if_neg h1,if_neg h2,if_neg h3,if_pos h4,YS.out.1,YS.out.2.1]);cases nd;exact paF;cases nk;exact paF;exact paF
 have y4:(a.kind == 4)=false:=by simpa using h4
 have HU:Aside0 (partA a (.slice Ad a.deeds.length cd) (.slice Ak a.kids.length ck)=_):=⟨by unfold partA;rw [if_neg h1,if_neg h2,if_neg h3,if_neg h4]⟩;exact paF
theorem actNF {q:Prop} (h:q:=by
  go_enter Try.func98,Try.ntmps98;go_wp2;go_ret;rw [HU.out];exact ⟨rfl,M.out.below⟩):q:=h
theorem actOk_calls (a:Act) (Ad:Option Addr) (cd:Nat) (Ak:Option Addr) (ck:Nat) (n body bodies:Int) (w:World) (hd:kDeed.C w Ad a.deeds.length a.deeds) (hk:(Kd.int .i64).C w Ak a.kids.length a.kids) (hz:a.deeds.length<=1048576/\a.kids.length<=1048576) (hn:0<=n/\n<=3):
  Calls Try.prog 98 #[partA a (.slice Ad a.deeds.length cd) (.slice Ak a.kids.length ck),.int .i64 n,.int .i64 body,.int .i64 bodies] w fun e w'=>e= .returned (.bool (actOk n bodies body a))/\Below w.heap.size w w':=by
 have HD:=am hd;have HK:=am hk;have HZ:=am hz;have M:=am (Own.nil w);have C:=M.out.cl;have a_tryAct:=ta_run (P:=Try.prog) 160 122 (.agg #[.slice none 0 0]) (by kernel_rfl) (by kernel_rfl);have a_forkAct:=ta_run (P:=Try.prog) 163 122 (.agg #[.slice none 0 0]) (by kernel_rfl) (by kernel_rfl);have a_failAct:=ta_run (P:=Try.prog) 165 122 (.agg #[]) (by kernel_rfl) (by kernel_rfl);have a_failIfAct:=ta_run (P:=Try.prog) 167 122 (.agg #[.int .i64 0]) (by kernel_rfl) (by kernel_rfl);clear hd hk hz;by_cases h1:a.kind=1
 ·have y1:(a.kind == 1)=true:=by simp [h1]
  by_cases k0:a.kids= []
  ·have yk:((a.kids.length:Int) == 0)=true:=by simp [k0]
   by_cases r0:a.reg=0
   ·have yr:(a.reg == 0)=true:=by simp [r0]
    rw [show partA a (.slice Ad a.deeds.length cd) (.slice Ak a.kids.length ck)= .iface 160 (.agg #[.slice Ad a.deeds.length cd]) from by unfold partA;rw [if_pos h1,yk,yr];try rfl];have HU:Aside0 (actOk n bodies body a=changeB a.deeds n):=⟨by unfold actOk changeB;rw [if_neg (by simp [h1,k0,r0]),if_pos h1,decide_eq_false (show ¬ n < 0 by omega),decide_eq_false (show ¬ 3 < n by omega),show decide ((5:Int) < (a.deeds.length:Int))= !decide (a.deeds.length<=5) from by rw [Bool.eq_iff_iff];simp;omega];cases decide (a.deeds.length<=5) <;> simp⟩;clear h1 k0 r0;go_enter Try.func98,Try.ntmps98
    go_wp2_with (first
    |((first|with_reducible refine gB ?_ | with_reducible refine gA ?_);refine oB rfl M.out ?_;clear M C;intro g W M C;simp only [Cl] at C)
    |((with_reducible refine gS ?_);refine oS rfl rfl rfl M.out ?_;clear M C;intro W M C;simp only [Cl] at C)
    |(go_at_call 127;refine oCb M.out (changeOk_calls _ _ _ n _ (Kd.C_below HD.out M.out.below) HZ.out.1) rfl ?_;clear M C;intro W M C;simp only [Cl] at C))
    go_ret;rw [HU.out];exact ⟨rfl,M.out.below⟩
   ·have yr:(a.reg == 0)=false:=by simpa using r0
    rw [show partA a (.slice Ad a.deeds.length cd) (.slice Ak a.kids.length ck)= .nilIface from by unfold partA;rw [if_pos h1,yk,yr];try rfl];have HU:Aside0 (actOk n bodies body a=false):=⟨by unfold actOk;simp [h1,r0]⟩;exact actNF
  ·have yk:((a.kids.length:Int) == 0)=false:=by simpa using k0
   rw [show partA a (.slice Ad a.deeds.length cd) (.slice Ak a.kids.length ck)= .nilIface from by unfold partA;rw [if_pos h1,yk,Bool.false_and];try rfl];have HU:Aside0 (actOk n bodies body a=false):=⟨by unfold actOk;simp [h1,k0]⟩;exact actNF
 by_cases h2:a.kind=2
 ·have y1:(a.kind == 1)=false:=by simpa using h1
  have y2:(a.kind == 2)=true:=by simp [h2]
  by_cases d0:a.deeds= []
  ·have yd:((a.deeds.length:Int) == 0)=true:=by simp [d0]
   by_cases r0:a.reg=0
   ·have yr:(a.reg == 0)=true:=by simp [r0]
    rw [show partA a (.slice Ad a.deeds.length cd) (.slice Ak a.kids.length ck)= .iface 163 (.agg #[.slice Ak a.kids.length ck]) from by unfold partA;rw [if_neg h1,if_pos h2,yd,yr];try rfl];have HU:Aside0 (actOk n bodies body a=kidsOk a.kids body bodies):=⟨by unfold actOk;rw [if_neg (by simp [h2,d0,r0]),if_neg (by simp [h2]),if_pos h2]⟩;clear h1 h2 d0 r0 yd yr y1 y2;go_enter Try.func98,Try.ntmps98
    go_wp2_with (first
    |((first|with_reducible refine gB ?_ | with_reducible refine gA ?_);refine oB rfl M.out ?_;clear M C;intro g W M C;simp only [Cl] at C)
    |((with_reducible refine gS ?_);refine oS rfl rfl rfl M.out ?_;clear M C;intro W M C;simp only [Cl] at C))
    obtain ⟨L,EL,ML⟩:=Own.named M;go_loopw [12,29] (fun _ j w'=>∃ k:Nat,k<=a.kids.length/\j= .int .i64 k/\Aside0 (∀ i,i < k->inB (numAt a.kids i) (body+1) (bodies - 1)=true)/\Aside0 (Own w w' L)) (fun _ j _=>a.kids.length - (intOf j).toNat)
    case atStart=>exact ⟨0,Nat.zero_le _,rfl,⟨fun i hi=>by omega⟩,ML⟩
    obtain ⟨k,hk,rfl,HJ,M2⟩:=hrel;have eL:=EL.out;subst eL;clear M C ML EL;have M:=M2;clear M2;have C:=M.out.cl;simp only [Cl] at C;by_cases hlt:k < a.kids.length
    ·have q0:(0:Int)<=(k:Int):=by omega
     have q1:(k:Int) < (a.kids.length:Int):=by omega
     have q2:=HZ.out.2;obtain ⟨ad,ed,hx⟩:=Kd.at_int HK.out (k:Int) q0 q1;cases ed;simp only [Int.toNat_natCast] at hx;obtain ⟨x,hxx⟩:∃ x,x=numAt a.kids k:=⟨_,rfl⟩;rw [show rd a.kids (k:Int)=x by rw [hxx];rfl] at hx;replace M:=am (M.out.far hx);clear C;have C:=M.out.cl;simp only [Cl] at C;have HXX:=am hxx;obtain ⟨b1,z1⟩:∃ b,decide (x<=body)=b:=⟨_,rfl⟩;obtain ⟨b2,z2⟩:∃ b,decide (bodies<=x)=b:=⟨_,rfl⟩;have HI:Aside0 (inB x (body+1) (bodies - 1)=(!b1 && !b2)):=⟨by rw [<-z1,<-z2,Bool.eq_iff_iff,inB_iff];simp;omega⟩;clear hx hxx;cases b1
     ·cases b2
      ·go_wp2
       go_roundw
       case rel=>exact ⟨k+1,by omega,by go_num,⟨fun i hi=>by rcases Nat.lt_or_ge i k with h | h;exact HJ.out i h;obtain rfl:i=k:=(by omega);rw [<-HXX.out,HI.out];rfl⟩,⟨M.out.pop⟩⟩
       case measure=>simp [intOf];omega
      ·go_wp2
       go_ret;rw [HU.out,show kidsOk a.kids body bodies=false from by unfold kidsOk;rw [allB_no hlt (by rw [<-HXX.out,HI.out];rfl)];rfl];exact ⟨rfl,M.out.below⟩
     ·go_wp2
      go_ret;rw [HU.out,show kidsOk a.kids body bodies=false from by unfold kidsOk;rw [allB_no hlt (by rw [<-HXX.out,HI.out];rfl)];rfl];exact ⟨rfl,M.out.below⟩
    ·obtain rfl:k=a.kids.length:=by omega
     have q1:¬ (a.kids.length:Int) < (a.kids.length:Int):=by omega
     have HV:=am (show kidsOk a.kids body bodies=inB a.kids.length 1 2 from by unfold kidsOk;rw [allB_iff.2 HJ.out];rfl);obtain ⟨b1,z1⟩:∃ b,decide ((1:Int)<=(a.kids.length:Int))=b:=⟨_,rfl⟩;have HV2:Aside0 (inB a.kids.length 1 2=(b1 && decide ((a.kids.length:Int)<=2))):=⟨by rw [<-z1];rfl⟩;cases b1
     all_goals go_wp2
     all_goals go_ret
     all_goals rw [HU.out,HV.out,HV2.out]
     all_goals exact ⟨rfl,M.out.below⟩
   ·have yr:(a.reg == 0)=false:=by simpa using r0
    rw [show partA a (.slice Ad a.deeds.length cd) (.slice Ak a.kids.length ck)= .nilIface from by unfold partA;rw [if_neg h1,if_pos h2,yd,yr];try rfl];have HU:Aside0 (actOk n bodies body a=false):=⟨by unfold actOk;simp [h2,r0]⟩;exact actNF
  ·have yd:((a.deeds.length:Int) == 0)=false:=by simpa using d0
   rw [show partA a (.slice Ad a.deeds.length cd) (.slice Ak a.kids.length ck)= .nilIface from by unfold partA;rw [if_neg h1,if_pos h2,yd,Bool.false_and];try rfl];have HU:Aside0 (actOk n bodies body a=false):=⟨by unfold actOk;simp [h2,d0]⟩;exact actNF
 by_cases h3:a.kind=3
 ·by_cases d0:a.deeds= []
  ·have yd:((a.deeds.length:Int) == 0)=true:=by simp [d0]
   by_cases k0:a.kids= []
   ·have yk:((a.kids.length:Int) == 0)=true:=by simp [k0]
    by_cases r0:a.reg=0
    ·have yr:(a.reg == 0)=true:=by simp [r0]
     rw [show partA a (.slice Ad a.deeds.length cd) (.slice Ak a.kids.length ck)= .iface 165 (.agg #[]) from by unfold partA;rw [if_neg h1,if_neg h2,if_pos h3,yd,yk,yr];try rfl];have HU:Aside0 (actOk n bodies body a=true):=⟨by unfold actOk;simp [h3,d0,k0,r0]⟩;go_enter Try.func98,Try.ntmps98
     go_wp2_with (first
     |((first|with_reducible refine gB ?_ | with_reducible refine gA ?_);refine oB rfl M.out ?_;clear M C;intro g W M C;simp only [Cl] at C)
     |((with_reducible refine gS ?_);refine oS rfl rfl rfl M.out ?_;clear M C;intro W M C;simp only [Cl] at C))
     go_ret;rw [HU.out];exact ⟨rfl,M.out.below⟩
    ·have yr:(a.reg == 0)=false:=by simpa using r0
     rw [show partA a (.slice Ad a.deeds.length cd) (.slice Ak a.kids.length ck)= .nilIface from by unfold partA;rw [if_neg h1,if_neg h2,if_pos h3,yd,yk,yr];try rfl];have HU:Aside0 (actOk n bodies body a=false):=⟨by unfold actOk;simp [h3,r0]⟩;exact actNF
   ·have yk:((a.kids.length:Int) == 0)=false:=by simpa using k0
    rw [show partA a (.slice Ad a.deeds.length cd) (.slice Ak a.kids.length ck)= .nilIface from by unfold partA;rw [if_neg h1,if_neg h2,if_pos h3,yd,yk,Bool.and_false,Bool.false_and];try rfl];have HU:Aside0 (actOk n bodies body a=false):=⟨by unfold actOk;simp [h3,k0]⟩;exact actNF
  ·have yd:((a.deeds.length:Int) == 0)=false:=by simpa using d0
   rw [show partA a (.slice Ad a.deeds.length cd) (.slice Ak a.kids.length ck)= .nilIface from by unfold partA;rw [if_neg h1,if_neg h2,if_pos h3,yd,Bool.false_and,Bool.false_and];try rfl];have HU:Aside0 (actOk n bodies body a=false):=⟨by unfold actOk;simp [h3,d0]⟩;exact actNF
 by_cases h4:a.kind=4
 ·by_cases d0:a.deeds= []
  ·have yd:((a.deeds.length:Int) == 0)=true:=by simp [d0]
   by_cases k0:a.kids= []
   ·have yk:((a.kids.length:Int) == 0)=true:=by simp [k0]
    rw [show partA a (.slice Ad a.deeds.length cd) (.slice Ak a.kids.length ck)= .iface 167 (.agg #[.int .i64 a.reg]) from by unfold partA;rw [if_neg h1,if_neg h2,if_neg h3,if_pos h4,yd,yk];try rfl];have HU:Aside0 (actOk n bodies body a=(decide (0<=a.reg) && decide (a.reg < 3))):=⟨by rw [inB_reg];unfold actOk;simp [h4,d0,k0]⟩;go_enter Try.func98,Try.ntmps98
    go_wp2_with (first
    |((first|with_reducible refine gB ?_ | with_reducible refine gA ?_);refine oB rfl M.out ?_;clear M C;intro g W M C;simp only [Cl] at C)
    |((with_reducible refine gS ?_);refine oS rfl rfl rfl M.out ?_;clear M C;intro W M C;simp only [Cl] at C)
    |(go_at_call 128;refine oEb (isReg_calls _ _) rfl ?_))
    go_ret;rw [HU.out];exact ⟨rfl,M.out.below⟩
   ·have yk:((a.kids.length:Int) == 0)=false:=by simpa using k0
    rw [show partA a (.slice Ad a.deeds.length cd) (.slice Ak a.kids.length ck)= .nilIface from by unfold partA;rw [if_neg h1,if_neg h2,if_neg h3,if_pos h4,yd,yk];try rfl];have HU:Aside0 (actOk n bodies body a=false):=⟨by unfold actOk;simp [h4,k0]⟩;exact actNF
  ·have yd:((a.deeds.length:Int) == 0)=false:=by simpa using d0
   rw [show partA a (.slice Ad a.deeds.length cd) (.slice Ak a.kids.length ck)= .nilIface from by unfold partA;rw [if_neg h1,if_neg h2,if_neg h3,if_pos h4,yd,Bool.false_and];try rfl];have HU:Aside0 (actOk n bodies body a=false):=⟨by unfold actOk;simp [h4,d0]⟩;exact actNF
 rw [show partA a (.slice Ad a.deeds.length cd) (.slice Ak a.kids.length ck)= .nilIface from by unfold partA;rw [if_neg h1,if_neg h2,if_neg h3,if_neg h4]];have HU:Aside0 (actOk n bodies body a=false):=⟨by unfold actOk;simp [h1,h2,h3,h4]⟩;exact actNF
theorem treeOf_calls (p:Prog) (pcs:List Value) (hf:formOk p=true):∀ (n:Nat) (b:Int) (w:World),kProg.K w p pcs->0<=b->b < p.bodies.length->(p.bodies.length:Int) - b<=n->
  Calls Try.prog 100 #[.agg pcs.toArray,.int .i64 b] w fun e w'=>e= .returned (.int .i64 (treeOf p b))/\Below w.heap.size w w':=by
 intro n
 induction n with
 | zero=>intro b w _ h0 h1 hn;omega
 | succ n ih=>
 intro b w hp h0 h1 hn;have IH:=am ih;clear ih;obtain ⟨kb,rfl⟩:=Int.eq_ofNat_of_zero_le h0;have hkb:kb < p.bodies.length:=by omega
 have HAC:Aside0 (∀ k,sumL (fun a:Act=>sumL (treeOf p) a.kids) ((actsAt p.bodies kb).take k)<=37448):=⟨fun k=>acc_le hf h0 h1 k⟩;have HTR:Aside0 (treeOf p (kb:Int)=1+sumL (fun a:Act=>sumL (treeOf p) a.kids) (actsAt p.bodies kb)):=⟨treeOf_eq hf h0 h1⟩;have HPK:=am hp;have HF:=am hf;have hb4:=(form_cells hf).2.2;have ha4:(actsAt p.bodies kb).length<=4:=form_acts hf ⟨h0,h1⟩;obtain ⟨Ac,cc,Ab,cb,rfl,-,-,-,gb⟩:=kProg_open hp;have GB:=am gb;obtain ⟨bb,ob,cs2,rfl,hcl2,hK2,hcc2,-⟩:=C_field GB.out ([]:List Act) kb hkb (by decide);obtain ⟨Aa,ca,rfl,la,ga2⟩:=hK2;have p2:=hcc2 0 _ rfl;simp only [show (Kd.slice 108 kAct).sz=1 from rfl,Nat.mul_one,Nat.add_zero] at p2;have GA2:=am (show kAct.C w Aa (actsAt p.bodies kb).length (actsAt p.bodies kb) from ga2);rw [show (p.bodies.getD kb []).length=(actsAt p.bodies kb).length from rfl] at p2;clear hcl2 hcc2 la ga2;have q0:(0:Int)<=(kb:Int):=by omega
 have q1:(kb:Int) < (p.bodies.length:Int):=by omega
 have M:=am (Own.nil w);have C:=M.out.cl;replace M:=am (M.out.far p2);clear C;have C:=M.out.cl;simp only [Cl] at C;clear hp hf gb p2 h0 h1;go_enter Try.func100,Try.ntmps100
 go_wp2_with (first
 |((first|with_reducible refine gB ?_ | with_reducible refine gA ?_);refine oB rfl M.out ?_;clear M C;intro g W M C;simp only [Cl] at C))
 obtain ⟨L,EL,ML⟩:=Own.named M;go_loopw [5,16] (fun v j w'=>∃ k:Nat,k<=(actsAt p.bodies kb).length/\j= .int .i64 k/\v= .int .i64 (1+sumL (fun a:Act=>sumL (treeOf p) a.kids) ((actsAt p.bodies kb).take k):Nat)/\Aside0 (Own w w' L)) (fun _ j _=>(actsAt p.bodies kb).length - (intOf j).toNat)
 case atStart=>exact ⟨0,Nat.zero_le _,rfl,by simp [sumL],ML⟩
 case round=>
  obtain ⟨k,hk,rfl,rfl,M2⟩:=hrel;have e_:=EL.out;subst e_;clear M C ML EL;have M:=M2;clear M2;have C:=M.out.cl;simp only [Cl] at C;obtain ⟨acc,hacc⟩:∃ x:Nat,x=(1+sumL (fun a:Act=>sumL (treeOf p) a.kids) ((actsAt p.bodies kb).take k):Nat):=⟨_,rfl⟩;have hacl:acc<=37449:=by have:=HAC.out k;omega
  simp only [<-hacc];have HACC:=am hacc;clear hacc;by_cases hlt:k < (actsAt p.bodies kb).length
  ·have KB0:=HF.out
   obtain ⟨ba,oa,cs3,rfl,hcl3,hK3,hcc3,-⟩:=C_field GA2.out zAct k hlt (by decide);obtain ⟨a,hax⟩:∃ x,x=actAt (actsAt p.bodies kb) k:=⟨_,rfl⟩;rw [show (actsAt p.bodies kb).getD k zAct=a from hax.symm] at hK3
   have hmem:a ∈ actsAt p.bodies kb:=by
    rw [hax,show actAt (actsAt p.bodies kb) k=(actsAt p.bodies kb)[k] by simp [actAt,hlt]];exact List.getElem_mem hlt
   have AX:=am hax;obtain ⟨Ad,cd,Ak,ck,rfl,-,gd,-,gk⟩:=kAct_open hK3;have HKS:=am gk;have HDS:=am gd;have HC:=am hcc3;have r0:(0:Int)<=(k:Int):=by omega
   have r1:(k:Int) < ((actsAt p.bodies kb).length:Int):=by omega
   clear hcl3 hK3 hcc3 hax gk gd;have KB:=am (kid_behind HF.out (b:=(kb:Int)) ⟨q0,q1⟩ hmem);have KL:Aside0 (∀ m,sumL (treeOf p) (a.kids.take m)<=9362):=⟨fun m=>kid_le HF.out (b:=(kb:Int)) q0 q1 hmem m⟩;have hk2:a.kids.length<=2:=KB.out.1;clear KB0 hmem
   go_wp2_with (first
   |((first|with_reducible refine gB ?_ | with_reducible refine gA ?_);refine oB rfl M.out ?_;clear M C;intro g W M C;simp only [Cl] at C)
   |((with_reducible refine gL ?_);refine oR rfl rfl M.out HC.out ?_)
   |((with_reducible refine gS ?_);refine oS rfl rfl rfl M.out ?_;clear M C;intro W M C;simp only [Cl] at C))
   obtain ⟨L,EL,ML⟩:=Own.named M;go_loopw [5,23] (fun v j w'=>∃ m:Nat,m<=a.kids.length/\j= .int .i64 m/\v= .int .i64 ((acc+sumL (treeOf p) (a.kids.take m):Nat):Int)/\Aside0 (Own w w' L)) (fun _ j _=>a.kids.length - (intOf j).toNat)
   case atStart=>exact ⟨0,Nat.zero_le _,rfl,by simp [sumL],ML⟩
   case round=>
    obtain ⟨m,hm,rfl,rfl,M2⟩:=hrel;have e_:=EL.out;subst e_;clear M C ML EL;have M:=M2;clear M2;have C:=M.out.cl;simp only [Cl] at C;obtain ⟨ac2,hac2⟩:∃ x:Nat,x=acc+sumL (treeOf p) (a.kids.take m):=⟨_,rfl⟩;have hac2l:ac2<=50000:=by have:=KL.out m;omega
    simp only [<-hac2];have HAC2:=am hac2;clear hac2;by_cases hlt2:m < a.kids.length
    ·have s0:(0:Int)<=(m:Int):=by omega
     have s1:(m:Int) < (a.kids.length:Int):=by omega
     obtain ⟨kid,hkid⟩:∃ x,x=numAt a.kids m:=⟨_,rfl⟩;have hkr:=KB.out.2 kid (by rw [hkid,show numAt a.kids m=a.kids[m] by simp [numAt,hlt2]];exact List.getElem_mem hlt2);have KR:=am hkr;obtain ⟨tk0,htk⟩:∃ x,x=treeOf p kid:=⟨_,rfl⟩;have htl:tk0<=4681:=by rw [htk];exact treeOf_le HF.out (by omega) hkr.2
     have HTK:=am htk.symm;have HKD:=am hkid;obtain ⟨ad,had,gx⟩:=Kd.at_int HKS.out (m:Int) s0 s1;subst had;simp only [Int.toNat_natCast] at gx;rw [show rd a.kids (m:Int)=kid from hkid.symm] at gx;replace M:=am (M.out.far gx);clear C;have C:=M.out.cl;simp only [Cl] at C;clear hkid htk hkr gx
     go_wp2_with (first
     |((with_reducible refine gL ?_);refine oL rfl rfl M.out ?_)
     |(go_at_call 100;refine oC M.out (IH.out kid _ (kProg.K_below M.out.below HPK.out) (by have:=KR.out;omega) KR.out.2 (by have:=KR.out;omega)) ?_;rw [HTK.out];clear M C;intro W M C;simp only [Cl] at C))
     go_roundw
     case rel=>exact ⟨m+1,by omega,by go_num,by rw [show ((acc+sumL (treeOf p) (a.kids.take (m+1)):Nat):Int)=(ac2:Int)+(tk0:Int) by rw [sumL_take (treeOf p) 0 a.kids hlt2,show a.kids.getD m 0=kid from HKD.out.symm,HTK.out,HAC2.out];omega],⟨M.out.pop⟩⟩
     case measure=>simp [intOf];omega
    ·obtain rfl:m=a.kids.length:=by omega
     have hfin:ac2=(1+sumL (fun a:Act=>sumL (treeOf p) a.kids) ((actsAt p.bodies kb).take (k+1)):Nat):=by
      rw [HAC2.out,List.take_length,HACC.out,sumL_take (fun a:Act=>sumL (treeOf p) a.kids) zAct (actsAt p.bodies kb) hlt,show (actsAt p.bodies kb).getD k zAct=a from AX.out.symm];omega
     have HFIN:=am hfin;clear hfin;have s1:¬ (a.kids.length:Int) < (a.kids.length:Int):=by omega
     go_wp2;go_roundw
     case rel=>exact ⟨k+1,by omega,by go_num,by rw [HFIN.out],⟨M.out.pop⟩⟩
     case measure=>simp [intOf];omega
  ·obtain rfl:k=(actsAt p.bodies kb).length:=by omega
   have s1:¬ ((actsAt p.bodies kb).length:Int) < ((actsAt p.bodies kb).length:Int):=by omega
   have hfin:acc=treeOf p (kb:Int):=by rw [HACC.out,HTR.out,List.take_length]
   go_wp2;go_ret;rw [<-hfin];exact ⟨rfl,M.out.below⟩
theorem poEF {q:Prop} (h:q:=by
  go_wp2_with (go_at_call 97;refine oEb (allNums_calls _ _ _ _ (Kd.C_below GC.out M.out.below) HZ.out.cells) Y2.out ?_)
  go_ret;rw [HU.out];exact ⟨by simp,M.out.below⟩):q:=h
theorem iprogOk_calls (p:Prog) (ps:List Value) (w:World) (hp:kProg.K w p ps) (hz:ProgSz p):
  Calls Try.prog 61 #[.agg ps.toArray] w fun e w'=>e= .returned (.bool (progOk p))/\Below w.heap.size w w':=by
 have HPK:=am hp;have HZ:=am hz;obtain ⟨Ac,cc,Ab,cb,rfl,-,gc,-,gb⟩:=kProg_open hp;have GC:=am gc;have GB:=am gb;have M:=am (Own.nil w);have C:=M.out.cl;obtain ⟨b1,y1⟩:∃ b,decide ((3:Int) < (p.cells.length:Int))=b:=⟨_,rfl⟩;obtain ⟨b2,y2⟩:∃ b,numsB p.cells=b:=⟨_,rfl⟩;obtain ⟨b3,y3⟩:∃ b,decide ((p.bodies.length:Int) < 1)=b:=⟨_,rfl⟩;obtain ⟨b4,y4⟩:∃ b,decide ((4:Int) < (p.bodies.length:Int))=b:=⟨_,rfl⟩
 have HU:Aside0 (progOk p=(!b1 && b2 && !b3 && !b4 && (allB p.bodies.length fun i=>bodyOk p.cells.length p.bodies.length i (actsAt p.bodies i)) && decide (treeOf p 0<=7))):=⟨by
  rw [<-y1,<-y2,<-y3,<-y4,show decide ((3:Int) < (p.cells.length:Int))= !decide (p.cells.length<=3) from by rw [Bool.eq_iff_iff];simp <;> omega];rw [show (!decide ((p.bodies.length:Int) < 1))=decide (1<=(p.bodies.length:Int)) from by rw [Bool.eq_iff_iff];simp <;> omega,show (!decide ((4:Int) < (p.bodies.length:Int)))=decide ((p.bodies.length:Int)<=4) from by rw [Bool.eq_iff_iff];simp];unfold progOk formOk numsB inB;cases decide (p.cells.length<=3) <;> cases decide (1<=(p.bodies.length:Int)) <;> cases decide ((p.bodies.length:Int)<=4) <;> simp⟩
 have Y1:=am y1;have Y2:=am y2;have Y3:=am y3;have Y4:=am y4;clear hp gc gb y2;go_enter Try.func61,Try.ntmps61
 go_upto_region 1 with (first
 |((first|with_reducible refine gB ?_ | with_reducible refine gA ?_);refine oB rfl M.out ?_;clear M C;intro g W M C;simp only [Cl] at C))
 cases b1
 case true=>exact poEF
 cases b2
 case false=>exact poEF
 cases b3
 case true=>exact poEF
 cases b4
 case true=>exact poEF
 have hc3:p.cells.length<=3:=by have:=of_decide_eq_false Y1.out;omega
 have hb4:p.bodies.length<=4:=by have:=of_decide_eq_false Y4.out;omega
 have hb1:1<=p.bodies.length:=by have:=of_decide_eq_false Y3.out;omega
 go_wp2_with (first
 |(go_at_call 97;refine oEb (allNums_calls _ _ _ _ (Kd.C_below GC.out M.out.below) HZ.out.cells) Y2.out ?_))
 obtain ⟨L,EL,ML⟩:=Own.named M;go_loopw [3,4,30] (fun _ _ j w'=>∃ kb:Nat,kb<=p.bodies.length/\j= .int .i64 kb/\Aside0 (∀ i,i < kb->bodyOk p.cells.length p.bodies.length i (actsAt p.bodies i)=true)/\Aside0 (Own w w' L)) (fun _ _ j _=>p.bodies.length - (intOf j).toNat)
 case atStart=>exact ⟨0,Nat.zero_le _,rfl,⟨fun i hi=>by omega⟩,ML⟩
 case round=>
  obtain ⟨kb,hkb0,rfl,HJ,M2⟩:=hrel;have e_:=EL.out;subst e_;clear M C ML EL;have M:=M2;clear M2;have C:=M.out.cl;simp only [Cl] at C;by_cases hkb:kb < p.bodies.length
  ·have q0:(0:Int)<=(kb:Int):=by omega
   have q1:(kb:Int) < (p.bodies.length:Int):=by omega
   have hz2:=HZ.out.acts _ (List.getElem_mem hkb);rw [<-actsAt_eq hkb] at hz2;have HZ2:=am hz2.2;have hz3:=hz2.1;clear hz2;obtain ⟨bb,ob,cs2,rfl,hcl2,hK2,hcc2,-⟩:=C_field GB.out ([]:List Act) kb hkb (by decide);obtain ⟨Aa,ca,rfl,la,ga2⟩:=hK2;have p2:=hcc2 0 _ rfl;simp only [show (Kd.slice 108 kAct).sz=1 from rfl,Nat.mul_one,Nat.add_zero] at p2;have GA2:=am (show kAct.C w Aa (actsAt p.bodies kb).length (actsAt p.bodies kb) from ga2);rw [show (p.bodies.getD kb []).length=(actsAt p.bodies kb).length from rfl] at p2;clear hcl2 hcc2 la ga2;replace M:=am (M.out.far p2);clear C p2;have C:=M.out.cl;simp only [Cl] at C;obtain ⟨b5,y5⟩:∃ b,decide ((4:Int) < ((actsAt p.bodies kb).length:Int))=b:=⟨_,rfl⟩;have HB5:Aside0 (decide ((actsAt p.bodies kb).length<=4)= !b5):=⟨by rw [<-y5,Bool.eq_iff_iff];simp;omega⟩;cases b5;rotate_left
   ·go_wp2
    go_ret;rw [HU.out,show (allB p.bodies.length fun i=>bodyOk p.cells.length p.bodies.length i (actsAt p.bodies i))=false from allB_no hkb (by unfold bodyOk;rw [HB5.out];rfl)];exact ⟨by simp,M.out.below⟩
   go_wp2_with fail
   obtain ⟨L,EL,ML⟩:=Own.named M;go_loopw [6,40] (fun _ j w'=>∃ k:Nat,k<=(actsAt p.bodies kb).length/\j= .int .i64 k/\Aside0 (∀ i,i < k->actOk p.cells.length p.bodies.length kb (actAt (actsAt p.bodies kb) i)=true)/\Aside0 (Own w w' L)) (fun _ j _=>(actsAt p.bodies kb).length - (intOf j).toNat)
   case atStart=>exact ⟨0,Nat.zero_le _,rfl,⟨fun i hi=>by omega⟩,ML⟩
   case round=>
    obtain ⟨k,hk,rfl,HK,M2⟩:=hrel;have e_:=EL.out;subst e_;clear M C ML EL;have M:=M2;clear M2;have C:=M.out.cl;simp only [Cl] at C;by_cases hlt:k < (actsAt p.bodies kb).length
    ·have HZ4:=HZ2.out
     obtain ⟨ba,oa,cs3,rfl,hcl3,hK3,hcc3,-⟩:=C_field GA2.out zAct k hlt (by decide);obtain ⟨a,hax⟩:∃ x,x=actAt (actsAt p.bodies kb) k:=⟨_,rfl⟩;rw [show (actsAt p.bodies kb).getD k zAct=a from hax.symm] at hK3
     have hmem:a ∈ actsAt p.bodies kb:=by
      rw [hax,show actAt (actsAt p.bodies kb) k=(actsAt p.bodies kb)[k] by simp [actAt,hlt]];exact List.getElem_mem hlt
     have AX:=am hax;obtain ⟨Ad,cd,Ak,ck,rfl,-,gd,-,gk⟩:=kAct_open hK3;have HKS:=am gk;have HDS:=am gd;have HC:=am hcc3;have r0:(0:Int)<=(k:Int):=by omega
     have r1:(k:Int) < ((actsAt p.bodies kb).length:Int):=by omega
     clear hcl3 hK3 hcc3 hax gk gd;have HZ5:=am (HZ4 a hmem);obtain ⟨bx,yx⟩:∃ b,actOk p.cells.length p.bodies.length kb a=b:=⟨_,rfl⟩;have YX:=am yx;clear HZ4 hmem yx
     go_wp2_with (first
     |((first|with_reducible refine gB ?_ | with_reducible refine gA ?_);refine oB rfl M.out ?_;clear M C;intro g W M C;simp only [Cl] at C)
     |((with_reducible refine gL ?_);refine oR rfl rfl M.out HC.out ?_)
     |((with_reducible refine gS ?_);refine oS rfl rfl rfl M.out ?_;clear M C;intro W M C;simp only [Cl] at C))
     refine dS M.out ?_;clear M C;intro W M;refine dN [0,2,3,4,5,6,7,8] M.out ?_;refine sL rfl rfl ?_;iterate 7 (first|refine sP rfl ?_ | refine sG rfl ?_ | refine sU rfl ?_)
     refine stillS_nil ?_;refine dC 1 rfl ?_;refine oC M.out (partOfAct_calls a _ _ _ _ _) ?_;intro W M C;refine ⟨_,rfl,M,dA ?_⟩;refine dC 9 rfl ?_;refine oCb M.out (actOk_calls a _ _ _ _ _ _ _ _ (Kd.C_below HDS.out M.out.below) (Kd.C_below HKS.out M.out.below) HZ5.out ⟨by omega,by omega⟩) YX.out ?_;intro W M C;refine ⟨_,rfl,M,dA ?_⟩;refine dN [10] M.out ?_;iterate 1 (first|refine sP rfl ?_ | refine sG rfl ?_ | refine sU rfl ?_)
     refine stillS_nil ?_;refine dD ?_;clear C;have C:=M.out.cl;simp only [Cl] at C;cases bx
     ·go_wp2
      go_ret;rw [HU.out,show (allB p.bodies.length fun i=>bodyOk p.cells.length p.bodies.length i (actsAt p.bodies i))=false from allB_no hkb (by unfold bodyOk;rw [allB_no hlt (by rw [<-AX.out];exact YX.out),Bool.and_false])];exact ⟨by simp,M.out.below⟩
     ·go_wp2
      go_roundw
      case rel=>exact ⟨k+1,by omega,by go_num,⟨fun i hi=>by rcases Nat.lt_or_ge i k with h | h;exact HK.out i h;obtain rfl:i=k:=(by omega);rw [<-AX.out];exact YX.out⟩,⟨M.out.pop⟩⟩
      case measure=>simp [intOf];omega
    ·obtain rfl:k=(actsAt p.bodies kb).length:=by omega
     have s1:¬ ((actsAt p.bodies kb).length:Int) < ((actsAt p.bodies kb).length:Int):=by omega
     go_wp2;go_roundw
     case rel=>exact ⟨kb+1,by omega,by go_num,⟨fun i hi=>by rcases Nat.lt_or_ge i kb with h | h;exact HJ.out i h;obtain rfl:i=kb:=(by omega);unfold bodyOk;rw [HB5.out,allB_iff.2 HK.out];rfl⟩,⟨M.out.pop⟩⟩
     case measure=>simp [intOf];omega
  ·obtain rfl:kb=p.bodies.length:=by omega
   have s1:¬ (p.bodies.length:Int) < (p.bodies.length:Int):=by omega
   have HAL:Aside0 ((allB p.bodies.length fun i=>bodyOk p.cells.length p.bodies.length i (actsAt p.bodies i))=true):=⟨allB_iff.2 HJ.out⟩;have HFO:Aside0 (formOk p=true):=⟨by unfold formOk;rw [HAL.out,decide_eq_true hc3,show (allB p.cells.length fun i=>inB (numAt p.cells i) 0 99)=true from Y2.out,show inB p.bodies.length 1 4=true from inB_iff.2 ⟨by omega,by omega⟩];rfl⟩;have ht:(treeOf p 0:Int)<=1000000:=by have:=treeOf_le HFO.out (b:=0) (by omega) (by omega);omega
   go_wp2_with (first
   |((with_reducible refine gL ?_);refine oL rfl rfl M.out ?_)
   |(go_at_call 100;refine oC M.out (treeOf_calls p _ HFO.out p.bodies.length 0 _ (kProg.K_below M.out.below HPK.out) (by omega) (by omega) (by omega)) ?_;clear M C;intro W M C;simp only [Cl] at C))
   go_ret;rw [HU.out,HAL.out,show decide (treeOf p 0<=7)=decide ((treeOf p 0:Int)<=7) from by rw [Bool.eq_iff_iff];simp <;> omega];exact ⟨by simp,M.out.below⟩
def isysB (p:Prog) (s:Sys):Bool:=
 progOk p && ((s.cells.length:Int) == (p.cells.length:Int)) && !decide (s.clock < 0) && !decide (200 < s.clock) && cellsB s && !decide ((s.tasks.length:Int) < 1) && !decide (7 < (s.tasks.length:Int)) &&
 allB s.tasks.length (fun i=>formB p s (taskAt s.tasks i) && stageB p s (taskAt s.tasks i)) && allB s.tasks.length (fun i=>upsOk s i && wayB p s i) && locksOk s && logB p s
structure Fine (p:Prog) (s:Sys) (t:Task):Prop where
 body:0<=t.body/\t.body < p.bodies.length
 pc:0<=t.pc/\t.pc<=(actsAt p.bodies t.body.toNat).length
 puts:PutsIn s.cells.length t.puts
theorem fine_of {p:Prog} {s:Sys} {t:Task} (h:formB p s t=true):Fine p s t:=by
 simp only [formB,placeB,Bool.and_eq_true,Bool.not_eq_true',decide_eq_true_eq,decide_eq_false_iff_not] at h;obtain ⟨⟨⟨⟨⟨⟨⟨⟨⟨⟨⟨⟨h1,h2⟩,h3⟩,-⟩,-⟩,-⟩,-⟩,-⟩,-⟩,-⟩,-⟩,-⟩,h13⟩:=h;exact ⟨h1,⟨by omega,by omega⟩,putsIn_of h13⟩
theorem stage_at {p:Prog} {s:Sys} {t:Task} (h:stageB p s t=true):0<=t.at_/\(t.stage=2\/t.stage=5->t.at_<=t.puts.length):=by
 unfold stageB at h;split at h
 ·simp only [Bool.and_eq_true,beq_iff_eq] at h
  omega
 ·simp only [Bool.and_eq_true] at h
  have h:=h.2;unfold restB placeB at h;repeat' split at h
  all_goals try simp only [Bool.and_eq_true,beq_iff_eq,decide_eq_true_eq] at h
  all_goals first | omega|(cases h)
theorem soEF {q:Prop} (h:q:=by
  go_wp2_with (first
  |((with_reducible refine gL ?_);refine oL rfl rfl M.out ?_)
  |(go_at_call 61;refine oCb M.out (iprogOk_calls p _ _ (kProg.K_below M.out.below HPK.out) HPZ.out) Y1.out ?_;clear M C;intro W M C;simp only [Cl] at C)
  |(go_at_call 62;refine oCb M.out (cellsOk_calls s _ _ (kSys.K_below M.out.below HSK.out) HSZ.out.cells) Y5.out ?_;clear M C;intro W M C;simp only [Cl] at C))
  go_ret;rw [HU.out];exact ⟨by simp,M.out.below⟩):q:=h
theorem isysOk_calls (p:Prog) (ps:List Value) (s:Sys) (ss:List Value) (w:World) (hp:kProg.K w p ps) (hs:kSys.K w s ss) (hpz:ProgSz p) (hsz:SysSz s):
  Calls Try.prog 38 #[.agg ps.toArray,.agg ss.toArray] w fun e w'=>e= .returned (.bool (isysB p s))/\Below w.heap.size w w':=by
 have HPK:=am hp;have HSK:=am hs;have HPZ:=am hpz;have HSZ:=am hsz;obtain ⟨Ac,cc,Ab,cb,rfl,-⟩:=kProg_open hp;obtain ⟨A0,c0,A1,c1,A3,c3,rfl,-,-,-,g1,-⟩:=kSys_open hs;have G1:=am g1;have HN:=HSZ.out.tasks;have M:=am (Own.nil w);have C:=M.out.cl;obtain ⟨b1,y1⟩:∃ b,progOk p=b:=⟨_,rfl⟩;obtain ⟨b2,y2⟩:∃ b,((s.cells.length:Int) == (p.cells.length:Int))=b:=⟨_,rfl⟩;obtain ⟨b3,y3⟩:∃ b,decide (s.clock < 0)=b:=⟨_,rfl⟩;obtain ⟨b4,y4⟩:∃ b,decide (200 < s.clock)=b:=⟨_,rfl⟩;obtain ⟨b5,y5⟩:∃ b,cellsB s=b:=⟨_,rfl⟩;obtain ⟨b6,y6⟩:∃ b,decide ((s.tasks.length:Int) < 1)=b:=⟨_,rfl⟩;obtain ⟨b7,y7⟩:∃ b,decide (7 < (s.tasks.length:Int))=b:=⟨_,rfl⟩;have HU:Aside0 (isysB p s=(b1 && b2 && !b3 && !b4 && b5 && !b6 && !b7 && allB s.tasks.length (fun i=>formB p s (taskAt s.tasks i) && stageB p s (taskAt s.tasks i)) && allB s.tasks.length (fun i=>upsOk s i && wayB p s i) && locksOk s && logB p s)):=⟨by rw [<-y1,<-y2,<-y3,<-y4,<-y5,<-y6,<-y7];rfl⟩;have y2n:((s.cells.length:Int) != (p.cells.length:Int))= !b2:=by rw [<-y2];rfl
 have Y1:=am y1;have Y2:=am y2;have Y3:=am y3;have Y4:=am y4;have Y5:=am y5;have Y6:=am y6;have Y7:=am y7;clear hp hs hpz hsz g1 y1 y5 y2;go_enter Try.func38,Try.ntmps38
 go_upto_region 1 with (first
 |((first|with_reducible refine gB ?_ | with_reducible refine gA ?_);refine oB rfl M.out ?_;clear M C;intro g W M C;simp only [Cl] at C))
 cases b1
 case false=>exact soEF
 cases b2
 case false=>exact soEF
 cases b3
 case true=>exact soEF
 cases b4
 case true=>exact soEF
 cases b5
 case false=>exact soEF
 cases b6
 case true=>exact soEF
 cases b7
 case true=>exact soEF
 have hk:0<=s.clock/\s.clock<=200:=⟨by have:=of_decide_eq_false Y3.out;omega,by have:=of_decide_eq_false Y4.out;omega⟩
 go_wp2_with (first
 |((with_reducible refine gL ?_);refine oL rfl rfl M.out ?_)
 |(go_at_call 61;refine oCb M.out (iprogOk_calls p _ _ (kProg.K_below M.out.below HPK.out) HPZ.out) Y1.out ?_;clear M C;intro W M C;simp only [Cl] at C)
 |(go_at_call 62;refine oCb M.out (cellsOk_calls s _ _ (kSys.K_below M.out.below HSK.out) HSZ.out.cells) Y5.out ?_;clear M C;intro W M C;simp only [Cl] at C))
 obtain ⟨L,EL,ML⟩:=Own.named M;go_loopw [6,48] (fun _ j w'=>∃ k:Nat,k<=s.tasks.length/\j= .int .i64 k/\Aside0 (∀ i,i < k->formB p s (taskAt s.tasks i)=true/\stageB p s (taskAt s.tasks i)=true)/\Aside0 (Own w w' L)) (fun _ j _=>s.tasks.length - (intOf j).toNat)
 case atStart=>exact ⟨0,Nat.zero_le _,rfl,⟨fun i hi=>by omega⟩,ML⟩
 case round=>
  obtain ⟨k,hk0,rfl,HJ,M2⟩:=hrel;have e_:=EL.out;subst e_;clear M C ML EL;have M:=M2;clear M2;have C:=M.out.cl;simp only [Cl] at C;by_cases hlt:k < s.tasks.length
  ·have q0:(0:Int)<=(k:Int):=by omega
   have q1:(k:Int) < (s.tasks.length:Int):=by omega
   obtain ⟨b,o,cs,rfl,hcl,hK,hcc,-⟩:=C_field G1.out zTask k hlt (by decide);obtain ⟨t,ht⟩:∃ x,x=taskAt s.tasks k:=⟨_,rfl⟩;rw [show s.tasks.getD k zTask=t from ht.symm] at hK;have HTK:=am hK;obtain ⟨B3,d3,B8,d8,B9,d9,B10,d10,rfl,-⟩:=kTask_open hK;have HC:=am hcc;have HT:=am ht;have HZT:=am (ht ▸ HSZ.out.task k hlt);obtain ⟨f1,z1⟩:∃ b,formB p s t=b:=⟨_,rfl⟩;obtain ⟨f2,z2⟩:∃ b,stageB p s t=b:=⟨_,rfl⟩;have Z1:=am z1;have Z2:=am z2;have HK:=am hk;clear hcl hK hcc ht z1 z2 hk;cases f1
   ·go_wp2_with (first
    |((first|with_reducible refine gB ?_ | with_reducible refine gA ?_);refine oB rfl M.out ?_;clear M C;intro g W M C;simp only [Cl] at C)
    |((with_reducible refine gL ?_);refine oR rfl rfl M.out HC.out ?_)
    |((with_reducible refine gS ?_);refine oS rfl rfl rfl M.out ?_;clear M C;intro W M C;simp only [Cl] at C)
    |((with_reducible refine gL ?_);refine oL rfl rfl M.out ?_)
    |(go_at_call 63;refine oCb M.out (formOk_calls p _ s _ t _ _ (kProg.K_below M.out.below HPK.out) (kSys.K_below M.out.below HSK.out) (kTask.K_below M.out.below HTK.out) HZT.out) Z1.out ?_;clear M C;intro W M C;simp only [Cl] at C))
    go_ret;rw [HU.out,show (allB s.tasks.length (fun i=>formB p s (taskAt s.tasks i) && stageB p s (taskAt s.tasks i)))=false from allB_no hlt (by rw [<-HT.out,Z1.out,Bool.false_and])];exact ⟨by simp,M.out.below⟩
   cases f2
   ·go_wp2_with (first
    |((first|with_reducible refine gB ?_ | with_reducible refine gA ?_);refine oB rfl M.out ?_;clear M C;intro g W M C;simp only [Cl] at C)
    |((with_reducible refine gL ?_);refine oR rfl rfl M.out HC.out ?_)
    |((with_reducible refine gS ?_);refine oS rfl rfl rfl M.out ?_;clear M C;intro W M C;simp only [Cl] at C)
    |((with_reducible refine gL ?_);refine oL rfl rfl M.out ?_)
    |(go_at_call 63;refine oCb M.out (formOk_calls p _ s _ t _ _ (kProg.K_below M.out.below HPK.out) (kSys.K_below M.out.below HSK.out) (kTask.K_below M.out.below HTK.out) HZT.out) Z1.out ?_;clear M C;intro W M C;simp only [Cl] at C)
    |(go_at_call 64;refine oCb M.out (stageOk_calls p _ s _ t _ _ (kProg.K_below M.out.below HPK.out) (kSys.K_below M.out.below HSK.out) (kTask.K_below M.out.below HTK.out) HPZ.out HK.out (fine_of Z1.out).body (fine_of Z1.out).pc) Z2.out ?_;clear M C;intro W M C;simp only [Cl] at C))
    go_ret;rw [HU.out,show (allB s.tasks.length (fun i=>formB p s (taskAt s.tasks i) && stageB p s (taskAt s.tasks i)))=false from allB_no hlt (by rw [<-HT.out,Z2.out,Bool.and_false])];exact ⟨by simp,M.out.below⟩
   go_wp2_with (first
   |((first|with_reducible refine gB ?_ | with_reducible refine gA ?_);refine oB rfl M.out ?_;clear M C;intro g W M C;simp only [Cl] at C)
   |((with_reducible refine gL ?_);refine oR rfl rfl M.out HC.out ?_)
   |((with_reducible refine gS ?_);refine oS rfl rfl rfl M.out ?_;clear M C;intro W M C;simp only [Cl] at C)
   |((with_reducible refine gL ?_);refine oL rfl rfl M.out ?_)
   |(go_at_call 63;refine oCb M.out (formOk_calls p _ s _ t _ _ (kProg.K_below M.out.below HPK.out) (kSys.K_below M.out.below HSK.out) (kTask.K_below M.out.below HTK.out) HZT.out) Z1.out ?_;clear M C;intro W M C;simp only [Cl] at C)
   |(go_at_call 64;refine oCb M.out (stageOk_calls p _ s _ t _ _ (kProg.K_below M.out.below HPK.out) (kSys.K_below M.out.below HSK.out) (kTask.K_below M.out.below HTK.out) HPZ.out HK.out (fine_of Z1.out).body (fine_of Z1.out).pc) Z2.out ?_;clear M C;intro W M C;simp only [Cl] at C))
   go_roundw
   case rel=>exact ⟨k+1,by omega,by go_num,⟨fun i hi=>by rcases Nat.lt_or_ge i k with h | h;exact HJ.out i h;obtain rfl:i=k:=(by omega);rw [<-HT.out];exact ⟨Z1.out,Z2.out⟩⟩,⟨M.out.pop⟩⟩
   case measure=>simp [intOf];omega
  ·obtain rfl:k=s.tasks.length:=by omega
   have HJ1:Aside0 (allB s.tasks.length (fun i=>formB p s (taskAt s.tasks i) && stageB p s (taskAt s.tasks i))=true):=⟨allB_iff.2 fun i hi=>by rw [(HJ.out i hi).1,(HJ.out i hi).2];rfl⟩;have s1:¬ (s.tasks.length:Int) < (s.tasks.length:Int):=by omega
   go_wp2_with fail
   clear s1 hk0 hlt;obtain ⟨L,EL,ML⟩:=Own.named M;go_loopw [7,68] (fun _ j w'=>∃ k:Nat,k<=s.tasks.length/\j= .int .i64 k/\Aside0 (∀ i,i < k->upsOk s i=true/\wayB p s i=true)/\Aside0 (Own w w' L)) (fun _ j _=>s.tasks.length - (intOf j).toNat)
   case atStart=>exact ⟨0,Nat.zero_le _,rfl,⟨fun i hi=>by omega⟩,ML⟩
   case round=>
    obtain ⟨k,hk0,rfl,HW,M2⟩:=hrel;have e_:=EL.out;subst e_;clear M C ML EL;have M:=M2;clear M2;have C:=M.out.cl;simp only [Cl] at C;by_cases hlt:k < s.tasks.length
    ·have q0:(0:Int)<=(k:Int):=by omega
     have q1:(k:Int) < (s.tasks.length:Int):=by omega
     have HFI:=am (fine_of (HJ.out k hlt).1);obtain ⟨f1,z1⟩:∃ b,upsOk s k=b:=⟨_,rfl⟩;obtain ⟨f2,z2⟩:∃ b,wayB p s k=b:=⟨_,rfl⟩;have Z1:=am z1;have Z2:=am z2;clear z1 z2;cases f1
     ·go_wp2_with (first
      |((with_reducible refine gL ?_);refine oL rfl rfl M.out ?_)
      |(go_at_call 65;refine oCb M.out (upOk_calls s _ k _ (kSys.K_below M.out.below HSK.out) hlt HN) Z1.out ?_;clear M C;intro W M C;simp only [Cl] at C))
      go_ret;rw [HU.out,show (allB s.tasks.length (fun i=>upsOk s i && wayB p s i))=false from allB_no hlt (by rw [Z1.out,Bool.false_and])];exact ⟨by simp,M.out.below⟩
     cases f2
     ·go_wp2_with (first
      |((with_reducible refine gL ?_);refine oL rfl rfl M.out ?_)
      |(go_at_call 65;refine oCb M.out (upOk_calls s _ k _ (kSys.K_below M.out.below HSK.out) hlt HN) Z1.out ?_;clear M C;intro W M C;simp only [Cl] at C)
      |(go_at_call 66;refine oCb M.out (wayOk_calls p _ s _ k _ (kProg.K_below M.out.below HPK.out) (kSys.K_below M.out.below HSK.out) HPZ.out hlt HN HFI.out.body HFI.out.pc) Z2.out ?_;clear M C;intro W M C;simp only [Cl] at C))
      go_ret;rw [HU.out,show (allB s.tasks.length (fun i=>upsOk s i && wayB p s i))=false from allB_no hlt (by rw [Z2.out,Bool.and_false])];exact ⟨by simp,M.out.below⟩
     go_wp2_with (first
     |((with_reducible refine gL ?_);refine oL rfl rfl M.out ?_)
     |(go_at_call 65;refine oCb M.out (upOk_calls s _ k _ (kSys.K_below M.out.below HSK.out) hlt HN) Z1.out ?_;clear M C;intro W M C;simp only [Cl] at C)
     |(go_at_call 66;refine oCb M.out (wayOk_calls p _ s _ k _ (kProg.K_below M.out.below HPK.out) (kSys.K_below M.out.below HSK.out) HPZ.out hlt HN HFI.out.body HFI.out.pc) Z2.out ?_;clear M C;intro W M C;simp only [Cl] at C))
     go_roundw
     case rel=>exact ⟨k+1,by omega,by go_num,⟨fun i hi=>by rcases Nat.lt_or_ge i k with h | h;exact HW.out i h;obtain rfl:i=k:=(by omega);exact ⟨Z1.out,Z2.out⟩⟩,M⟩
     case measure=>simp [intOf];omega
    ·obtain rfl:k=s.tasks.length:=by omega
     have HW1:Aside0 (allB s.tasks.length (fun i=>upsOk s i && wayB p s i)=true):=⟨allB_iff.2 fun i hi=>by rw [(HW.out i hi).1,(HW.out i hi).2];rfl⟩;have s1:¬ (s.tasks.length:Int) < (s.tasks.length:Int):=by omega
     obtain ⟨f1,z1⟩:∃ b,locksOk s=b:=⟨_,rfl⟩;have Z1:=am z1;clear z1;cases f1
     all_goals
      go_wp2_with (first
      |((with_reducible refine gL ?_);refine oL rfl rfl M.out ?_)
      |(go_at_call 67;refine oCb M.out (locksOk_calls s _ _ (kSys.K_below M.out.below HSK.out) HN HSZ.out.cells (fun i hi=>⟨(fine_of (HJ.out i hi).1).puts,(HSZ.out.task i hi).2.2.2,(stage_at (HJ.out i hi).2).1,(stage_at (HJ.out i hi).2).2⟩)) Z1.out ?_;clear M C;intro W M C;simp only [Cl] at C)
      |(go_at_call 68;refine oCb M.out (logOk_calls p _ s _ _ (kProg.K_below M.out.below HPK.out) (kSys.K_below M.out.below HSK.out) HSZ.out.log (fun i hi=>(fine_of (HJ.out i hi).1).body) HSZ.out.logs) rfl ?_;clear M C;intro W M C;simp only [Cl] at C))
      go_ret;rw [HU.out,HJ1.out,HW1.out,Z1.out];exact ⟨by simp,M.out.below⟩
theorem task_iff {p:Prog} {s:Sys} {i:Nat} (hb:begunTo s (kids s.tasks i) (kids s.tasks i).length=kidsN s.tasks i 0+kidsN s.tasks i 1+kidsN s.tasks i 2+kidsN s.tasks i 3):
  (formB p s (taskAt s.tasks i)=true/\stageB p s (taskAt s.tasks i)=true/\upsOk s i=true/\wayB p s i=true) ↔ taskOk p s i=true:=by
 unfold taskOk wayB wayOk;simp only [hb];generalize kidsN s.tasks i 0+kidsN s.tasks i 1+kidsN s.tasks i 2+kidsN s.tasks i 3=nb;generalize upsOk s i=u;generalize taskAt s.tasks i=t;unfold formB stageB timesOk;generalize actsAt p.bodies t.body.toNat=acts;generalize actAt acts t.pc.toNat=a;generalize numsOk t.regs 3=n1;generalize numsOk t.old 3=n2;generalize listOk t.reads s.cells.length=l1;generalize listOk t.puts s.cells.length=l2;unfold restB timedB stOk placeB inB;by_cases h0:t.stage=0
 ·simp only [h0,if_true,if_false,Bool.and_eq_true,Bool.or_eq_true,Bool.not_eq_true',decide_eq_true_eq,decide_eq_false_iff_not,beq_iff_eq]
  by_cases w0:t.way=0
  ·simp [w0];grind
  ·by_cases w1:t.way=1
   ·simp [w1];grind
   ·by_cases w2:t.way=2
    ·simp [w2];grind
    ·simp [w0,w1,w2];grind
 ·by_cases w0:t.way=0
  ·by_cases h1:t.stage=1
   ·simp [h1,w0];grind
   ·by_cases h2:t.stage=2
    ·simp [h2,w0];grind
    ·by_cases h3:t.stage=3
     ·simp [h3,w0];grind
     ·by_cases h4:t.stage=4
      ·simp [h4,w0];grind
      ·by_cases h5:t.stage=5
       ·simp [h5,w0];grind
       ·simp [h0,h1,h2,h3,h4,h5,w0];grind
  ·simp [h0,w0]
theorem cntTo_congr {f g:Nat->Bool}:∀ {n:Nat},(∀ i,i < n->f i=g i)->cntTo f n=cntTo g n
 | 0,_=>rfl
 | n+1,h=>by
  unfold cntTo;rw [cntTo_congr (fun i hi=>h i (by omega)),h n (by omega)]
theorem rd_lt {xs ys:List Int} {j:Nat} (h:j < xs.length):rd (xs ++ ys) (j:Int)=rd xs (j:Int):=by
 simp [rd,List.getD_eq_getElem?_getD,List.getElem?_append_left h]
theorem cnt_pick (p:Nat->Bool) (f:Int->Bool):∀ n:Nat,cntTo (fun j=>f (rd (pickTo p n) (j:Int))) (pickTo p n).length=cntTo (fun k=>p k && f (k:Int)) n
 | 0=>rfl
 | n+1=>by
  have ih:=cnt_pick p f n
  cases hp:p n with
  | false=>
   rw [pickTo_no hp,ih];show _=cntTo _ n+_
   simp [hp]
  | true=>
   rw [pickTo_yes hp,List.length_append];show cntTo _ (pickTo p n).length+(if _ then 1 else 0)=cntTo _ n+(if _ then 1 else 0);rw [cntTo_congr (g:=fun j=>f (rd (pickTo p n) (j:Int))) (fun j hj=>by rw [rd_lt hj]),ih];have:rd (pickTo p n ++ [(n:Int)]) ((pickTo p n).length:Int)=(n:Int):=by simp [rd]
   simp [this,hp]
theorem begun_eq {s:Sys} (hu:∀ k,k < s.tasks.length->upsOk s k=true) (hw:∀ k,k < s.tasks.length->0<=(taskAt s.tasks k).way/\(taskAt s.tasks k).way<=4) (i:Nat):
  begunTo s (kids s.tasks i) (kids s.tasks i).length=kidsN s.tasks i 0+kidsN s.tasks i 1+kidsN s.tasks i 2+kidsN s.tasks i 3:=by
 unfold begunTo kids;rw [cnt_pick (isKid s.tasks i) (fun x=> !decide ((taskAt s.tasks x.toNat).way=4))];unfold kidsN
 have key:∀ n,n<=s.tasks.length->cntTo (fun k=>isKid s.tasks i k && !decide ((taskAt s.tasks (k:Int).toNat).way=4)) n=
   cntTo (fun k=>decide ((taskAt s.tasks k).up=i) && decide ((taskAt s.tasks k).way=0)) n+cntTo (fun k=>decide ((taskAt s.tasks k).up=i) && decide ((taskAt s.tasks k).way=1)) n+
   cntTo (fun k=>decide ((taskAt s.tasks k).up=i) && decide ((taskAt s.tasks k).way=2)) n+cntTo (fun k=>decide ((taskAt s.tasks k).up=i) && decide ((taskAt s.tasks k).way=3)) n:=by
  intro n
  induction n with
  | zero=>intro _;rfl
  | succ n ih=>
   intro hn;unfold cntTo;rw [ih (by omega)];have h1:=hu n (by omega);have h2:=hw n (by omega);unfold upsOk at h1;unfold isKid;simp only [Int.toNat_natCast];by_cases hup:(taskAt s.tasks n).up=(i:Int)
   ·have hlt:(i:Int) < (n:Int):=by
     simp only [hup] at h1;split at h1
     ·simp at h1
     ·simp only [Bool.and_eq_true,inB_iff] at h1;omega
    simp only [hup,hlt,decide_true,Bool.and_true,Bool.true_and,show (0:Int)<=(i:Int) by omega];rcases (show (taskAt s.tasks n).way=0\/(taskAt s.tasks n).way=1\/(taskAt s.tasks n).way=2\/(taskAt s.tasks n).way=3\/(taskAt s.tasks n).way=4 by omega) with h | h | h | h | h <;> simp [h] <;> omega
   ·simp [hup]
 exact key _ (Nat.le_refl _)
theorem isys_eq (p:Prog) (s:Sys):isysB p s=sysOk p s:=by
 rw [Bool.eq_iff_iff]
 have hT:(∀ i,i < s.tasks.length->formB p s (taskAt s.tasks i)=true/\stageB p s (taskAt s.tasks i)=true)/\(∀ i,i < s.tasks.length->upsOk s i=true/\wayB p s i=true) ↔ ∀ i,i < s.tasks.length->taskOk p s i=true:=by
  constructor
  ·rintro ⟨h1,h2⟩ i hi
   refine (task_iff (begun_eq (fun k hk=>(h2 k hk).1) (fun k hk=> ?_) i)).1 ⟨(h1 i hi).1,(h1 i hi).2,(h2 i hi).1,(h2 i hi).2⟩
   have:=(h1 k hk).1
   unfold formB at this;simp only [Bool.and_eq_true,Bool.not_eq_true',decide_eq_false_iff_not] at this;omega
  ·intro h
   have hu:∀ k,k < s.tasks.length->upsOk s k=true/\(0<=(taskAt s.tasks k).way/\(taskAt s.tasks k).way<=4):=fun k hk=>by
    have:=h k hk
    unfold taskOk at this;simp only [Bool.and_eq_true,inB_iff] at this;grind
   exact ⟨fun i hi=>have:=(task_iff (begun_eq (fun k hk=>(hu k hk).1) (fun k hk=>(hu k hk).2) i)).2 (h i hi);⟨this.1,this.2.1⟩,fun i hi=>have:=(task_iff (begun_eq (fun k hk=>(hu k hk).1) (fun k hk=>(hu k hk).2) i)).2 (h i hi);this.2.2⟩
 have hC:(∀ i,i < s.tasks.length->formB p s (taskAt s.tasks i)=true/\stageB p s (taskAt s.tasks i)=true)->(cellsB s=true/\locksOk s=true ↔ cellsOk s=true):=by
  intro h;rw [locks_iff (fun i hi=>(fine_of (h i hi).1).puts) (fun i hi=>(stage_at (h i hi).2).1)];unfold cellsB cellsOk;simp only [allB_iff,Bool.and_eq_true,inB_iff,decide_eq_true_eq];constructor
  ·rintro ⟨h1,h2⟩ i hi
   refine ⟨⟨⟨(h1 i hi).1,(h1 i hi).2⟩,(h2 i hi).1⟩,fun k hk=> ?_⟩;rw [Bool.eq_iff_iff,(h2 i hi).2 k hk,decide_eq_true_eq]
  ·intro h2
   refine ⟨fun i hi=>(h2 i hi).1.1,fun i hi=>⟨(h2 i hi).1.2,fun k hk=> ?_⟩⟩;rw [(h2 i hi).2 k hk,decide_eq_true_eq]
 have hL:logB p s=logOk p s:=by
  unfold logB logOk logAt placeB inB
  congr 1
  funext i
  rw [Bool.eq_iff_iff];simp only [Bool.and_eq_true,Bool.not_eq_true',decide_eq_true_eq,decide_eq_false_iff_not];grind
 unfold isysB sysOk;simp only [hL,Bool.and_eq_true,Bool.not_eq_true',decide_eq_true_eq,decide_eq_false_iff_not,beq_iff_eq,allB_iff,inB_iff];constructor
 ·rintro ⟨⟨⟨⟨⟨⟨⟨⟨⟨⟨a,b⟩,c⟩,d⟩,e⟩,f⟩,g⟩,h⟩,i⟩,j⟩,k⟩
  exact ⟨⟨⟨⟨⟨⟨a,by omega⟩,by omega⟩,by omega⟩,hT.1 ⟨h,i⟩⟩,(hC h).1 ⟨e,j⟩⟩,k⟩
 ·rintro ⟨⟨⟨⟨⟨⟨a,b⟩,c⟩,d⟩,e⟩,f⟩,g⟩
  obtain ⟨h,i⟩:=hT.2 e;obtain ⟨x,y⟩:=(hC h).2 f;exact ⟨⟨⟨⟨⟨⟨⟨⟨⟨⟨a,by omega⟩,by omega⟩,by omega⟩,x⟩,by omega⟩,by omega⟩,h⟩,i⟩,y⟩,g⟩
theorem fnSysOk_calls (A:Option Addr) (c:Nat) (l:List Int) (w:World) (hC:(Kd.int .u8).C w A l.length l) (hc:l.length<=c) (hb:∀ i:Nat,0<=l.getD i 0/\l.getD i 0<=255):
  Calls Try.prog 13 #[.slice A l.length c] w fun e w'=>e= .returned (.bool true)/\Below w.heap.size w w':=by
 have HC:=am hC;have HL:=am hc;have HY:=am hb;clear hC hc hb;by_cases hbig:(1048576:Int) < (l.length:Int)
 ·have ybig:decide ((1048576:Int) < (l.length:Int))=true:=decide_eq_true hbig
  go_enter Try.func13,Try.ntmps13;go_wp2;go_ret;exact ⟨rfl,Below.refl _ _⟩
 ·have ybig:decide ((1048576:Int) < (l.length:Int))=false:=decide_eq_false hbig
  clear hbig;have M:=am (Own.nil w);have C:=M.out.cl;go_enter Try.func13,Try.ntmps13
  go_upto_region 4 with (first
  |(go_at_call 33;refine (drawSysOk_calls A c l _ HC.out HL.out HY.out).mono ?_;rintro e W1 ⟨p,s,Ac,lc,cc,Ab,lb,cb,A0,m0,c0,A1,m1,c1,yc,A3,m3,c3,rfl,hp,hpz,hs,hsz,htl,hfew,hlog,hbe⟩;obtain ⟨Q0,d0,Q1,d1,Q3,d3,he,-,hg0,-,hg1,-,-⟩:=kSys_open hs;simp only [List.cons.injEq,Value.slice.injEq,Value.int.injEq,true_and,and_true] at he;obtain ⟨⟨rfl,rfl,rfl⟩,⟨rfl,rfl,rfl⟩,rfl,⟨rfl,rfl,rfl⟩⟩:=he;obtain ⟨B0,e0,B1,e1,he2,-,-,-,-⟩:=kProg_open hp;simp only [List.cons.injEq,Value.slice.injEq,and_true] at he2;obtain ⟨⟨rfl,rfl,rfl⟩,⟨rfl,rfl,rfl⟩⟩:=he2;have HB0:=am hbe;have HSK:=am hs;have G0:=am hg0;have G1:=am hg1;have HPK:=am hp;have HPZ:=am hpz;have HSZ:=am hsz;have HN:=am (show s.tasks.length<=1048576 from Nat.le_trans hfew (by decide));have HTL:=am htl;clear hbe hs hg0 hg1 hp hpz hsz hfew htl hlog M C;have M:=am (Own.nil W1);have C:=M.out.cl;simp only [Cl] at C)
  |((first|with_reducible refine gB ?_ | with_reducible refine gA ?_);refine oB rfl M.out ?_;clear M C;intro g W M C;simp only [Cl] at C)
  |((with_reducible refine gS ?_);refine oS rfl rfl rfl M.out ?_;clear M C;intro W M C;simp only [Cl] at C)
  |((with_reducible refine gL ?_);refine oL rfl rfl M.out ?_))
  obtain ⟨ok,yo⟩:∃ b,sysOk p s=b:=⟨_,rfl⟩;have YO:=am yo;clear yo;cases ok
  ·go_wp2_with (first
   |((first|with_reducible refine gB ?_ | with_reducible refine gA ?_);refine oB rfl M.out ?_;clear M C;intro g W M C;simp only [Cl] at C)
   |((with_reducible refine gS ?_);refine oS rfl rfl rfl M.out ?_;clear M C;intro W M C;simp only [Cl] at C)
   |((with_reducible refine gL ?_);refine oL rfl rfl M.out ?_)
   |(go_at_call 38;refine oCb M.out (isysOk_calls p _ s _ _ (kProg.K_below M.out.below HPK.out) (kSys.K_below M.out.below HSK.out) HPZ.out HSZ.out) ((isys_eq p s).trans YO.out) ?_;clear M C;intro W M C;simp only [Cl] at C)
   |(go_at_call 34;refine oCb M.out (sysOk_calls p _ s _ _ (kProg.K_below M.out.below HPK.out) (kSys.K_below M.out.below HSK.out) HPZ.out HSZ.out) YO.out ?_;clear M C;intro W M C;simp only [Cl] at C))
   go_ret;exact ⟨rfl,below_step HB0.out M.out.below⟩
  go_wp2_with (first
  |((first|with_reducible refine gB ?_ | with_reducible refine gA ?_);refine oB rfl M.out ?_;clear M C;intro g W M C;simp only [Cl] at C)
  |((with_reducible refine gS ?_);refine oS rfl rfl rfl M.out ?_;clear M C;intro W M C;simp only [Cl] at C)
  |((with_reducible refine gL ?_);refine oL rfl rfl M.out ?_)
  |(go_at_call 38;refine oCb M.out (isysOk_calls p _ s _ _ (kProg.K_below M.out.below HPK.out) (kSys.K_below M.out.below HSK.out) HPZ.out HSZ.out) ((isys_eq p s).trans YO.out) ?_;clear M C;intro W M C;simp only [Cl] at C)
  |(go_at_call 34;refine oCb M.out (sysOk_calls p _ s _ _ (kProg.K_below M.out.below HPK.out) (kSys.K_below M.out.below HSK.out) HPZ.out HSZ.out) YO.out ?_;clear M C;intro W M C;simp only [Cl] at C))
  obtain ⟨hcl,htn,htm,-⟩:=ok_parts YO.out;have HTM:=am htm;have HTR:=am (ok_treeOk YO.out);clear htm;obtain ⟨L,EL,ML⟩:=Own.named M;go_loopw [6] (fun j w'=>∃ k:Nat,k<=s.cells.length/\j= .int .i64 k/\Aside0 (Own W1 w' L)) (fun j _=>s.cells.length - (intOf j).toNat)
  case atStart=>exact ⟨0,Nat.zero_le _,rfl,ML⟩
  case round=>
   obtain ⟨k,hk,rfl,M2⟩:=hrel;have e_:=EL.out;subst e_;clear M C ML EL;have M:=M2;clear M2;have C:=M.out.cl;simp only [Cl] at C;by_cases hlt:k < s.cells.length
   ·have q0:(0:Int)<=(k:Int):=by omega
    have q1:(k:Int) < (s.cells.length:Int):=by omega
    have q2:=HSZ.out.cells;obtain ⟨b,o,cs,rfl,hcl',hK,hcc,-⟩:=C_field G0.out zCell k hlt (by decide);obtain ⟨x,hx⟩:∃ x,x=cellAt s.cells k:=⟨_,rfl⟩;rw [show s.cells.getD k zCell=x from hx.symm] at hK;have e2:=kCell_open hK;subst e2;have p1:=hcc 1 _ rfl;simp only [show kCell.sz=3 from rfl] at p1;have htm:=HTM.out k hlt;rw [<-hx] at htm;have y1:decide (s.clock < x.time)=false:=decide_eq_false (by omega);have y2:decide (x.time < 0)=false:=decide_eq_false (by omega);replace M:=am (M.out.far p1);clear C;have C:=M.out.cl;simp only [Cl] at C;clear p1 hcl' hK hcc hx htm hcl htn
    go_wp2_with (first
     | fail)
    refine dS M.out ?_;clear M C;intro W M;refine dN [0,1,2,3,4,5,6,7,8,9,10,11,12,13,14,15,16,17] M.out ?_;iterate 18 (first|refine sP rfl ?_ | refine sG rfl ?_ | refine sU rfl ?_)
    refine stillS_nil ?_;refine dD ?_;have C:=M.out.cl;simp only [Cl] at C;go_wp2;go_roundw
    case rel=>exact ⟨k+1,by omega,by go_num,⟨M.out.pop⟩⟩
    case measure=>simp [intOf];omega
   ·obtain rfl:k=s.cells.length:=by omega
    have q1:¬ (s.cells.length:Int) < (s.cells.length:Int):=by omega
    have y7:decide ((s.tasks.length:Int)<=7)=true:=decide_eq_true (by omega);have yc:((s.cells.length:Int) == (p.cells.length:Int))=true:=by simp [hcl]
    clear hcl
    go_wp2_with (first
    |((with_reducible refine gL ?_);refine oL rfl rfl M.out ?_)
    |(go_at_call 24;refine oCb M.out (implOk_calls s _ _ (kSys.K_below M.out.below HSK.out) HN.out) HTR.out ?_;clear M C;intro W M C;simp only [Cl] at C))
    go_ret;exact ⟨rfl,below_step HB0.out M.out.below⟩
end Go.Proofs.Ytimamoimphjakaa.Eq
