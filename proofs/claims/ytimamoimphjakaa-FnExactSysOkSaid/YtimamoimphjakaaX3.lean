import Derived.Test.YtimamoimphjakaaX2
set_option maxHeartbeats 8000000
set_option maxRecDepth 100000
set_option linter.unusedVariables false
set_option linter.unusedSimpArgs false
namespace Go.Proofs.Ytimamoimphjakaa.Eq
open Go.RowKit Go.Proofs.YtimamoimphjakaaW.PrintWords Go.Proofs.YtimamoimphjakaaW.PrintLast Go.Proofs.YtimamoimphjakaaW.PrintMore
theorem l12Task_bad (p:Prog) (ps:List Value) (s:Sys) (ss:List Value) (i:Nat) (w:World) (hp:kProg.K w p ps) (hs:kSys.K w s ss) (hz:ProgSz p) (hi:i < s.tasks.length) (hn:s.tasks.length<=1048576) (hm:s.cells.length<=1048576) (hl:s.log.length<=1048576) (hc0:0<=s.clock) (hc1:s.clock<=200) (hsz:(taskAt s.tasks i).regs.length<=1048576/\(taskAt s.tasks i).old.length<=1048576/\(taskAt s.tasks i).reads.length<=1048576/\(taskAt s.tasks i).puts.length<=1048576) (hx:(inB (taskAt s.tasks i).body 0 ((p.bodies.length:Int) - 1) && inB (taskAt s.tasks i).pc 0 ((actsAt p.bodies (taskAt s.tasks i).body.toNat).length) && inB (taskAt s.tasks i).way 0 4 && inB (taskAt s.tasks i).stage 0 5)=false):
  Calls Try.prog 57 #[.agg ps.toArray,.agg ss.toArray,.int .i64 i] w fun e w'=>e= .returned (.bool (taskOk p s i))/\Below w.heap.size w w':=by
 have HPK:=am hp;have HSK:=am hs;have HPZ:=am hz;obtain ⟨Ac,cc,Ab,cb,rfl,-,-,-,gb⟩:=kProg_open hp;obtain ⟨A0,c0,A1,c1,A3,c3,rfl,-,-,-,g1,-⟩:=kSys_open hs;have GB:=am gb;obtain ⟨b,o,cs,rfl,hcl,hK,hcc,-⟩:=C_field g1 zTask i hi (by decide);obtain ⟨t,ht⟩:∃ x,x=taskAt s.tasks i:=⟨_,rfl⟩;rw [<-ht] at hsz hx;rw [show s.tasks.getD i zTask=t from ht.symm] at hK;have HKT0:=am hK;obtain ⟨B3,d3,B8,d8,B9,d9,B10,d10,rfl,-,g3,-,g8,-,g9,-,g10⟩:=kTask_open hK;have HKT:=HKT0;have HC:=am hcc;have R3:=am g3;have R8:=am g8;have R9:=am g9;have R10:=am g10;have HZ3:=am hsz.1;have HZ8:=am hsz.2.1;have HZ9:=am hsz.2.2.1;have HZ10:=am hsz.2.2.2;have TX:=am ht;have HU:Aside0 (taskOk p s i=(inB t.body 0 (p.bodies.length - 1) && inB t.pc 0 (actsAt p.bodies t.body.toNat).length && inB t.way 0 4 && inB t.stage 0 5 && (decide (t.way=0) || decide (t.stage=0)) && numsOk t.regs 3 && numsOk t.old 3 && listOk t.reads s.cells.length && listOk t.puts s.cells.length && (!decide (t.stage=0) || (decide (t.at_=0) && decide (t.reads.length+t.puts.length=0))) && timesOk t s && upsOk s i && wayOk p s i)):=⟨by rw [ht];rfl⟩;have q0:(0:Int)<=(i:Int):=by omega
 have q1:(i:Int) < (s.tasks.length:Int):=by omega
 have w5:wrap64 ((p.bodies.length:Int) - 1)=(p.bodies.length:Int) - 1:=by have:=hz.bodies;unfold wrap64;omega
 clear hp hs gb g1 g3 g8 g9 g10 hcl hK hcc ht HKT0 hz hsz;obtain ⟨bH1,hbH1⟩:∃ b,inB t.body 0 ((p.bodies.length:Int) - 1)=b:=⟨_,rfl⟩;have H1:Aside0 ((decide ((0:Int)<=t.body) && decide (t.body<=((p.bodies.length:Int) - 1)))=bH1):=⟨hbH1⟩;clear hbH1;obtain ⟨bH3,hbH3⟩:∃ b,inB t.way 0 4=b:=⟨_,rfl⟩;have H3:Aside0 ((decide ((0:Int)<=t.way) && decide (t.way<=4))=bH3):=⟨hbH3⟩;clear hbH3;obtain ⟨bH4,hbH4⟩:∃ b,inB t.stage 0 5=b:=⟨_,rfl⟩;have H4:Aside0 ((decide ((0:Int)<=t.stage) && decide (t.stage<=5))=bH4):=⟨hbH4⟩;clear hbH4;go_enter Try.func57,Try.ntmps57
 cases bH1 with
 | false=>
  clear hx
  go_wp2_with (first
  |((with_reducible refine gate_dst (N:=3) rfl ?_);refine box_event rfl (N:=3) rfl (t:=48) (by go_simp<;>rfl) ?_;intro gp hg w3 hbox hb;have BP:=am hbox;clear hbox hg;have HB2:=am hb;clear hb;have HB:=HB2;clear HB2;have BPc:=zc8 BP.out)
  |((with_reducible refine gate_dst (N:=4) rfl ?_);refine box_event rfl (N:=4) rfl (t:=27) (by go_simp<;>rfl) ?_;intro gs hg w4 hbox hb;have BS:=am hbox;clear hbox hg;replace BP:=am (zb8 BP.out hb);replace HB:=am (below_step HB.out hb);clear hb BPc;have BPc:=zc8 BP.out;have BSc:=zc8 BS.out)
  |((with_reducible refine gate_dst (N:=13) rfl ?_);refine wpList_load_mid rfl 38 (.tmp 12) rfl b (o+i*13) rfl _ _ (fun j u hu=>cellB HB.out (HC.out j u hu)) Try.underlying38 rfl (by kernel_rfl) ?_)|((with_reducible refine gate_dst (N:=7) rfl ?_);refine box_event rfl (N:=7) rfl (t:=38) (by go_simp<;>rfl) ?_;intro gt hg wt hbox hb;have BT0:=am hbox;have GBT:=am hg;have HBT:=am hb;clear hbox hb hg)|((with_reducible refine gate_store (t:=38) (p:=7) rfl ?_);refine store_block rfl rfl 38 (.tmp 7) (.tmp 13) rfl rfl rfl BT0.out rfl (by kernel_rfl) (aB rfl) ?_;intro wn hbox hg;have BT:=am hbox;have hbx:=pw_below_grown HBT.out _ HBT.out.size hg (fun z hz=>by cases hz;exact Nat.le_of_eq GBT.out.symm);clear BT0 HBT hbox hg;replace BP:=am (zb8 BP.out hbx);replace BS:=am (zb8 BS.out hbx);replace HB:=am (below_step HB.out hbx);clear hbx BPc BSc;have BPc:=zc8 BP.out;have BSc:=zc8 BS.out;have BTc:=zc8 BT.out))
  refine st9 (n:=33) (S:=fun W=>W.heap[gp]? = some (.cells #[.slice Ac p.cells.length cc,.slice Ab p.bodies.length cb] 48 (0,0))/\W.heap[gs]? = some (.cells #[.slice A0 s.cells.length c0,.slice (some ⟨b,o,none⟩) s.tasks.length c1,.int .i64 s.clock,.slice A3 s.log.length c3] 27 (0,0))/\W.heap[gt]? = some (.cells #[.int .i64 t.body,.int .i64 t.pc,.int .i64 t.up,.slice B3 t.regs.length d3,.int .i64 t.way,.int .i64 t.stage,.int .i64 t.at_,.int .i64 t.since,.slice B8 t.old.length d8,.slice B9 t.reads.length d9,.slice B10 t.puts.length d10,.int .i64 t.when_,.int .i64 t.from_] 38 (0,0))) (ds:= []) (by kernel_rfl) rfl ⟨blk_drew BP.out,blk_drew BS.out,blk_drew BT.out⟩ (fun hHeld=> ?_);have hb:=below_drew (Below.refl wn.heap.size wn);generalize wn.drew=w7 at hb hHeld ⊢;have HB7:=am (below_step HB.out hb);clear hb HB BP BS BT BPc BSc BTc;refine ba9 (fuel:=27) (n:=6) [0,1,2,3,4,5] (by kernel_rfl) (fun N _ _ _ _ h=>by cases N <;> exact h) hHeld ?_
  iterate 6 (
   refine stillS_step (v:= ?_) (a':= ?_) rfl (Or.inl ⟨by rfl, ?_⟩) ?_ ?_;rotate_left
   ·rintro W ⟨s0,s1,s2⟩
    have t0:=zc8 s0;have t1:=zc8 s1;have t2:=zc8 s2;clear s0 s1 s2;go_simp;with_reducible rfl
   rotate_left
   ·simp only [Act.put,sA,sZ,sS,i64_w]
    rfl)
  refine stillS_nil ?_;refine on9 (i:=6) (N:=some 20) rfl rfl (by kernel_rfl) (by decide) (fun K hK=> ?_);refine goes_ Try.func50 (by kernel_rfl) rfl #[.int .i64 t.body,.int .i64 0,.int .i64 (wrap64 ((p.bodies.length:Int) - 1))] (by rfl) rfl rfl (by (try simp only [List.map_toArray,List.map_cons,List.map_nil]);first | done | rfl) ?_;refine (l6In_calls t.body 0 (wrap64 ((p.bodies.length:Int) - 1)) _).mono ?_;rw [w5,H1.out];rintro e9 wn ⟨rfl,rfl⟩;refine ⟨_,rfl, ?_⟩;refine hK.out _ _ hHeld (fun hHeld=> ?_);clear hK K;refine norm_ (a':= ?_) ?_ ?_;rotate_left
  ·show Act.put _ (some 20) _=_
   simp only [Act.put,sA,sZ,sS,i64_w];rfl
  refine ba9 (fuel:=15) (n:=11) [7,8,9,10,11,12,13,14,15,16,17] (by kernel_rfl) (fun N _ _ _ _ h=>by cases N <;> exact h) hHeld ?_
  iterate 2 (
   refine stillS_step (v:= ?_) (a':= ?_) rfl (Or.inl ⟨by rfl, ?_⟩) ?_ ?_;rotate_left
   ·rintro W ⟨s0,s1,s2⟩
    have t0:=zc8 s0;have t1:=zc8 s1;have t2:=zc8 s2;clear s0 s1 s2;go_simp;with_reducible rfl
   rotate_left
   ·simp only [Act.put,sA,sZ,sS,i64_w]
    rfl)
  iterate 9 (
   refine stillS_step (v:=undef) (a':= ?_) rfl (Or.inr ⟨by rfl,rfl⟩) ?_ ?_;rotate_left
   ·simp only [Act.put,sA,sZ,sS]
    rfl)
  refine stillS_nil ?_;refine on9 (i:=18) (N:=some 32) rfl rfl (by kernel_rfl) (by decide) (fun K hK=> ?_);rw [if_neg (by exact Bool.false_ne_true)];refine hK.out _ _ hHeld (fun hHeld=> ?_);clear hK K;refine norm_ (a':= ?_) ?_ ?_;rotate_left
  ·show Act.put _ (some 32) _=_
   simp only [Act.put,sA,sZ,sS,i64_w];rfl
  refine ba9 (fuel:=9) (n:=5) [19,20,21,22,23] (by kernel_rfl) (fun N _ _ _ _ h=>by cases N <;> exact h) hHeld ?_
  iterate 1 (
   refine stillS_step (v:=undef) (a':= ?_) rfl (Or.inr ⟨by rfl,rfl⟩) ?_ ?_;rotate_left
   ·simp only [Act.put,sA,sZ,sS]
    rfl)
  iterate 2 (
   refine stillS_step (v:= ?_) (a':= ?_) rfl (Or.inl ⟨by rfl, ?_⟩) ?_ ?_;rotate_left
   ·rintro W ⟨s0,s1,s2⟩
    have t0:=zc8 s0;have t1:=zc8 s1;have t2:=zc8 s2;clear s0 s1 s2;go_simp;with_reducible rfl
   rotate_left
   ·simp only [Act.put,sA,sZ,sS,i64_w]
    rfl)
  iterate 2 (
   refine stillS_step (v:=undef) (a':= ?_) rfl (Or.inr ⟨by rfl,rfl⟩) ?_ ?_;rotate_left
   ·simp only [Act.put,sA,sZ,sS]
    rfl)
  refine stillS_nil ?_;refine on9 (i:=24) (N:=some 38) rfl rfl (by kernel_rfl) (by decide) (fun K hK=> ?_);rw [if_neg (by exact Bool.false_ne_true)];refine hK.out _ _ hHeld (fun hHeld=> ?_);clear hK K;refine norm_ (a':= ?_) ?_ ?_;rotate_left
  ·show Act.put _ (some 38) _=_
   simp only [Act.put,sA,sZ,sS,i64_w];rfl
  refine ba9 (fuel:=3) (n:=5) [25,26,27,28,29] (by kernel_rfl) (fun N _ _ _ _ h=>by cases N <;> exact h) hHeld ?_
  iterate 1 (
   refine stillS_step (v:=undef) (a':= ?_) rfl (Or.inr ⟨by rfl,rfl⟩) ?_ ?_;rotate_left
   ·simp only [Act.put,sA,sZ,sS]
    rfl)
  iterate 2 (
   refine stillS_step (v:= ?_) (a':= ?_) rfl (Or.inl ⟨by rfl, ?_⟩) ?_ ?_;rotate_left
   ·rintro W ⟨s0,s1,s2⟩
    have t0:=zc8 s0;have t1:=zc8 s1;have t2:=zc8 s2;clear s0 s1 s2;go_simp;with_reducible rfl
   rotate_left
   ·simp only [Act.put,sA,sZ,sS,i64_w]
    rfl)
  iterate 2 (
   refine stillS_step (v:=undef) (a':= ?_) rfl (Or.inr ⟨by rfl,rfl⟩) ?_ ?_;rotate_left
   ·simp only [Act.put,sA,sZ,sS]
    rfl)
  refine stillS_nil ?_;refine on9 (i:=30) (N:=some 44) rfl rfl (by kernel_rfl) (by decide) (fun K hK=> ?_);rw [if_neg (by exact Bool.false_ne_true)];refine hK.out _ _ hHeld (fun hHeld=> ?_);clear hK K;refine norm_ (a':= ?_) ?_ ?_;rotate_left
  ·show Act.put _ (some 44) _=_
   simp only [Act.put,sA,sZ,sS,i64_w];rfl
  refine ba9 (fuel:=0) (n:=2) [31,32] (by kernel_rfl) (fun N _ _ _ _ h=>by cases N <;> exact h) hHeld ?_
  iterate 1 (
   refine stillS_step (v:=undef) (a':= ?_) rfl (Or.inr ⟨by rfl,rfl⟩) ?_ ?_;rotate_left
   ·simp only [Act.put,sA,sZ,sS]
    rfl)
  iterate 1 (
   refine stillS_step (v:= ?_) (a':= ?_) rfl (Or.inl ⟨by rfl, ?_⟩) ?_ ?_;rotate_left
   ·rintro W ⟨s0,s1,s2⟩
    have t0:=zc8 s0;have t1:=zc8 s1;have t2:=zc8 s2;clear s0 s1 s2;go_simp;with_reducible rfl
   rotate_left
   ·simp only [Act.put,sA,sZ,sS,i64_w]
    rfl)
  refine stillS_nil ?_;refine done_ (by kernel_rfl) ?_;have BP:=am hHeld.1;have BS:=am hHeld.2.1;have BT:=am hHeld.2.2;have HB:=HB7;clear hHeld HB7;have BPc:=zc8 BP.out;have BSc:=zc8 BS.out;have BTc:=zc8 BT.out;go_wp2;go_ret
  have hr:taskOk p s i=false:=by
   rw [HU.out,show inB t.body 0 ((p.bodies.length:Int) - 1)=false from H1.out];simp only [Bool.true_and,Bool.false_and,Bool.and_false,Bool.or_true,Bool.true_or,Bool.or_false,Bool.false_or,Bool.not_true,Bool.not_false,Bool.and_self,Bool.and_true,Bool.or_self]
  rw [hr]
  exact ⟨rfl,HB.out⟩
 | true=>
  have hbb:=inB_iff.1 (show inB t.body 0 ((p.bodies.length:Int) - 1)=true from H1.out);have hb0:0<=t.body:=hbb.1;have hb1:t.body < p.bodies.length:=by omega
  clear hbb;obtain ⟨kb,hkb0⟩:=Int.eq_ofNat_of_zero_le hb0;have hkb:kb < p.bodies.length:=by omega
  have v4:t.body.toNat=kb:=by omega
  obtain ⟨bb,ob,cs2,rfl,hcl2,hK2,hcc2,-⟩:=C_field GB.out ([]:List Act) kb hkb (by decide);obtain ⟨Aa,ca,rfl,la,-⟩:=hK2;have p2:=hcc2 0 _ rfl;simp only [show (Kd.slice 108 kAct).sz=1 from rfl,Nat.mul_one,Nat.add_zero] at p2;rw [show (p.bodies.getD kb []).length=(actsAt p.bodies kb).length from rfl] at p2;have P2:=am p2;obtain ⟨na,hna⟩:∃ x,x=(actsAt p.bodies kb).length:=⟨_,rfl⟩;have hnl:na<=1048576:=by rw [hna,actsAt_eq hkb];exact (HPZ.out.acts _ (List.getElem_mem hkb)).1
  rw [<-hna] at P2;have HNA:=am hna;clear hcl2 hcc2 p2 la hna hkb0;obtain ⟨bH2,hbH2⟩:∃ b,inB t.pc 0 (na:Int)=b:=⟨_,rfl⟩;have H2:Aside0 ((decide ((0:Int)<=t.pc) && decide (t.pc<=(na:Int)))=bH2):=⟨hbH2⟩;clear hbH2
  have hx2:((true && bH2) && bH3 && bH4)=false:=by
   rw [<-hx,v4,<-HNA.out,show inB t.body 0 ((p.bodies.length:Int) - 1)=true from H1.out,show inB t.pc 0 (na:Int)=bH2 from H2.out,show inB t.way 0 4=bH3 from H3.out,show inB t.stage 0 5=bH4 from H4.out]
  clear hx
  cases bH2 with
  | false=>
   clear hx2
   go_wp2_with (first
   |((with_reducible refine gate_dst (N:=3) rfl ?_);refine box_event rfl (N:=3) rfl (t:=48) (by go_simp<;>rfl) ?_;intro gp hg w3 hbox hb;have BP:=am hbox;clear hbox hg;have HB2:=am hb;clear hb;have HB:=HB2;clear HB2;have BPc:=zc8 BP.out)
   |((with_reducible refine gate_dst (N:=4) rfl ?_);refine box_event rfl (N:=4) rfl (t:=27) (by go_simp<;>rfl) ?_;intro gs hg w4 hbox hb;have BS:=am hbox;clear hbox hg;replace BP:=am (zb8 BP.out hb);replace HB:=am (below_step HB.out hb);clear hb BPc;have BPc:=zc8 BP.out;have BSc:=zc8 BS.out)
   |((with_reducible refine gate_dst (N:=13) rfl ?_);refine wpList_load_mid rfl 38 (.tmp 12) rfl b (o+i*13) rfl _ _ (fun j u hu=>cellB HB.out (HC.out j u hu)) Try.underlying38 rfl (by kernel_rfl) ?_)|((with_reducible refine gate_dst (N:=7) rfl ?_);refine box_event rfl (N:=7) rfl (t:=38) (by go_simp<;>rfl) ?_;intro gt hg wt hbox hb;have BT0:=am hbox;have GBT:=am hg;have HBT:=am hb;clear hbox hb hg)|((with_reducible refine gate_store (t:=38) (p:=7) rfl ?_);refine store_block rfl rfl 38 (.tmp 7) (.tmp 13) rfl rfl rfl BT0.out rfl (by kernel_rfl) (aB rfl) ?_;intro wn hbox hg;have BT:=am hbox;have hbx:=pw_below_grown HBT.out _ HBT.out.size hg (fun z hz=>by cases hz;exact Nat.le_of_eq GBT.out.symm);clear BT0 HBT hbox hg;replace BP:=am (zb8 BP.out hbx);replace BS:=am (zb8 BS.out hbx);replace HB:=am (below_step HB.out hbx);clear hbx BPc BSc;have BPc:=zc8 BP.out;have BSc:=zc8 BS.out;have BTc:=zc8 BT.out))
   refine st9 (n:=33) (S:=fun W=>W.heap[gp]? = some (.cells #[.slice Ac p.cells.length cc,.slice (some ⟨bb,ob,none⟩) p.bodies.length cb] 48 (0,0))/\W.heap[gs]? = some (.cells #[.slice A0 s.cells.length c0,.slice (some ⟨b,o,none⟩) s.tasks.length c1,.int .i64 s.clock,.slice A3 s.log.length c3] 27 (0,0))/\W.heap[gt]? = some (.cells #[.int .i64 t.body,.int .i64 t.pc,.int .i64 t.up,.slice B3 t.regs.length d3,.int .i64 t.way,.int .i64 t.stage,.int .i64 t.at_,.int .i64 t.since,.slice B8 t.old.length d8,.slice B9 t.reads.length d9,.slice B10 t.puts.length d10,.int .i64 t.when_,.int .i64 t.from_] 38 (0,0))/\W.cell? ⟨bb,ob+kb,none⟩=some (.slice Aa na ca)) (ds:= []) (by kernel_rfl) rfl ⟨blk_drew BP.out,blk_drew BS.out,blk_drew BT.out,(show wn.cell? ⟨bb,ob+kb,none⟩=_ from cellB HB.out P2.out)⟩ (fun hHeld=> ?_);have hb:=below_drew (Below.refl wn.heap.size wn);generalize wn.drew=w7 at hb hHeld ⊢;have HB7:=am (below_step HB.out hb);clear hb HB BP BS BT BPc BSc BTc;refine ba9 (fuel:=27) (n:=6) [0,1,2,3,4,5] (by kernel_rfl) (fun N _ _ _ _ h=>by cases N <;> exact h) hHeld ?_
   iterate 6 (
    refine stillS_step (v:= ?_) (a':= ?_) rfl (Or.inl ⟨by rfl, ?_⟩) ?_ ?_;rotate_left
    ·rintro W ⟨s0,s1,s2,s3⟩
     have t0:=zc8 s0;have t1:=zc8 s1;have t2:=zc8 s2;clear s0 s1 s2;go_simp;with_reducible rfl
    rotate_left
    ·simp only [Act.put,sA,sZ,sS,i64_w]
     rfl)
   refine stillS_nil ?_;refine on9 (i:=6) (N:=some 20) rfl rfl (by kernel_rfl) (by decide) (fun K hK=> ?_);refine goes_ Try.func50 (by kernel_rfl) rfl #[.int .i64 t.body,.int .i64 0,.int .i64 (wrap64 ((p.bodies.length:Int) - 1))] (by rfl) rfl rfl (by (try simp only [List.map_toArray,List.map_cons,List.map_nil]);first | done | rfl) ?_;refine (l6In_calls t.body 0 (wrap64 ((p.bodies.length:Int) - 1)) _).mono ?_;rw [w5,H1.out];rintro e9 wn ⟨rfl,rfl⟩;refine ⟨_,rfl, ?_⟩;refine hK.out _ _ hHeld (fun hHeld=> ?_);clear hK K;refine norm_ (a':= ?_) ?_ ?_;rotate_left
   ·show Act.put _ (some 20) _=_
    simp only [Act.put,sA,sZ,sS,i64_w];rfl
   refine ba9 (fuel:=15) (n:=11) [7,8,9,10,11,12,13,14,15,16,17] (by kernel_rfl) (fun N _ _ _ _ h=>by cases N <;> exact h) hHeld ?_
   iterate 11 (
    refine stillS_step (v:= ?_) (a':= ?_) rfl (Or.inl ⟨by rfl, ?_⟩) ?_ ?_;rotate_left
    ·rintro W ⟨s0,s1,s2,s3⟩
     have t0:=zc8 s0;have t1:=zc8 s1;have t2:=zc8 s2;clear s0 s1 s2;go_simp;with_reducible rfl
    rotate_left
    ·simp only [Act.put,sA,sZ,sS,i64_w]
     rfl)
   refine stillS_nil ?_;refine on9 (i:=18) (N:=some 32) rfl rfl (by kernel_rfl) (by decide) (fun K hK=> ?_);refine goes_ Try.func50 (by kernel_rfl) rfl #[.int .i64 t.pc,.int .i64 0,.int .i64 (na:Int)] (by rfl) rfl rfl (by (try simp only [List.map_toArray,List.map_cons,List.map_nil]);first | done | rfl) ?_;refine (l6In_calls t.pc 0 (na:Int) _).mono ?_;rw [H2.out];rintro e9 wn ⟨rfl,rfl⟩;refine ⟨_,rfl, ?_⟩;refine hK.out _ _ hHeld (fun hHeld=> ?_);clear hK K;refine norm_ (a':= ?_) ?_ ?_;rotate_left
   ·show Act.put _ (some 32) _=_
    simp only [Act.put,sA,sZ,sS,i64_w];rfl
   refine ba9 (fuel:=9) (n:=5) [19,20,21,22,23] (by kernel_rfl) (fun N _ _ _ _ h=>by cases N <;> exact h) hHeld ?_
   iterate 3 (
    refine stillS_step (v:= ?_) (a':= ?_) rfl (Or.inl ⟨by rfl, ?_⟩) ?_ ?_;rotate_left
    ·rintro W ⟨s0,s1,s2,s3⟩
     have t0:=zc8 s0;have t1:=zc8 s1;have t2:=zc8 s2;clear s0 s1 s2;go_simp;with_reducible rfl
    rotate_left
    ·simp only [Act.put,sA,sZ,sS,i64_w]
     rfl)
   iterate 2 (
    refine stillS_step (v:=undef) (a':= ?_) rfl (Or.inr ⟨by rfl,rfl⟩) ?_ ?_;rotate_left
    ·simp only [Act.put,sA,sZ,sS]
     rfl)
   refine stillS_nil ?_;refine on9 (i:=24) (N:=some 38) rfl rfl (by kernel_rfl) (by decide) (fun K hK=> ?_);rw [if_neg (by exact Bool.false_ne_true)];refine hK.out _ _ hHeld (fun hHeld=> ?_);clear hK K;refine norm_ (a':= ?_) ?_ ?_;rotate_left
   ·show Act.put _ (some 38) _=_
    simp only [Act.put,sA,sZ,sS,i64_w];rfl
   refine ba9 (fuel:=3) (n:=5) [25,26,27,28,29] (by kernel_rfl) (fun N _ _ _ _ h=>by cases N <;> exact h) hHeld ?_
   iterate 1 (
    refine stillS_step (v:=undef) (a':= ?_) rfl (Or.inr ⟨by rfl,rfl⟩) ?_ ?_;rotate_left
    ·simp only [Act.put,sA,sZ,sS]
     rfl)
   iterate 2 (
    refine stillS_step (v:= ?_) (a':= ?_) rfl (Or.inl ⟨by rfl, ?_⟩) ?_ ?_;rotate_left
    ·rintro W ⟨s0,s1,s2,s3⟩
     have t0:=zc8 s0;have t1:=zc8 s1;have t2:=zc8 s2;clear s0 s1 s2;go_simp;with_reducible rfl
    rotate_left
    ·simp only [Act.put,sA,sZ,sS,i64_w]
     rfl)
   iterate 2 (
    refine stillS_step (v:=undef) (a':= ?_) rfl (Or.inr ⟨by rfl,rfl⟩) ?_ ?_;rotate_left
    ·simp only [Act.put,sA,sZ,sS]
     rfl)
   refine stillS_nil ?_;refine on9 (i:=30) (N:=some 44) rfl rfl (by kernel_rfl) (by decide) (fun K hK=> ?_);rw [if_neg (by exact Bool.false_ne_true)];refine hK.out _ _ hHeld (fun hHeld=> ?_);clear hK K;refine norm_ (a':= ?_) ?_ ?_;rotate_left
   ·show Act.put _ (some 44) _=_
    simp only [Act.put,sA,sZ,sS,i64_w];rfl
   refine ba9 (fuel:=0) (n:=2) [31,32] (by kernel_rfl) (fun N _ _ _ _ h=>by cases N <;> exact h) hHeld ?_
   iterate 1 (
    refine stillS_step (v:=undef) (a':= ?_) rfl (Or.inr ⟨by rfl,rfl⟩) ?_ ?_;rotate_left
    ·simp only [Act.put,sA,sZ,sS]
     rfl)
   iterate 1 (
    refine stillS_step (v:= ?_) (a':= ?_) rfl (Or.inl ⟨by rfl, ?_⟩) ?_ ?_;rotate_left
    ·rintro W ⟨s0,s1,s2,s3⟩
     have t0:=zc8 s0;have t1:=zc8 s1;have t2:=zc8 s2;clear s0 s1 s2;go_simp;with_reducible rfl
    rotate_left
    ·simp only [Act.put,sA,sZ,sS,i64_w]
     rfl)
   refine stillS_nil ?_;refine done_ (by kernel_rfl) ?_;have BP:=am hHeld.1;have BS:=am hHeld.2.1;have BT:=am hHeld.2.2.1;have HB:=HB7;clear hHeld HB7;have BPc:=zc8 BP.out;have BSc:=zc8 BS.out;have BTc:=zc8 BT.out;go_wp2;go_ret
   have hr:taskOk p s i=false:=by
    rw [HU.out,show inB t.body 0 ((p.bodies.length:Int) - 1)=true from H1.out,v4,<-HNA.out,show inB t.pc 0 (na:Int)=false from H2.out];simp only [Bool.true_and,Bool.false_and,Bool.and_false,Bool.or_true,Bool.true_or,Bool.or_false,Bool.false_or,Bool.not_true,Bool.not_false,Bool.and_self,Bool.and_true,Bool.or_self]
   rw [hr]
   exact ⟨rfl,HB.out⟩
  | true=>
   cases bH3 with
   | false=>
    clear hx2
    go_wp2_with (first
    |((with_reducible refine gate_dst (N:=3) rfl ?_);refine box_event rfl (N:=3) rfl (t:=48) (by go_simp<;>rfl) ?_;intro gp hg w3 hbox hb;have BP:=am hbox;clear hbox hg;have HB2:=am hb;clear hb;have HB:=HB2;clear HB2;have BPc:=zc8 BP.out)
    |((with_reducible refine gate_dst (N:=4) rfl ?_);refine box_event rfl (N:=4) rfl (t:=27) (by go_simp<;>rfl) ?_;intro gs hg w4 hbox hb;have BS:=am hbox;clear hbox hg;replace BP:=am (zb8 BP.out hb);replace HB:=am (below_step HB.out hb);clear hb BPc;have BPc:=zc8 BP.out;have BSc:=zc8 BS.out)
    |((with_reducible refine gate_dst (N:=13) rfl ?_);refine wpList_load_mid rfl 38 (.tmp 12) rfl b (o+i*13) rfl _ _ (fun j u hu=>cellB HB.out (HC.out j u hu)) Try.underlying38 rfl (by kernel_rfl) ?_)|((with_reducible refine gate_dst (N:=7) rfl ?_);refine box_event rfl (N:=7) rfl (t:=38) (by go_simp<;>rfl) ?_;intro gt hg wt hbox hb;have BT0:=am hbox;have GBT:=am hg;have HBT:=am hb;clear hbox hb hg)|((with_reducible refine gate_store (t:=38) (p:=7) rfl ?_);refine store_block rfl rfl 38 (.tmp 7) (.tmp 13) rfl rfl rfl BT0.out rfl (by kernel_rfl) (aB rfl) ?_;intro wn hbox hg;have BT:=am hbox;have hbx:=pw_below_grown HBT.out _ HBT.out.size hg (fun z hz=>by cases hz;exact Nat.le_of_eq GBT.out.symm);clear BT0 HBT hbox hg;replace BP:=am (zb8 BP.out hbx);replace BS:=am (zb8 BS.out hbx);replace HB:=am (below_step HB.out hbx);clear hbx BPc BSc;have BPc:=zc8 BP.out;have BSc:=zc8 BS.out;have BTc:=zc8 BT.out))
    refine st9 (n:=33) (S:=fun W=>W.heap[gp]? = some (.cells #[.slice Ac p.cells.length cc,.slice (some ⟨bb,ob,none⟩) p.bodies.length cb] 48 (0,0))/\W.heap[gs]? = some (.cells #[.slice A0 s.cells.length c0,.slice (some ⟨b,o,none⟩) s.tasks.length c1,.int .i64 s.clock,.slice A3 s.log.length c3] 27 (0,0))/\W.heap[gt]? = some (.cells #[.int .i64 t.body,.int .i64 t.pc,.int .i64 t.up,.slice B3 t.regs.length d3,.int .i64 t.way,.int .i64 t.stage,.int .i64 t.at_,.int .i64 t.since,.slice B8 t.old.length d8,.slice B9 t.reads.length d9,.slice B10 t.puts.length d10,.int .i64 t.when_,.int .i64 t.from_] 38 (0,0))/\W.cell? ⟨bb,ob+kb,none⟩=some (.slice Aa na ca)) (ds:= []) (by kernel_rfl) rfl ⟨blk_drew BP.out,blk_drew BS.out,blk_drew BT.out,(show wn.cell? ⟨bb,ob+kb,none⟩=_ from cellB HB.out P2.out)⟩ (fun hHeld=> ?_);have hb:=below_drew (Below.refl wn.heap.size wn);generalize wn.drew=w7 at hb hHeld ⊢;have HB7:=am (below_step HB.out hb);clear hb HB BP BS BT BPc BSc BTc;refine ba9 (fuel:=27) (n:=6) [0,1,2,3,4,5] (by kernel_rfl) (fun N _ _ _ _ h=>by cases N <;> exact h) hHeld ?_
    iterate 6 (
     refine stillS_step (v:= ?_) (a':= ?_) rfl (Or.inl ⟨by rfl, ?_⟩) ?_ ?_;rotate_left
     ·rintro W ⟨s0,s1,s2,s3⟩
      have t0:=zc8 s0;have t1:=zc8 s1;have t2:=zc8 s2;clear s0 s1 s2;go_simp;with_reducible rfl
     rotate_left
     ·simp only [Act.put,sA,sZ,sS,i64_w]
      rfl)
    refine stillS_nil ?_;refine on9 (i:=6) (N:=some 20) rfl rfl (by kernel_rfl) (by decide) (fun K hK=> ?_);refine goes_ Try.func50 (by kernel_rfl) rfl #[.int .i64 t.body,.int .i64 0,.int .i64 (wrap64 ((p.bodies.length:Int) - 1))] (by rfl) rfl rfl (by (try simp only [List.map_toArray,List.map_cons,List.map_nil]);first | done | rfl) ?_;refine (l6In_calls t.body 0 (wrap64 ((p.bodies.length:Int) - 1)) _).mono ?_;rw [w5,H1.out];rintro e9 wn ⟨rfl,rfl⟩;refine ⟨_,rfl, ?_⟩;refine hK.out _ _ hHeld (fun hHeld=> ?_);clear hK K;refine norm_ (a':= ?_) ?_ ?_;rotate_left
    ·show Act.put _ (some 20) _=_
     simp only [Act.put,sA,sZ,sS,i64_w];rfl
    refine ba9 (fuel:=15) (n:=11) [7,8,9,10,11,12,13,14,15,16,17] (by kernel_rfl) (fun N _ _ _ _ h=>by cases N <;> exact h) hHeld ?_
    iterate 11 (
     refine stillS_step (v:= ?_) (a':= ?_) rfl (Or.inl ⟨by rfl, ?_⟩) ?_ ?_;rotate_left
     ·rintro W ⟨s0,s1,s2,s3⟩
      have t0:=zc8 s0;have t1:=zc8 s1;have t2:=zc8 s2;clear s0 s1 s2;go_simp;with_reducible rfl
     rotate_left
     ·simp only [Act.put,sA,sZ,sS,i64_w]
      rfl)
    refine stillS_nil ?_;refine on9 (i:=18) (N:=some 32) rfl rfl (by kernel_rfl) (by decide) (fun K hK=> ?_);refine goes_ Try.func50 (by kernel_rfl) rfl #[.int .i64 t.pc,.int .i64 0,.int .i64 (na:Int)] (by rfl) rfl rfl (by (try simp only [List.map_toArray,List.map_cons,List.map_nil]);first | done | rfl) ?_;refine (l6In_calls t.pc 0 (na:Int) _).mono ?_;rw [H2.out];rintro e9 wn ⟨rfl,rfl⟩;refine ⟨_,rfl, ?_⟩;refine hK.out _ _ hHeld (fun hHeld=> ?_);clear hK K;refine norm_ (a':= ?_) ?_ ?_;rotate_left
    ·show Act.put _ (some 32) _=_
     simp only [Act.put,sA,sZ,sS,i64_w];rfl
    refine ba9 (fuel:=9) (n:=5) [19,20,21,22,23] (by kernel_rfl) (fun N _ _ _ _ h=>by cases N <;> exact h) hHeld ?_
    iterate 5 (
     refine stillS_step (v:= ?_) (a':= ?_) rfl (Or.inl ⟨by rfl, ?_⟩) ?_ ?_;rotate_left
     ·rintro W ⟨s0,s1,s2,s3⟩
      have t0:=zc8 s0;have t1:=zc8 s1;have t2:=zc8 s2;clear s0 s1 s2;go_simp;with_reducible rfl
     rotate_left
     ·simp only [Act.put,sA,sZ,sS,i64_w]
      rfl)
    refine stillS_nil ?_;refine on9 (i:=24) (N:=some 38) rfl rfl (by kernel_rfl) (by decide) (fun K hK=> ?_);refine goes_ Try.func50 (by kernel_rfl) rfl #[.int .i64 t.way,.int .i64 0,.int .i64 4] (by rfl) rfl rfl (by (try simp only [List.map_toArray,List.map_cons,List.map_nil]);first | done | rfl) ?_;refine (l6In_calls t.way 0 4 _).mono ?_;rw [H3.out];rintro e9 wn ⟨rfl,rfl⟩;refine ⟨_,rfl, ?_⟩;refine hK.out _ _ hHeld (fun hHeld=> ?_);clear hK K;refine norm_ (a':= ?_) ?_ ?_;rotate_left
    ·show Act.put _ (some 38) _=_
     simp only [Act.put,sA,sZ,sS,i64_w];rfl
    refine ba9 (fuel:=3) (n:=5) [25,26,27,28,29] (by kernel_rfl) (fun N _ _ _ _ h=>by cases N <;> exact h) hHeld ?_
    iterate 3 (
     refine stillS_step (v:= ?_) (a':= ?_) rfl (Or.inl ⟨by rfl, ?_⟩) ?_ ?_;rotate_left
     ·rintro W ⟨s0,s1,s2,s3⟩
      have t0:=zc8 s0;have t1:=zc8 s1;have t2:=zc8 s2;clear s0 s1 s2;go_simp;with_reducible rfl
     rotate_left
     ·simp only [Act.put,sA,sZ,sS,i64_w]
      rfl)
    iterate 2 (
     refine stillS_step (v:=undef) (a':= ?_) rfl (Or.inr ⟨by rfl,rfl⟩) ?_ ?_;rotate_left
     ·simp only [Act.put,sA,sZ,sS]
      rfl)
    refine stillS_nil ?_;refine on9 (i:=30) (N:=some 44) rfl rfl (by kernel_rfl) (by decide) (fun K hK=> ?_);rw [if_neg (by exact Bool.false_ne_true)];refine hK.out _ _ hHeld (fun hHeld=> ?_);clear hK K;refine norm_ (a':= ?_) ?_ ?_;rotate_left
    ·show Act.put _ (some 44) _=_
     simp only [Act.put,sA,sZ,sS,i64_w];rfl
    refine ba9 (fuel:=0) (n:=2) [31,32] (by kernel_rfl) (fun N _ _ _ _ h=>by cases N <;> exact h) hHeld ?_
    iterate 1 (
     refine stillS_step (v:=undef) (a':= ?_) rfl (Or.inr ⟨by rfl,rfl⟩) ?_ ?_;rotate_left
     ·simp only [Act.put,sA,sZ,sS]
      rfl)
    iterate 1 (
     refine stillS_step (v:= ?_) (a':= ?_) rfl (Or.inl ⟨by rfl, ?_⟩) ?_ ?_;rotate_left
     ·rintro W ⟨s0,s1,s2,s3⟩
      have t0:=zc8 s0;have t1:=zc8 s1;have t2:=zc8 s2;clear s0 s1 s2;go_simp;with_reducible rfl
     rotate_left
     ·simp only [Act.put,sA,sZ,sS,i64_w]
      rfl)
    refine stillS_nil ?_;refine done_ (by kernel_rfl) ?_;have BP:=am hHeld.1;have BS:=am hHeld.2.1;have BT:=am hHeld.2.2.1;have HB:=HB7;clear hHeld HB7;have BPc:=zc8 BP.out;have BSc:=zc8 BS.out;have BTc:=zc8 BT.out;go_wp2;go_ret
    have hr:taskOk p s i=false:=by
     rw [HU.out,show inB t.body 0 ((p.bodies.length:Int) - 1)=true from H1.out,v4,<-HNA.out,show inB t.pc 0 (na:Int)=true from H2.out,show inB t.way 0 4=false from H3.out];simp only [Bool.true_and,Bool.false_and,Bool.and_false,Bool.or_true,Bool.true_or,Bool.or_false,Bool.false_or,Bool.not_true,Bool.not_false,Bool.and_self,Bool.and_true,Bool.or_self]
    rw [hr]
    exact ⟨rfl,HB.out⟩
   | true=>
    cases bH4 with
    | false=>
     clear hx2
     go_wp2_with (first
     |((with_reducible refine gate_dst (N:=3) rfl ?_);refine box_event rfl (N:=3) rfl (t:=48) (by go_simp<;>rfl) ?_;intro gp hg w3 hbox hb;have BP:=am hbox;clear hbox hg;have HB2:=am hb;clear hb;have HB:=HB2;clear HB2;have BPc:=zc8 BP.out)
     |((with_reducible refine gate_dst (N:=4) rfl ?_);refine box_event rfl (N:=4) rfl (t:=27) (by go_simp<;>rfl) ?_;intro gs hg w4 hbox hb;have BS:=am hbox;clear hbox hg;replace BP:=am (zb8 BP.out hb);replace HB:=am (below_step HB.out hb);clear hb BPc;have BPc:=zc8 BP.out;have BSc:=zc8 BS.out)
     |((with_reducible refine gate_dst (N:=13) rfl ?_);refine wpList_load_mid rfl 38 (.tmp 12) rfl b (o+i*13) rfl _ _ (fun j u hu=>cellB HB.out (HC.out j u hu)) Try.underlying38 rfl (by kernel_rfl) ?_)|((with_reducible refine gate_dst (N:=7) rfl ?_);refine box_event rfl (N:=7) rfl (t:=38) (by go_simp<;>rfl) ?_;intro gt hg wt hbox hb;have BT0:=am hbox;have GBT:=am hg;have HBT:=am hb;clear hbox hb hg)|((with_reducible refine gate_store (t:=38) (p:=7) rfl ?_);refine store_block rfl rfl 38 (.tmp 7) (.tmp 13) rfl rfl rfl BT0.out rfl (by kernel_rfl) (aB rfl) ?_;intro wn hbox hg;have BT:=am hbox;have hbx:=pw_below_grown HBT.out _ HBT.out.size hg (fun z hz=>by cases hz;exact Nat.le_of_eq GBT.out.symm);clear BT0 HBT hbox hg;replace BP:=am (zb8 BP.out hbx);replace BS:=am (zb8 BS.out hbx);replace HB:=am (below_step HB.out hbx);clear hbx BPc BSc;have BPc:=zc8 BP.out;have BSc:=zc8 BS.out;have BTc:=zc8 BT.out))
     refine st9 (n:=33) (S:=fun W=>W.heap[gp]? = some (.cells #[.slice Ac p.cells.length cc,.slice (some ⟨bb,ob,none⟩) p.bodies.length cb] 48 (0,0))/\W.heap[gs]? = some (.cells #[.slice A0 s.cells.length c0,.slice (some ⟨b,o,none⟩) s.tasks.length c1,.int .i64 s.clock,.slice A3 s.log.length c3] 27 (0,0))/\W.heap[gt]? = some (.cells #[.int .i64 t.body,.int .i64 t.pc,.int .i64 t.up,.slice B3 t.regs.length d3,.int .i64 t.way,.int .i64 t.stage,.int .i64 t.at_,.int .i64 t.since,.slice B8 t.old.length d8,.slice B9 t.reads.length d9,.slice B10 t.puts.length d10,.int .i64 t.when_,.int .i64 t.from_] 38 (0,0))/\W.cell? ⟨bb,ob+kb,none⟩=some (.slice Aa na ca)) (ds:= []) (by kernel_rfl) rfl ⟨blk_drew BP.out,blk_drew BS.out,blk_drew BT.out,(show wn.cell? ⟨bb,ob+kb,none⟩=_ from cellB HB.out P2.out)⟩ (fun hHeld=> ?_);have hb:=below_drew (Below.refl wn.heap.size wn);generalize wn.drew=w7 at hb hHeld ⊢;have HB7:=am (below_step HB.out hb);clear hb HB BP BS BT BPc BSc BTc;refine ba9 (fuel:=27) (n:=6) [0,1,2,3,4,5] (by kernel_rfl) (fun N _ _ _ _ h=>by cases N <;> exact h) hHeld ?_
     iterate 6 (
      refine stillS_step (v:= ?_) (a':= ?_) rfl (Or.inl ⟨by rfl, ?_⟩) ?_ ?_;rotate_left
      ·rintro W ⟨s0,s1,s2,s3⟩
       have t0:=zc8 s0;have t1:=zc8 s1;have t2:=zc8 s2;clear s0 s1 s2;go_simp;with_reducible rfl
      rotate_left
      ·simp only [Act.put,sA,sZ,sS,i64_w]
       rfl)
     refine stillS_nil ?_;refine on9 (i:=6) (N:=some 20) rfl rfl (by kernel_rfl) (by decide) (fun K hK=> ?_);refine goes_ Try.func50 (by kernel_rfl) rfl #[.int .i64 t.body,.int .i64 0,.int .i64 (wrap64 ((p.bodies.length:Int) - 1))] (by rfl) rfl rfl (by (try simp only [List.map_toArray,List.map_cons,List.map_nil]);first | done | rfl) ?_;refine (l6In_calls t.body 0 (wrap64 ((p.bodies.length:Int) - 1)) _).mono ?_;rw [w5,H1.out];rintro e9 wn ⟨rfl,rfl⟩;refine ⟨_,rfl, ?_⟩;refine hK.out _ _ hHeld (fun hHeld=> ?_);clear hK K;refine norm_ (a':= ?_) ?_ ?_;rotate_left
     ·show Act.put _ (some 20) _=_
      simp only [Act.put,sA,sZ,sS,i64_w];rfl
     refine ba9 (fuel:=15) (n:=11) [7,8,9,10,11,12,13,14,15,16,17] (by kernel_rfl) (fun N _ _ _ _ h=>by cases N <;> exact h) hHeld ?_
     iterate 11 (
      refine stillS_step (v:= ?_) (a':= ?_) rfl (Or.inl ⟨by rfl, ?_⟩) ?_ ?_;rotate_left
      ·rintro W ⟨s0,s1,s2,s3⟩
       have t0:=zc8 s0;have t1:=zc8 s1;have t2:=zc8 s2;clear s0 s1 s2;go_simp;with_reducible rfl
      rotate_left
      ·simp only [Act.put,sA,sZ,sS,i64_w]
       rfl)
     refine stillS_nil ?_;refine on9 (i:=18) (N:=some 32) rfl rfl (by kernel_rfl) (by decide) (fun K hK=> ?_);refine goes_ Try.func50 (by kernel_rfl) rfl #[.int .i64 t.pc,.int .i64 0,.int .i64 (na:Int)] (by rfl) rfl rfl (by (try simp only [List.map_toArray,List.map_cons,List.map_nil]);first | done | rfl) ?_;refine (l6In_calls t.pc 0 (na:Int) _).mono ?_;rw [H2.out];rintro e9 wn ⟨rfl,rfl⟩;refine ⟨_,rfl, ?_⟩;refine hK.out _ _ hHeld (fun hHeld=> ?_);clear hK K;refine norm_ (a':= ?_) ?_ ?_;rotate_left
     ·show Act.put _ (some 32) _=_
      simp only [Act.put,sA,sZ,sS,i64_w];rfl
     refine ba9 (fuel:=9) (n:=5) [19,20,21,22,23] (by kernel_rfl) (fun N _ _ _ _ h=>by cases N <;> exact h) hHeld ?_
     iterate 5 (
      refine stillS_step (v:= ?_) (a':= ?_) rfl (Or.inl ⟨by rfl, ?_⟩) ?_ ?_;rotate_left
      ·rintro W ⟨s0,s1,s2,s3⟩
       have t0:=zc8 s0;have t1:=zc8 s1;have t2:=zc8 s2;clear s0 s1 s2;go_simp;with_reducible rfl
      rotate_left
      ·simp only [Act.put,sA,sZ,sS,i64_w]
       rfl)
     refine stillS_nil ?_;refine on9 (i:=24) (N:=some 38) rfl rfl (by kernel_rfl) (by decide) (fun K hK=> ?_);refine goes_ Try.func50 (by kernel_rfl) rfl #[.int .i64 t.way,.int .i64 0,.int .i64 4] (by rfl) rfl rfl (by (try simp only [List.map_toArray,List.map_cons,List.map_nil]);first | done | rfl) ?_;refine (l6In_calls t.way 0 4 _).mono ?_;rw [H3.out];rintro e9 wn ⟨rfl,rfl⟩;refine ⟨_,rfl, ?_⟩;refine hK.out _ _ hHeld (fun hHeld=> ?_);clear hK K;refine norm_ (a':= ?_) ?_ ?_;rotate_left
     ·show Act.put _ (some 38) _=_
      simp only [Act.put,sA,sZ,sS,i64_w];rfl
     refine ba9 (fuel:=3) (n:=5) [25,26,27,28,29] (by kernel_rfl) (fun N _ _ _ _ h=>by cases N <;> exact h) hHeld ?_
     iterate 5 (
      refine stillS_step (v:= ?_) (a':= ?_) rfl (Or.inl ⟨by rfl, ?_⟩) ?_ ?_;rotate_left
      ·rintro W ⟨s0,s1,s2,s3⟩
       have t0:=zc8 s0;have t1:=zc8 s1;have t2:=zc8 s2;clear s0 s1 s2;go_simp;with_reducible rfl
      rotate_left
      ·simp only [Act.put,sA,sZ,sS,i64_w]
       rfl)
     refine stillS_nil ?_;refine on9 (i:=30) (N:=some 44) rfl rfl (by kernel_rfl) (by decide) (fun K hK=> ?_);refine goes_ Try.func50 (by kernel_rfl) rfl #[.int .i64 t.stage,.int .i64 0,.int .i64 5] (by rfl) rfl rfl (by (try simp only [List.map_toArray,List.map_cons,List.map_nil]);first | done | rfl) ?_;refine (l6In_calls t.stage 0 5 _).mono ?_;rw [H4.out];rintro e9 wn ⟨rfl,rfl⟩;refine ⟨_,rfl, ?_⟩;refine hK.out _ _ hHeld (fun hHeld=> ?_);clear hK K;refine norm_ (a':= ?_) ?_ ?_;rotate_left
     ·show Act.put _ (some 44) _=_
      simp only [Act.put,sA,sZ,sS,i64_w];rfl
     refine ba9 (fuel:=0) (n:=2) [31,32] (by kernel_rfl) (fun N _ _ _ _ h=>by cases N <;> exact h) hHeld ?_
     iterate 2 (
      refine stillS_step (v:= ?_) (a':= ?_) rfl (Or.inl ⟨by rfl, ?_⟩) ?_ ?_;rotate_left
      ·rintro W ⟨s0,s1,s2,s3⟩
       have t0:=zc8 s0;have t1:=zc8 s1;have t2:=zc8 s2;clear s0 s1 s2;go_simp;with_reducible rfl
      rotate_left
      ·simp only [Act.put,sA,sZ,sS,i64_w]
       rfl)
     refine stillS_nil ?_;refine done_ (by kernel_rfl) ?_;have BP:=am hHeld.1;have BS:=am hHeld.2.1;have BT:=am hHeld.2.2.1;have HB:=HB7;clear hHeld HB7;have BPc:=zc8 BP.out;have BSc:=zc8 BS.out;have BTc:=zc8 BT.out;go_wp2;go_ret
     have hr:taskOk p s i=false:=by
      rw [HU.out,show inB t.body 0 ((p.bodies.length:Int) - 1)=true from H1.out,v4,<-HNA.out,show inB t.pc 0 (na:Int)=true from H2.out,show inB t.way 0 4=true from H3.out,show inB t.stage 0 5=false from H4.out];simp only [Bool.true_and,Bool.false_and,Bool.and_false,Bool.or_true,Bool.true_or,Bool.or_false,Bool.false_or,Bool.not_true,Bool.not_false,Bool.and_self,Bool.and_true,Bool.or_self]
     rw [hr]
     exact ⟨rfl,HB.out⟩
    | true=>
     cases hx2
theorem l12Task_yy (p:Prog) (ps:List Value) (s:Sys) (ss:List Value) (i:Nat) (w:World) (hp:kProg.K w p ps) (hs:kSys.K w s ss) (hz:ProgSz p) (hi:i < s.tasks.length) (hn:s.tasks.length<=1048576) (hm:s.cells.length<=1048576) (hl:s.log.length<=1048576) (hc0:0<=s.clock) (hc1:s.clock<=200) (hsz:(taskAt s.tasks i).regs.length<=1048576/\(taskAt s.tasks i).old.length<=1048576/\(taskAt s.tasks i).reads.length<=1048576/\(taskAt s.tasks i).puts.length<=1048576) (hx:(inB (taskAt s.tasks i).body 0 ((p.bodies.length:Int) - 1) && inB (taskAt s.tasks i).pc 0 ((actsAt p.bodies (taskAt s.tasks i).body.toNat).length) && inB (taskAt s.tasks i).way 0 4 && inB (taskAt s.tasks i).stage 0 5)=true) (wayx:(taskAt s.tasks i).way=0) (stx:(taskAt s.tasks i).stage=0):
  Calls Try.prog 57 #[.agg ps.toArray,.agg ss.toArray,.int .i64 i] w fun e w'=>e= .returned (.bool (taskOk p s i))/\Below w.heap.size w w':=by
 have HPK:=am hp;have HSK:=am hs;have HPZ:=am hz;obtain ⟨Ac,cc,Ab,cb,rfl,-,-,-,gb⟩:=kProg_open hp;obtain ⟨A0,c0,A1,c1,A3,c3,rfl,-,-,-,g1,-⟩:=kSys_open hs;have GB:=am gb;obtain ⟨b,o,cs,rfl,hcl,hK,hcc,-⟩:=C_field g1 zTask i hi (by decide);obtain ⟨t,ht⟩:∃ x,x=taskAt s.tasks i:=⟨_,rfl⟩;rw [<-ht] at hsz hx wayx stx;rw [show s.tasks.getD i zTask=t from ht.symm] at hK;have HKT0:=am hK;obtain ⟨B3,d3,B8,d8,B9,d9,B10,d10,rfl,-,g3,-,g8,-,g9,-,g10⟩:=kTask_open hK;have HKT:=HKT0;have HC:=am hcc;have R3:=am g3;have R8:=am g8;have R9:=am g9;have R10:=am g10;have HZ3:=am hsz.1;have HZ8:=am hsz.2.1;have HZ9:=am hsz.2.2.1;have HZ10:=am hsz.2.2.2;have TX:=am ht;have HU:Aside0 (taskOk p s i=(inB t.body 0 (p.bodies.length - 1) && inB t.pc 0 (actsAt p.bodies t.body.toNat).length && inB t.way 0 4 && inB t.stage 0 5 && (decide (t.way=0) || decide (t.stage=0)) && numsOk t.regs 3 && numsOk t.old 3 && listOk t.reads s.cells.length && listOk t.puts s.cells.length && (!decide (t.stage=0) || (decide (t.at_=0) && decide (t.reads.length+t.puts.length=0))) && timesOk t s && upsOk s i && wayOk p s i)):=⟨by rw [ht];rfl⟩;have q0:(0:Int)<=(i:Int):=by omega
 have q1:(i:Int) < (s.tasks.length:Int):=by omega
 have w5:wrap64 ((p.bodies.length:Int) - 1)=(p.bodies.length:Int) - 1:=by have:=hz.bodies;unfold wrap64;omega
 clear hp hs gb g1 g3 g8 g9 g10 hcl hK hcc ht HKT0 hz hsz;simp only [Bool.and_eq_true] at hx;have H1:Aside0 ((decide ((0:Int)<=t.body) && decide (t.body<=((p.bodies.length:Int) - 1)))=true):=⟨hx.1.1.1⟩;have H3:Aside0 ((decide ((0:Int)<=t.way) && decide (t.way<=4))=true):=⟨hx.1.2⟩;have H4:Aside0 ((decide ((0:Int)<=t.stage) && decide (t.stage<=5))=true):=⟨hx.2⟩;obtain ⟨bN3,hbN3⟩:∃ x,numsOk t.regs 3=x:=⟨_,rfl⟩;have N3:=am hbN3;clear hbN3;obtain ⟨bN8,hbN8⟩:∃ x,numsOk t.old 3=x:=⟨_,rfl⟩;have N8:=am hbN8;clear hbN8;obtain ⟨bL9,hbL9⟩:∃ x,listOk t.reads s.cells.length=x:=⟨_,rfl⟩;have L9:=am hbL9;clear hbL9;obtain ⟨bL10,hbL10⟩:∃ x,listOk t.puts s.cells.length=x:=⟨_,rfl⟩;have L10:=am hbL10;clear hbL10;obtain ⟨bTM,hbTM⟩:∃ x,timesOk t s=x:=⟨_,rfl⟩;have TM:=am hbTM;clear hbTM;obtain ⟨bUP,hbUP⟩:∃ x,upsOk s i=x:=⟨_,rfl⟩;have UP:=am hbUP;clear hbUP;obtain ⟨bAC,hbAC⟩:∃ x,wayOk p s i=x:=⟨_,rfl⟩;have AC:=am hbAC;clear hbAC;have hbb:=inB_iff.1 (show inB t.body 0 ((p.bodies.length:Int) - 1)=true from H1.out);have hb0:0<=t.body:=hbb.1;have hb1:t.body < p.bodies.length:=by omega
 clear hbb;obtain ⟨kb,hkb0⟩:=Int.eq_ofNat_of_zero_le hb0;have hkb:kb < p.bodies.length:=by omega
 have v4:t.body.toNat=kb:=by omega
 obtain ⟨bb,ob,cs2,rfl,hcl2,hK2,hcc2,-⟩:=C_field GB.out ([]:List Act) kb hkb (by decide);obtain ⟨Aa,ca,rfl,la,-⟩:=hK2;have p2:=hcc2 0 _ rfl;simp only [show (Kd.slice 108 kAct).sz=1 from rfl,Nat.mul_one,Nat.add_zero] at p2;rw [show (p.bodies.getD kb []).length=(actsAt p.bodies kb).length from rfl] at p2;have P2:=am p2;obtain ⟨na,hna⟩:∃ x,x=(actsAt p.bodies kb).length:=⟨_,rfl⟩;have hnl:na<=1048576:=by rw [hna,actsAt_eq hkb];exact (HPZ.out.acts _ (List.getElem_mem hkb)).1
 rw [<-hna] at P2;have HNA:=am hna;clear hcl2 hcc2 p2 la hna hkb0;have h2:inB t.pc 0 (na:Int)=true:=by rw [HNA.out,<-v4];exact hx.1.1.2
 have hp0:0<=t.pc:=(inB_iff.1 h2).1;have H2:Aside0 ((decide ((0:Int)<=t.pc) && decide (t.pc<=(na:Int)))=true):=⟨h2⟩;clear h2 hx;have yway:(t.way != 0)=false:=by simp [wayx]
 have WY:=am (decide_eq_true wayx);clear wayx;have SX0:=am stx;clear stx;go_enter Try.func57,Try.ntmps57
 go_wp2_with (first
 |((with_reducible refine gate_dst (N:=3) rfl ?_);refine box_event rfl (N:=3) rfl (t:=48) (by go_simp<;>rfl) ?_;intro gp hg w3 hbox hb;have BP:=am hbox;clear hbox hg;have HB2:=am hb;clear hb;have HB:=HB2;clear HB2;have BPc:=zc8 BP.out)
 |((with_reducible refine gate_dst (N:=4) rfl ?_);refine box_event rfl (N:=4) rfl (t:=27) (by go_simp<;>rfl) ?_;intro gs hg w4 hbox hb;have BS:=am hbox;clear hbox hg;replace BP:=am (zb8 BP.out hb);replace HB:=am (below_step HB.out hb);clear hb BPc;have BPc:=zc8 BP.out;have BSc:=zc8 BS.out)
 |((with_reducible refine gate_dst (N:=13) rfl ?_);refine wpList_load_mid rfl 38 (.tmp 12) rfl b (o+i*13) rfl _ _ (fun j u hu=>cellB HB.out (HC.out j u hu)) Try.underlying38 rfl (by kernel_rfl) ?_)|((with_reducible refine gate_dst (N:=7) rfl ?_);refine box_event rfl (N:=7) rfl (t:=38) (by go_simp<;>rfl) ?_;intro gt hg wt hbox hb;have BT0:=am hbox;have GBT:=am hg;have HBT:=am hb;clear hbox hb hg)|((with_reducible refine gate_store (t:=38) (p:=7) rfl ?_);refine store_block rfl rfl 38 (.tmp 7) (.tmp 13) rfl rfl rfl BT0.out rfl (by kernel_rfl) (aB rfl) ?_;intro wn hbox hg;have BT:=am hbox;have hbx:=pw_below_grown HBT.out _ HBT.out.size hg (fun z hz=>by cases hz;exact Nat.le_of_eq GBT.out.symm);clear BT0 HBT hbox hg;replace BP:=am (zb8 BP.out hbx);replace BS:=am (zb8 BS.out hbx);replace HB:=am (below_step HB.out hbx);clear hbx BPc BSc;have BPc:=zc8 BP.out;have BSc:=zc8 BS.out;have BTc:=zc8 BT.out))
 refine st9 (n:=33) (S:=fun W=>W.heap[gp]? = some (.cells #[.slice Ac p.cells.length cc,.slice (some ⟨bb,ob,none⟩) p.bodies.length cb] 48 (0,0))/\W.heap[gs]? = some (.cells #[.slice A0 s.cells.length c0,.slice (some ⟨b,o,none⟩) s.tasks.length c1,.int .i64 s.clock,.slice A3 s.log.length c3] 27 (0,0))/\W.heap[gt]? = some (.cells #[.int .i64 t.body,.int .i64 t.pc,.int .i64 t.up,.slice B3 t.regs.length d3,.int .i64 t.way,.int .i64 t.stage,.int .i64 t.at_,.int .i64 t.since,.slice B8 t.old.length d8,.slice B9 t.reads.length d9,.slice B10 t.puts.length d10,.int .i64 t.when_,.int .i64 t.from_] 38 (0,0))/\W.cell? ⟨bb,ob+kb,none⟩=some (.slice Aa na ca)) (ds:= []) (by kernel_rfl) rfl ⟨blk_drew BP.out,blk_drew BS.out,blk_drew BT.out,(show wn.cell? ⟨bb,ob+kb,none⟩=_ from cellB HB.out P2.out)⟩ (fun hHeld=> ?_);have hb:=below_drew (Below.refl wn.heap.size wn);generalize wn.drew=w7 at hb hHeld ⊢;have HB7:=am (below_step HB.out hb);clear hb HB BP BS BT BPc BSc BTc;refine ba9 (fuel:=27) (n:=6) [0,1,2,3,4,5] (by kernel_rfl) (fun N _ _ _ _ h=>by cases N <;> exact h) hHeld ?_
 iterate 6 (
  refine stillS_step (v:= ?_) (a':= ?_) rfl (Or.inl ⟨by rfl, ?_⟩) ?_ ?_;rotate_left
  ·rintro W ⟨s0,s1,s2,s3⟩
   have t0:=zc8 s0;have t1:=zc8 s1;have t2:=zc8 s2;clear s0 s1 s2;go_simp;with_reducible rfl
  rotate_left
  ·simp only [Act.put,sA,sZ,sS,i64_w]
   rfl)
 refine stillS_nil ?_;refine on9 (i:=6) (N:=some 20) rfl rfl (by kernel_rfl) (by decide) (fun K hK=> ?_);refine goes_ Try.func50 (by kernel_rfl) rfl #[.int .i64 t.body,.int .i64 0,.int .i64 (wrap64 ((p.bodies.length:Int) - 1))] (by rfl) rfl rfl (by (try simp only [List.map_toArray,List.map_cons,List.map_nil]);first | done | rfl) ?_;refine (l6In_calls t.body 0 (wrap64 ((p.bodies.length:Int) - 1)) _).mono ?_;rw [w5,H1.out];rintro e9 wn ⟨rfl,rfl⟩;refine ⟨_,rfl, ?_⟩;refine hK.out _ _ hHeld (fun hHeld=> ?_);clear hK K;refine norm_ (a':= ?_) ?_ ?_;rotate_left
 ·show Act.put _ (some 20) _=_
  simp only [Act.put,sA,sZ,sS,i64_w];rfl
 refine ba9 (fuel:=15) (n:=11) [7,8,9,10,11,12,13,14,15,16,17] (by kernel_rfl) (fun N _ _ _ _ h=>by cases N <;> exact h) hHeld ?_
 iterate 11 (
  refine stillS_step (v:= ?_) (a':= ?_) rfl (Or.inl ⟨by rfl, ?_⟩) ?_ ?_;rotate_left
  ·rintro W ⟨s0,s1,s2,s3⟩
   have t0:=zc8 s0;have t1:=zc8 s1;have t2:=zc8 s2;clear s0 s1 s2;go_simp;with_reducible rfl
  rotate_left
  ·simp only [Act.put,sA,sZ,sS,i64_w]
   rfl)
 refine stillS_nil ?_;refine on9 (i:=18) (N:=some 32) rfl rfl (by kernel_rfl) (by decide) (fun K hK=> ?_);refine goes_ Try.func50 (by kernel_rfl) rfl #[.int .i64 t.pc,.int .i64 0,.int .i64 (na:Int)] (by rfl) rfl rfl (by (try simp only [List.map_toArray,List.map_cons,List.map_nil]);first | done | rfl) ?_;refine (l6In_calls t.pc 0 (na:Int) _).mono ?_;rw [H2.out];rintro e9 wn ⟨rfl,rfl⟩;refine ⟨_,rfl, ?_⟩;refine hK.out _ _ hHeld (fun hHeld=> ?_);clear hK K;refine norm_ (a':= ?_) ?_ ?_;rotate_left
 ·show Act.put _ (some 32) _=_
  simp only [Act.put,sA,sZ,sS,i64_w];rfl
 refine ba9 (fuel:=9) (n:=5) [19,20,21,22,23] (by kernel_rfl) (fun N _ _ _ _ h=>by cases N <;> exact h) hHeld ?_
 iterate 5 (
  refine stillS_step (v:= ?_) (a':= ?_) rfl (Or.inl ⟨by rfl, ?_⟩) ?_ ?_;rotate_left
  ·rintro W ⟨s0,s1,s2,s3⟩
   have t0:=zc8 s0;have t1:=zc8 s1;have t2:=zc8 s2;clear s0 s1 s2;go_simp;with_reducible rfl
  rotate_left
  ·simp only [Act.put,sA,sZ,sS,i64_w]
   rfl)
 refine stillS_nil ?_;refine on9 (i:=24) (N:=some 38) rfl rfl (by kernel_rfl) (by decide) (fun K hK=> ?_);refine goes_ Try.func50 (by kernel_rfl) rfl #[.int .i64 t.way,.int .i64 0,.int .i64 4] (by rfl) rfl rfl (by (try simp only [List.map_toArray,List.map_cons,List.map_nil]);first | done | rfl) ?_;refine (l6In_calls t.way 0 4 _).mono ?_;rw [H3.out];rintro e9 wn ⟨rfl,rfl⟩;refine ⟨_,rfl, ?_⟩;refine hK.out _ _ hHeld (fun hHeld=> ?_);clear hK K;refine norm_ (a':= ?_) ?_ ?_;rotate_left
 ·show Act.put _ (some 38) _=_
  simp only [Act.put,sA,sZ,sS,i64_w];rfl
 refine ba9 (fuel:=3) (n:=5) [25,26,27,28,29] (by kernel_rfl) (fun N _ _ _ _ h=>by cases N <;> exact h) hHeld ?_
 iterate 5 (
  refine stillS_step (v:= ?_) (a':= ?_) rfl (Or.inl ⟨by rfl, ?_⟩) ?_ ?_;rotate_left
  ·rintro W ⟨s0,s1,s2,s3⟩
   have t0:=zc8 s0;have t1:=zc8 s1;have t2:=zc8 s2;clear s0 s1 s2;go_simp;with_reducible rfl
  rotate_left
  ·simp only [Act.put,sA,sZ,sS,i64_w]
   rfl)
 refine stillS_nil ?_;refine on9 (i:=30) (N:=some 44) rfl rfl (by kernel_rfl) (by decide) (fun K hK=> ?_);refine goes_ Try.func50 (by kernel_rfl) rfl #[.int .i64 t.stage,.int .i64 0,.int .i64 5] (by rfl) rfl rfl (by (try simp only [List.map_toArray,List.map_cons,List.map_nil]);first | done | rfl) ?_;refine (l6In_calls t.stage 0 5 _).mono ?_;rw [H4.out];rintro e9 wn ⟨rfl,rfl⟩;refine ⟨_,rfl, ?_⟩;refine hK.out _ _ hHeld (fun hHeld=> ?_);clear hK K;refine norm_ (a':= ?_) ?_ ?_;rotate_left
 ·show Act.put _ (some 44) _=_
  simp only [Act.put,sA,sZ,sS,i64_w];rfl
 refine ba9 (fuel:=0) (n:=2) [31,32] (by kernel_rfl) (fun N _ _ _ _ h=>by cases N <;> exact h) hHeld ?_
 iterate 2 (
  refine stillS_step (v:= ?_) (a':= ?_) rfl (Or.inl ⟨by rfl, ?_⟩) ?_ ?_;rotate_left
  ·rintro W ⟨s0,s1,s2,s3⟩
   have t0:=zc8 s0;have t1:=zc8 s1;have t2:=zc8 s2;clear s0 s1 s2;go_simp;with_reducible rfl
  rotate_left
  ·simp only [Act.put,sA,sZ,sS,i64_w]
   rfl)
 refine stillS_nil ?_;refine done_ (by kernel_rfl) ?_;have BP:=am hHeld.1;have BS:=am hHeld.2.1;have BT:=am hHeld.2.2.1;have HB:=HB7;clear hHeld HB7;have BPc:=zc8 BP.out;have BSc:=zc8 BS.out;have BTc:=zc8 BT.out;have stx:=SX0.out;clear SX0;have yst:(t.stage != 0)=false:=by simp [stx]
 have WS:Aside0 ((decide (t.way=0) || decide (t.stage=0))=true):=⟨by simp [stx]⟩;have SX:=am (decide_eq_true stx);clear stx
 cases bN3 with
 | false=>
  go_wp2_with (first
  |(go_at_call 91;refine (l2Nums_calls _ _ _ 3 _ (by first|exact Kd.C_below R3.out HB.out | exact Kd.C_below R8.out HB.out) (by first|exact HZ3.out | exact HZ8.out)).mono ?_;(first|rw [N3.out]);rintro e w9 ⟨rfl,rfl⟩))
  go_ret
  have hr:taskOk p s i=false:=by
   rw [HU.out,show inB t.body 0 ((p.bodies.length:Int) - 1)=true from H1.out,v4,<-HNA.out,show inB t.pc 0 (na:Int)=true from H2.out,show inB t.way 0 4=true from H3.out,show inB t.stage 0 5=true from H4.out,WS.out,N3.out];simp only [Bool.true_and,Bool.false_and,Bool.and_false,Bool.or_true,Bool.true_or,Bool.or_false,Bool.false_or,Bool.not_true,Bool.not_false,Bool.and_self,Bool.and_true,Bool.or_self]
  rw [hr]
  exact ⟨rfl,HB.out⟩
 | true=>
  cases bN8 with
  | false=>
   go_wp2_with (first
   |(go_at_call 91;refine (l2Nums_calls _ _ _ 3 _ (by first|exact Kd.C_below R3.out HB.out | exact Kd.C_below R8.out HB.out) (by first|exact HZ3.out | exact HZ8.out)).mono ?_;(first|rw [N3.out] | rw [N8.out]);rintro e w9 ⟨rfl,rfl⟩))
   go_ret
   have hr:taskOk p s i=false:=by
    rw [HU.out,show inB t.body 0 ((p.bodies.length:Int) - 1)=true from H1.out,v4,<-HNA.out,show inB t.pc 0 (na:Int)=true from H2.out,show inB t.way 0 4=true from H3.out,show inB t.stage 0 5=true from H4.out,WS.out,N3.out,N8.out];simp only [Bool.true_and,Bool.false_and,Bool.and_false,Bool.or_true,Bool.true_or,Bool.or_false,Bool.false_or,Bool.not_true,Bool.not_false,Bool.and_self,Bool.and_true,Bool.or_self]
   rw [hr]
   exact ⟨rfl,HB.out⟩
  | true=>
   cases bL9 with
   | false=>
    go_wp2_with (first
    |(go_at_call 91;refine (l2Nums_calls _ _ _ 3 _ (by first|exact Kd.C_below R3.out HB.out | exact Kd.C_below R8.out HB.out) (by first|exact HZ3.out | exact HZ8.out)).mono ?_;(first|rw [N3.out] | rw [N8.out]);rintro e w9 ⟨rfl,rfl⟩)
    |(go_at_call 92;refine (l12List_calls _ _ _ _ _ (by first|exact Kd.C_below R9.out HB.out | exact Kd.C_below R10.out HB.out) (by first|exact HZ9.out | exact HZ10.out) (by omega) (by omega)).mono ?_;(first|rw [L9.out]);rintro e w9 ⟨rfl,hb⟩;replace BP:=am (zb8 BP.out hb);replace BS:=am (zb8 BS.out hb);replace BT:=am (zb8 BT.out hb);replace HB:=am (below_step HB.out hb);clear hb BPc BSc BTc;have BPc:=zc8 BP.out;have BSc:=zc8 BS.out;have BTc:=zc8 BT.out))
    go_ret
    have hr:taskOk p s i=false:=by
     rw [HU.out,show inB t.body 0 ((p.bodies.length:Int) - 1)=true from H1.out,v4,<-HNA.out,show inB t.pc 0 (na:Int)=true from H2.out,show inB t.way 0 4=true from H3.out,show inB t.stage 0 5=true from H4.out,WS.out,N3.out,N8.out,L9.out];simp only [Bool.true_and,Bool.false_and,Bool.and_false,Bool.or_true,Bool.true_or,Bool.or_false,Bool.false_or,Bool.not_true,Bool.not_false,Bool.and_self,Bool.and_true,Bool.or_self]
    rw [hr]
    exact ⟨rfl,HB.out⟩
   | true=>
    cases bL10 with
    | false=>
     go_wp2_with (first
     |(go_at_call 91;refine (l2Nums_calls _ _ _ 3 _ (by first|exact Kd.C_below R3.out HB.out | exact Kd.C_below R8.out HB.out) (by first|exact HZ3.out | exact HZ8.out)).mono ?_;(first|rw [N3.out] | rw [N8.out]);rintro e w9 ⟨rfl,rfl⟩)
     |(go_at_call 92;refine (l12List_calls _ _ _ _ _ (by first|exact Kd.C_below R9.out HB.out | exact Kd.C_below R10.out HB.out) (by first|exact HZ9.out | exact HZ10.out) (by omega) (by omega)).mono ?_;(first|rw [L9.out] | rw [L10.out]);rintro e w9 ⟨rfl,hb⟩;replace BP:=am (zb8 BP.out hb);replace BS:=am (zb8 BS.out hb);replace BT:=am (zb8 BT.out hb);replace HB:=am (below_step HB.out hb);clear hb BPc BSc BTc;have BPc:=zc8 BP.out;have BSc:=zc8 BS.out;have BTc:=zc8 BT.out))
     go_ret
     have hr:taskOk p s i=false:=by
      rw [HU.out,show inB t.body 0 ((p.bodies.length:Int) - 1)=true from H1.out,v4,<-HNA.out,show inB t.pc 0 (na:Int)=true from H2.out,show inB t.way 0 4=true from H3.out,show inB t.stage 0 5=true from H4.out,WS.out,N3.out,N8.out,L9.out,L10.out];simp only [Bool.true_and,Bool.false_and,Bool.and_false,Bool.or_true,Bool.true_or,Bool.or_false,Bool.false_or,Bool.not_true,Bool.not_false,Bool.and_self,Bool.and_true,Bool.or_self]
     rw [hr]
     exact ⟨rfl,HB.out⟩
    | true=>
     by_cases atx:t.at_=0
     ·have yat:(t.at_ == 0)=true:=by simp [atx]
      have AT:=am (decide_eq_true atx);clear atx;have zz:wrap64 ((t.reads.length:Int)+(t.puts.length:Int))=(t.reads.length:Int)+(t.puts.length:Int):=by have:=HZ9.out;have:=HZ10.out;unfold wrap64;omega
      by_cases sux:t.reads.length+t.puts.length=0
      ·have ysu:((t.reads.length:Int)+(t.puts.length:Int) == 0)=true:=by simp;omega
       have SU:=am (decide_eq_true sux);clear sux
       cases bTM with
       | false=>
        go_wp2_with (first
        |(go_at_call 91;refine (l2Nums_calls _ _ _ 3 _ (by first|exact Kd.C_below R3.out HB.out | exact Kd.C_below R8.out HB.out) (by first|exact HZ3.out | exact HZ8.out)).mono ?_;(first|rw [N3.out] | rw [N8.out]);rintro e w9 ⟨rfl,rfl⟩)
        |(go_at_call 92;refine (l12List_calls _ _ _ _ _ (by first|exact Kd.C_below R9.out HB.out | exact Kd.C_below R10.out HB.out) (by first|exact HZ9.out | exact HZ10.out) (by omega) (by omega)).mono ?_;(first|rw [L9.out] | rw [L10.out]);rintro e w9 ⟨rfl,hb⟩;replace BP:=am (zb8 BP.out hb);replace BS:=am (zb8 BS.out hb);replace BT:=am (zb8 BT.out hb);replace HB:=am (below_step HB.out hb);clear hb BPc BSc BTc;have BPc:=zc8 BP.out;have BSc:=zc8 BS.out;have BTc:=zc8 BT.out)
        |((with_reducible refine gate_dst (N:=105) rfl ?_);refine wpList_load_mid rfl 38 (.tmp 7) rfl gt 0 rfl _ _ (lC BT.out) Try.underlying38 rfl (by kernel_rfl) ?_)
        |((with_reducible refine gate_dst (N:=106) rfl ?_);refine wpList_load_mid rfl 27 (.tmp 4) rfl gs 0 rfl _ _ (lC BS.out) Try.underlying27 rfl (by kernel_rfl) ?_)
        |((with_reducible refine gate_dst (N:=110) rfl ?_);refine wpList_load_mid rfl 27 (.tmp 4) rfl gs 0 rfl _ _ (lC BS.out) Try.underlying27 rfl (by kernel_rfl) ?_)
        |((with_reducible refine gate_dst (N:=115) rfl ?_);refine wpList_load_mid rfl 48 (.tmp 3) rfl gp 0 rfl _ _ (lC BP.out) Try.underlying48 rfl (by kernel_rfl) ?_)
        |((with_reducible refine gate_dst (N:=116) rfl ?_);refine wpList_load_mid rfl 27 (.tmp 4) rfl gs 0 rfl _ _ (lC BS.out) Try.underlying27 rfl (by kernel_rfl) ?_)
        |(go_at_call 93;refine (l12Times_calls t s _ _ _ (kTask.K_below HB.out HKT.out) (kSys.K_below HB.out HSK.out) hc0 hc1 hl).mono ?_;rw [TM.out];rintro e w9 ⟨rfl,hb⟩;replace BP:=am (zb8 BP.out hb);replace BS:=am (zb8 BS.out hb);replace BT:=am (zb8 BT.out hb);replace HB:=am (below_step HB.out hb);clear hb BPc BSc BTc;have BPc:=zc8 BP.out;have BSc:=zc8 BS.out;have BTc:=zc8 BT.out))
        go_ret
        have hr:taskOk p s i=false:=by
         rw [HU.out,show inB t.body 0 ((p.bodies.length:Int) - 1)=true from H1.out,v4,<-HNA.out,show inB t.pc 0 (na:Int)=true from H2.out,show inB t.way 0 4=true from H3.out,show inB t.stage 0 5=true from H4.out,WS.out,N3.out,N8.out,L9.out,L10.out,SX.out,AT.out,SU.out,TM.out];simp only [Bool.true_and,Bool.false_and,Bool.and_false,Bool.or_true,Bool.true_or,Bool.or_false,Bool.false_or,Bool.not_true,Bool.not_false,Bool.and_self,Bool.and_true,Bool.or_self]
        rw [hr]
        exact ⟨rfl,HB.out⟩
       | true=>
        cases bUP with
        | false=>
         go_wp2_with (first
         |(go_at_call 91;refine (l2Nums_calls _ _ _ 3 _ (by first|exact Kd.C_below R3.out HB.out | exact Kd.C_below R8.out HB.out) (by first|exact HZ3.out | exact HZ8.out)).mono ?_;(first|rw [N3.out] | rw [N8.out]);rintro e w9 ⟨rfl,rfl⟩)
         |(go_at_call 92;refine (l12List_calls _ _ _ _ _ (by first|exact Kd.C_below R9.out HB.out | exact Kd.C_below R10.out HB.out) (by first|exact HZ9.out | exact HZ10.out) (by omega) (by omega)).mono ?_;(first|rw [L9.out] | rw [L10.out]);rintro e w9 ⟨rfl,hb⟩;replace BP:=am (zb8 BP.out hb);replace BS:=am (zb8 BS.out hb);replace BT:=am (zb8 BT.out hb);replace HB:=am (below_step HB.out hb);clear hb BPc BSc BTc;have BPc:=zc8 BP.out;have BSc:=zc8 BS.out;have BTc:=zc8 BT.out)
         |((with_reducible refine gate_dst (N:=105) rfl ?_);refine wpList_load_mid rfl 38 (.tmp 7) rfl gt 0 rfl _ _ (lC BT.out) Try.underlying38 rfl (by kernel_rfl) ?_)
         |((with_reducible refine gate_dst (N:=106) rfl ?_);refine wpList_load_mid rfl 27 (.tmp 4) rfl gs 0 rfl _ _ (lC BS.out) Try.underlying27 rfl (by kernel_rfl) ?_)
         |((with_reducible refine gate_dst (N:=110) rfl ?_);refine wpList_load_mid rfl 27 (.tmp 4) rfl gs 0 rfl _ _ (lC BS.out) Try.underlying27 rfl (by kernel_rfl) ?_)
         |((with_reducible refine gate_dst (N:=115) rfl ?_);refine wpList_load_mid rfl 48 (.tmp 3) rfl gp 0 rfl _ _ (lC BP.out) Try.underlying48 rfl (by kernel_rfl) ?_)
         |((with_reducible refine gate_dst (N:=116) rfl ?_);refine wpList_load_mid rfl 27 (.tmp 4) rfl gs 0 rfl _ _ (lC BS.out) Try.underlying27 rfl (by kernel_rfl) ?_)
         |(go_at_call 93;refine (l12Times_calls t s _ _ _ (kTask.K_below HB.out HKT.out) (kSys.K_below HB.out HSK.out) hc0 hc1 hl).mono ?_;rw [TM.out];rintro e w9 ⟨rfl,hb⟩;replace BP:=am (zb8 BP.out hb);replace BS:=am (zb8 BS.out hb);replace BT:=am (zb8 BT.out hb);replace HB:=am (below_step HB.out hb);clear hb BPc BSc BTc;have BPc:=zc8 BP.out;have BSc:=zc8 BS.out;have BTc:=zc8 BT.out)
         |(go_at_call 94;refine (l12Up_calls s _ i _ (kSys.K_below HB.out HSK.out) hi hn).mono ?_;rw [UP.out];rintro e w9 ⟨rfl,hb⟩;replace BP:=am (zb8 BP.out hb);replace BS:=am (zb8 BS.out hb);replace BT:=am (zb8 BT.out hb);replace HB:=am (below_step HB.out hb);clear hb BPc BSc BTc;have BPc:=zc8 BP.out;have BSc:=zc8 BS.out;have BTc:=zc8 BT.out))
         go_ret
         have hr:taskOk p s i=false:=by
          rw [HU.out,show inB t.body 0 ((p.bodies.length:Int) - 1)=true from H1.out,v4,<-HNA.out,show inB t.pc 0 (na:Int)=true from H2.out,show inB t.way 0 4=true from H3.out,show inB t.stage 0 5=true from H4.out,WS.out,N3.out,N8.out,L9.out,L10.out,SX.out,AT.out,SU.out,TM.out,UP.out];simp only [Bool.true_and,Bool.false_and,Bool.and_false,Bool.or_true,Bool.true_or,Bool.or_false,Bool.false_or,Bool.not_true,Bool.not_false,Bool.and_self,Bool.and_true,Bool.or_self]
         rw [hr]
         exact ⟨rfl,HB.out⟩
        | true=>
         go_wp2_with (first
         |(go_at_call 91;refine (l2Nums_calls _ _ _ 3 _ (by first|exact Kd.C_below R3.out HB.out | exact Kd.C_below R8.out HB.out) (by first|exact HZ3.out | exact HZ8.out)).mono ?_;(first|rw [N3.out] | rw [N8.out]);rintro e w9 ⟨rfl,rfl⟩)
         |(go_at_call 92;refine (l12List_calls _ _ _ _ _ (by first|exact Kd.C_below R9.out HB.out | exact Kd.C_below R10.out HB.out) (by first|exact HZ9.out | exact HZ10.out) (by omega) (by omega)).mono ?_;(first|rw [L9.out] | rw [L10.out]);rintro e w9 ⟨rfl,hb⟩;replace BP:=am (zb8 BP.out hb);replace BS:=am (zb8 BS.out hb);replace BT:=am (zb8 BT.out hb);replace HB:=am (below_step HB.out hb);clear hb BPc BSc BTc;have BPc:=zc8 BP.out;have BSc:=zc8 BS.out;have BTc:=zc8 BT.out)
         |((with_reducible refine gate_dst (N:=105) rfl ?_);refine wpList_load_mid rfl 38 (.tmp 7) rfl gt 0 rfl _ _ (lC BT.out) Try.underlying38 rfl (by kernel_rfl) ?_)
         |((with_reducible refine gate_dst (N:=106) rfl ?_);refine wpList_load_mid rfl 27 (.tmp 4) rfl gs 0 rfl _ _ (lC BS.out) Try.underlying27 rfl (by kernel_rfl) ?_)
         |((with_reducible refine gate_dst (N:=110) rfl ?_);refine wpList_load_mid rfl 27 (.tmp 4) rfl gs 0 rfl _ _ (lC BS.out) Try.underlying27 rfl (by kernel_rfl) ?_)
         |((with_reducible refine gate_dst (N:=115) rfl ?_);refine wpList_load_mid rfl 48 (.tmp 3) rfl gp 0 rfl _ _ (lC BP.out) Try.underlying48 rfl (by kernel_rfl) ?_)
         |((with_reducible refine gate_dst (N:=116) rfl ?_);refine wpList_load_mid rfl 27 (.tmp 4) rfl gs 0 rfl _ _ (lC BS.out) Try.underlying27 rfl (by kernel_rfl) ?_)
         |(go_at_call 93;refine (l12Times_calls t s _ _ _ (kTask.K_below HB.out HKT.out) (kSys.K_below HB.out HSK.out) hc0 hc1 hl).mono ?_;rw [TM.out];rintro e w9 ⟨rfl,hb⟩;replace BP:=am (zb8 BP.out hb);replace BS:=am (zb8 BS.out hb);replace BT:=am (zb8 BT.out hb);replace HB:=am (below_step HB.out hb);clear hb BPc BSc BTc;have BPc:=zc8 BP.out;have BSc:=zc8 BS.out;have BTc:=zc8 BT.out)
         |(go_at_call 94;refine (l12Up_calls s _ i _ (kSys.K_below HB.out HSK.out) hi hn).mono ?_;rw [UP.out];rintro e w9 ⟨rfl,hb⟩;replace BP:=am (zb8 BP.out hb);replace BS:=am (zb8 BS.out hb);replace BT:=am (zb8 BT.out hb);replace HB:=am (below_step HB.out hb);clear hb BPc BSc BTc;have BPc:=zc8 BP.out;have BSc:=zc8 BS.out;have BTc:=zc8 BT.out)
         |(go_at_call 95;refine (l12Act_calls p _ s _ i _ (kProg.K_below HB.out HPK.out) (kSys.K_below HB.out HSK.out) HPZ.out hi hn (by rw [<-TX.out];exact hb0) (by rw [<-TX.out];exact hb1) (by rw [<-TX.out];exact hp0) (by rw [<-TX.out];exact HZ9.out) (by rw [<-TX.out];exact HZ10.out)).mono ?_;rw [AC.out];rintro e w9 ⟨rfl,hb⟩;replace BP:=am (zb8 BP.out hb);replace BS:=am (zb8 BS.out hb);replace BT:=am (zb8 BT.out hb);replace HB:=am (below_step HB.out hb);clear hb BPc BSc BTc;have BPc:=zc8 BP.out;have BSc:=zc8 BS.out;have BTc:=zc8 BT.out))
         go_ret
         have hr:taskOk p s i=bAC:=by
          rw [HU.out,show inB t.body 0 ((p.bodies.length:Int) - 1)=true from H1.out,v4,<-HNA.out,show inB t.pc 0 (na:Int)=true from H2.out,show inB t.way 0 4=true from H3.out,show inB t.stage 0 5=true from H4.out,WS.out,N3.out,N8.out,L9.out,L10.out,SX.out,AT.out,SU.out,TM.out,UP.out,AC.out];simp only [Bool.true_and,Bool.false_and,Bool.and_false,Bool.or_true,Bool.true_or,Bool.or_false,Bool.false_or,Bool.not_true,Bool.not_false,Bool.and_self,Bool.and_true,Bool.or_self]
         rw [hr];exact ⟨rfl,HB.out⟩
      ·have ysu:((t.reads.length:Int)+(t.puts.length:Int) == 0)=false:=by simp;omega
       have SU:=am (decide_eq_false sux);clear sux
       go_wp2_with (first
       |(go_at_call 91;refine (l2Nums_calls _ _ _ 3 _ (by first|exact Kd.C_below R3.out HB.out | exact Kd.C_below R8.out HB.out) (by first|exact HZ3.out | exact HZ8.out)).mono ?_;(first|rw [N3.out] | rw [N8.out]);rintro e w9 ⟨rfl,rfl⟩)
       |(go_at_call 92;refine (l12List_calls _ _ _ _ _ (by first|exact Kd.C_below R9.out HB.out | exact Kd.C_below R10.out HB.out) (by first|exact HZ9.out | exact HZ10.out) (by omega) (by omega)).mono ?_;(first|rw [L9.out] | rw [L10.out]);rintro e w9 ⟨rfl,hb⟩;replace BP:=am (zb8 BP.out hb);replace BS:=am (zb8 BS.out hb);replace BT:=am (zb8 BT.out hb);replace HB:=am (below_step HB.out hb);clear hb BPc BSc BTc;have BPc:=zc8 BP.out;have BSc:=zc8 BS.out;have BTc:=zc8 BT.out))
       go_ret
       have hr:taskOk p s i=false:=by
        rw [HU.out,show inB t.body 0 ((p.bodies.length:Int) - 1)=true from H1.out,v4,<-HNA.out,show inB t.pc 0 (na:Int)=true from H2.out,show inB t.way 0 4=true from H3.out,show inB t.stage 0 5=true from H4.out,WS.out,N3.out,N8.out,L9.out,L10.out,SX.out,AT.out,SU.out];simp only [Bool.true_and,Bool.false_and,Bool.and_false,Bool.or_true,Bool.true_or,Bool.or_false,Bool.false_or,Bool.not_true,Bool.not_false,Bool.and_self,Bool.and_true,Bool.or_self]
       rw [hr];exact ⟨rfl,HB.out⟩
     ·have yat:(t.at_ == 0)=false:=by simp [atx]
      have AT:=am (decide_eq_false atx);clear atx
      go_wp2_with (first
      |(go_at_call 91;refine (l2Nums_calls _ _ _ 3 _ (by first|exact Kd.C_below R3.out HB.out | exact Kd.C_below R8.out HB.out) (by first|exact HZ3.out | exact HZ8.out)).mono ?_;(first|rw [N3.out] | rw [N8.out]);rintro e w9 ⟨rfl,rfl⟩)
      |(go_at_call 92;refine (l12List_calls _ _ _ _ _ (by first|exact Kd.C_below R9.out HB.out | exact Kd.C_below R10.out HB.out) (by first|exact HZ9.out | exact HZ10.out) (by omega) (by omega)).mono ?_;(first|rw [L9.out] | rw [L10.out]);rintro e w9 ⟨rfl,hb⟩;replace BP:=am (zb8 BP.out hb);replace BS:=am (zb8 BS.out hb);replace BT:=am (zb8 BT.out hb);replace HB:=am (below_step HB.out hb);clear hb BPc BSc BTc;have BPc:=zc8 BP.out;have BSc:=zc8 BS.out;have BTc:=zc8 BT.out))
      go_ret
      have hr:taskOk p s i=false:=by
       rw [HU.out,show inB t.body 0 ((p.bodies.length:Int) - 1)=true from H1.out,v4,<-HNA.out,show inB t.pc 0 (na:Int)=true from H2.out,show inB t.way 0 4=true from H3.out,show inB t.stage 0 5=true from H4.out,WS.out,N3.out,N8.out,L9.out,L10.out,SX.out,AT.out];simp only [Bool.true_and,Bool.false_and,Bool.and_false,Bool.or_true,Bool.true_or,Bool.or_false,Bool.false_or,Bool.not_true,Bool.not_false,Bool.and_self,Bool.and_true,Bool.or_self]
      rw [hr];exact ⟨rfl,HB.out⟩
theorem l12Task_yn (p:Prog) (ps:List Value) (s:Sys) (ss:List Value) (i:Nat) (w:World) (hp:kProg.K w p ps) (hs:kSys.K w s ss) (hz:ProgSz p) (hi:i < s.tasks.length) (hn:s.tasks.length<=1048576) (hm:s.cells.length<=1048576) (hl:s.log.length<=1048576) (hc0:0<=s.clock) (hc1:s.clock<=200) (hsz:(taskAt s.tasks i).regs.length<=1048576/\(taskAt s.tasks i).old.length<=1048576/\(taskAt s.tasks i).reads.length<=1048576/\(taskAt s.tasks i).puts.length<=1048576) (hx:(inB (taskAt s.tasks i).body 0 ((p.bodies.length:Int) - 1) && inB (taskAt s.tasks i).pc 0 ((actsAt p.bodies (taskAt s.tasks i).body.toNat).length) && inB (taskAt s.tasks i).way 0 4 && inB (taskAt s.tasks i).stage 0 5)=true) (wayx:(taskAt s.tasks i).way=0) (stx:¬ (taskAt s.tasks i).stage=0):
  Calls Try.prog 57 #[.agg ps.toArray,.agg ss.toArray,.int .i64 i] w fun e w'=>e= .returned (.bool (taskOk p s i))/\Below w.heap.size w w':=by
 have HPK:=am hp;have HSK:=am hs;have HPZ:=am hz;obtain ⟨Ac,cc,Ab,cb,rfl,-,-,-,gb⟩:=kProg_open hp;obtain ⟨A0,c0,A1,c1,A3,c3,rfl,-,-,-,g1,-⟩:=kSys_open hs;have GB:=am gb;obtain ⟨b,o,cs,rfl,hcl,hK,hcc,-⟩:=C_field g1 zTask i hi (by decide);obtain ⟨t,ht⟩:∃ x,x=taskAt s.tasks i:=⟨_,rfl⟩;rw [<-ht] at hsz hx wayx stx;rw [show s.tasks.getD i zTask=t from ht.symm] at hK;have HKT0:=am hK;obtain ⟨B3,d3,B8,d8,B9,d9,B10,d10,rfl,-,g3,-,g8,-,g9,-,g10⟩:=kTask_open hK;have HKT:=HKT0;have HC:=am hcc;have R3:=am g3;have R8:=am g8;have R9:=am g9;have R10:=am g10;have HZ3:=am hsz.1;have HZ8:=am hsz.2.1;have HZ9:=am hsz.2.2.1;have HZ10:=am hsz.2.2.2;have TX:=am ht;have HU:Aside0 (taskOk p s i=(inB t.body 0 (p.bodies.length - 1) && inB t.pc 0 (actsAt p.bodies t.body.toNat).length && inB t.way 0 4 && inB t.stage 0 5 && (decide (t.way=0) || decide (t.stage=0)) && numsOk t.regs 3 && numsOk t.old 3 && listOk t.reads s.cells.length && listOk t.puts s.cells.length && (!decide (t.stage=0) || (decide (t.at_=0) && decide (t.reads.length+t.puts.length=0))) && timesOk t s && upsOk s i && wayOk p s i)):=⟨by rw [ht];rfl⟩;have q0:(0:Int)<=(i:Int):=by omega
 have q1:(i:Int) < (s.tasks.length:Int):=by omega
 have w5:wrap64 ((p.bodies.length:Int) - 1)=(p.bodies.length:Int) - 1:=by have:=hz.bodies;unfold wrap64;omega
 clear hp hs gb g1 g3 g8 g9 g10 hcl hK hcc ht HKT0 hz hsz;simp only [Bool.and_eq_true] at hx;have H1:Aside0 ((decide ((0:Int)<=t.body) && decide (t.body<=((p.bodies.length:Int) - 1)))=true):=⟨hx.1.1.1⟩;have H3:Aside0 ((decide ((0:Int)<=t.way) && decide (t.way<=4))=true):=⟨hx.1.2⟩;have H4:Aside0 ((decide ((0:Int)<=t.stage) && decide (t.stage<=5))=true):=⟨hx.2⟩;obtain ⟨bN3,hbN3⟩:∃ x,numsOk t.regs 3=x:=⟨_,rfl⟩;have N3:=am hbN3;clear hbN3;obtain ⟨bN8,hbN8⟩:∃ x,numsOk t.old 3=x:=⟨_,rfl⟩;have N8:=am hbN8;clear hbN8;obtain ⟨bL9,hbL9⟩:∃ x,listOk t.reads s.cells.length=x:=⟨_,rfl⟩;have L9:=am hbL9;clear hbL9;obtain ⟨bL10,hbL10⟩:∃ x,listOk t.puts s.cells.length=x:=⟨_,rfl⟩;have L10:=am hbL10;clear hbL10;obtain ⟨bTM,hbTM⟩:∃ x,timesOk t s=x:=⟨_,rfl⟩;have TM:=am hbTM;clear hbTM;obtain ⟨bUP,hbUP⟩:∃ x,upsOk s i=x:=⟨_,rfl⟩;have UP:=am hbUP;clear hbUP;obtain ⟨bAC,hbAC⟩:∃ x,wayOk p s i=x:=⟨_,rfl⟩;have AC:=am hbAC;clear hbAC;have hbb:=inB_iff.1 (show inB t.body 0 ((p.bodies.length:Int) - 1)=true from H1.out);have hb0:0<=t.body:=hbb.1;have hb1:t.body < p.bodies.length:=by omega
 clear hbb;obtain ⟨kb,hkb0⟩:=Int.eq_ofNat_of_zero_le hb0;have hkb:kb < p.bodies.length:=by omega
 have v4:t.body.toNat=kb:=by omega
 obtain ⟨bb,ob,cs2,rfl,hcl2,hK2,hcc2,-⟩:=C_field GB.out ([]:List Act) kb hkb (by decide);obtain ⟨Aa,ca,rfl,la,-⟩:=hK2;have p2:=hcc2 0 _ rfl;simp only [show (Kd.slice 108 kAct).sz=1 from rfl,Nat.mul_one,Nat.add_zero] at p2;rw [show (p.bodies.getD kb []).length=(actsAt p.bodies kb).length from rfl] at p2;have P2:=am p2;obtain ⟨na,hna⟩:∃ x,x=(actsAt p.bodies kb).length:=⟨_,rfl⟩;have hnl:na<=1048576:=by rw [hna,actsAt_eq hkb];exact (HPZ.out.acts _ (List.getElem_mem hkb)).1
 rw [<-hna] at P2;have HNA:=am hna;clear hcl2 hcc2 p2 la hna hkb0;have h2:inB t.pc 0 (na:Int)=true:=by rw [HNA.out,<-v4];exact hx.1.1.2
 have hp0:0<=t.pc:=(inB_iff.1 h2).1;have H2:Aside0 ((decide ((0:Int)<=t.pc) && decide (t.pc<=(na:Int)))=true):=⟨h2⟩;clear h2 hx;have yway:(t.way != 0)=false:=by simp [wayx]
 have WY:=am (decide_eq_true wayx);clear wayx;have SX0:=am stx;clear stx;go_enter Try.func57,Try.ntmps57
 go_wp2_with (first
 |((with_reducible refine gate_dst (N:=3) rfl ?_);refine box_event rfl (N:=3) rfl (t:=48) (by go_simp<;>rfl) ?_;intro gp hg w3 hbox hb;have BP:=am hbox;clear hbox hg;have HB2:=am hb;clear hb;have HB:=HB2;clear HB2;have BPc:=zc8 BP.out)
 |((with_reducible refine gate_dst (N:=4) rfl ?_);refine box_event rfl (N:=4) rfl (t:=27) (by go_simp<;>rfl) ?_;intro gs hg w4 hbox hb;have BS:=am hbox;clear hbox hg;replace BP:=am (zb8 BP.out hb);replace HB:=am (below_step HB.out hb);clear hb BPc;have BPc:=zc8 BP.out;have BSc:=zc8 BS.out)
 |((with_reducible refine gate_dst (N:=13) rfl ?_);refine wpList_load_mid rfl 38 (.tmp 12) rfl b (o+i*13) rfl _ _ (fun j u hu=>cellB HB.out (HC.out j u hu)) Try.underlying38 rfl (by kernel_rfl) ?_)|((with_reducible refine gate_dst (N:=7) rfl ?_);refine box_event rfl (N:=7) rfl (t:=38) (by go_simp<;>rfl) ?_;intro gt hg wt hbox hb;have BT0:=am hbox;have GBT:=am hg;have HBT:=am hb;clear hbox hb hg)|((with_reducible refine gate_store (t:=38) (p:=7) rfl ?_);refine store_block rfl rfl 38 (.tmp 7) (.tmp 13) rfl rfl rfl BT0.out rfl (by kernel_rfl) (aB rfl) ?_;intro wn hbox hg;have BT:=am hbox;have hbx:=pw_below_grown HBT.out _ HBT.out.size hg (fun z hz=>by cases hz;exact Nat.le_of_eq GBT.out.symm);clear BT0 HBT hbox hg;replace BP:=am (zb8 BP.out hbx);replace BS:=am (zb8 BS.out hbx);replace HB:=am (below_step HB.out hbx);clear hbx BPc BSc;have BPc:=zc8 BP.out;have BSc:=zc8 BS.out;have BTc:=zc8 BT.out))
 refine st9 (n:=33) (S:=fun W=>W.heap[gp]? = some (.cells #[.slice Ac p.cells.length cc,.slice (some ⟨bb,ob,none⟩) p.bodies.length cb] 48 (0,0))/\W.heap[gs]? = some (.cells #[.slice A0 s.cells.length c0,.slice (some ⟨b,o,none⟩) s.tasks.length c1,.int .i64 s.clock,.slice A3 s.log.length c3] 27 (0,0))/\W.heap[gt]? = some (.cells #[.int .i64 t.body,.int .i64 t.pc,.int .i64 t.up,.slice B3 t.regs.length d3,.int .i64 t.way,.int .i64 t.stage,.int .i64 t.at_,.int .i64 t.since,.slice B8 t.old.length d8,.slice B9 t.reads.length d9,.slice B10 t.puts.length d10,.int .i64 t.when_,.int .i64 t.from_] 38 (0,0))/\W.cell? ⟨bb,ob+kb,none⟩=some (.slice Aa na ca)) (ds:= []) (by kernel_rfl) rfl ⟨blk_drew BP.out,blk_drew BS.out,blk_drew BT.out,(show wn.cell? ⟨bb,ob+kb,none⟩=_ from cellB HB.out P2.out)⟩ (fun hHeld=> ?_);have hb:=below_drew (Below.refl wn.heap.size wn);generalize wn.drew=w7 at hb hHeld ⊢;have HB7:=am (below_step HB.out hb);clear hb HB BP BS BT BPc BSc BTc;refine ba9 (fuel:=27) (n:=6) [0,1,2,3,4,5] (by kernel_rfl) (fun N _ _ _ _ h=>by cases N <;> exact h) hHeld ?_
 iterate 6 (
  refine stillS_step (v:= ?_) (a':= ?_) rfl (Or.inl ⟨by rfl, ?_⟩) ?_ ?_;rotate_left
  ·rintro W ⟨s0,s1,s2,s3⟩
   have t0:=zc8 s0;have t1:=zc8 s1;have t2:=zc8 s2;clear s0 s1 s2;go_simp;with_reducible rfl
  rotate_left
  ·simp only [Act.put,sA,sZ,sS,i64_w]
   rfl)
 refine stillS_nil ?_;refine on9 (i:=6) (N:=some 20) rfl rfl (by kernel_rfl) (by decide) (fun K hK=> ?_);refine goes_ Try.func50 (by kernel_rfl) rfl #[.int .i64 t.body,.int .i64 0,.int .i64 (wrap64 ((p.bodies.length:Int) - 1))] (by rfl) rfl rfl (by (try simp only [List.map_toArray,List.map_cons,List.map_nil]);first | done | rfl) ?_;refine (l6In_calls t.body 0 (wrap64 ((p.bodies.length:Int) - 1)) _).mono ?_;rw [w5,H1.out];rintro e9 wn ⟨rfl,rfl⟩;refine ⟨_,rfl, ?_⟩;refine hK.out _ _ hHeld (fun hHeld=> ?_);clear hK K;refine norm_ (a':= ?_) ?_ ?_;rotate_left
 ·show Act.put _ (some 20) _=_
  simp only [Act.put,sA,sZ,sS,i64_w];rfl
 refine ba9 (fuel:=15) (n:=11) [7,8,9,10,11,12,13,14,15,16,17] (by kernel_rfl) (fun N _ _ _ _ h=>by cases N <;> exact h) hHeld ?_
 iterate 11 (
  refine stillS_step (v:= ?_) (a':= ?_) rfl (Or.inl ⟨by rfl, ?_⟩) ?_ ?_;rotate_left
  ·rintro W ⟨s0,s1,s2,s3⟩
   have t0:=zc8 s0;have t1:=zc8 s1;have t2:=zc8 s2;clear s0 s1 s2;go_simp;with_reducible rfl
  rotate_left
  ·simp only [Act.put,sA,sZ,sS,i64_w]
   rfl)
 refine stillS_nil ?_;refine on9 (i:=18) (N:=some 32) rfl rfl (by kernel_rfl) (by decide) (fun K hK=> ?_);refine goes_ Try.func50 (by kernel_rfl) rfl #[.int .i64 t.pc,.int .i64 0,.int .i64 (na:Int)] (by rfl) rfl rfl (by (try simp only [List.map_toArray,List.map_cons,List.map_nil]);first | done | rfl) ?_;refine (l6In_calls t.pc 0 (na:Int) _).mono ?_;rw [H2.out];rintro e9 wn ⟨rfl,rfl⟩;refine ⟨_,rfl, ?_⟩;refine hK.out _ _ hHeld (fun hHeld=> ?_);clear hK K;refine norm_ (a':= ?_) ?_ ?_;rotate_left
 ·show Act.put _ (some 32) _=_
  simp only [Act.put,sA,sZ,sS,i64_w];rfl
 refine ba9 (fuel:=9) (n:=5) [19,20,21,22,23] (by kernel_rfl) (fun N _ _ _ _ h=>by cases N <;> exact h) hHeld ?_
 iterate 5 (
  refine stillS_step (v:= ?_) (a':= ?_) rfl (Or.inl ⟨by rfl, ?_⟩) ?_ ?_;rotate_left
  ·rintro W ⟨s0,s1,s2,s3⟩
   have t0:=zc8 s0;have t1:=zc8 s1;have t2:=zc8 s2;clear s0 s1 s2;go_simp;with_reducible rfl
  rotate_left
  ·simp only [Act.put,sA,sZ,sS,i64_w]
   rfl)
 refine stillS_nil ?_;refine on9 (i:=24) (N:=some 38) rfl rfl (by kernel_rfl) (by decide) (fun K hK=> ?_);refine goes_ Try.func50 (by kernel_rfl) rfl #[.int .i64 t.way,.int .i64 0,.int .i64 4] (by rfl) rfl rfl (by (try simp only [List.map_toArray,List.map_cons,List.map_nil]);first | done | rfl) ?_;refine (l6In_calls t.way 0 4 _).mono ?_;rw [H3.out];rintro e9 wn ⟨rfl,rfl⟩;refine ⟨_,rfl, ?_⟩;refine hK.out _ _ hHeld (fun hHeld=> ?_);clear hK K;refine norm_ (a':= ?_) ?_ ?_;rotate_left
 ·show Act.put _ (some 38) _=_
  simp only [Act.put,sA,sZ,sS,i64_w];rfl
 refine ba9 (fuel:=3) (n:=5) [25,26,27,28,29] (by kernel_rfl) (fun N _ _ _ _ h=>by cases N <;> exact h) hHeld ?_
 iterate 5 (
  refine stillS_step (v:= ?_) (a':= ?_) rfl (Or.inl ⟨by rfl, ?_⟩) ?_ ?_;rotate_left
  ·rintro W ⟨s0,s1,s2,s3⟩
   have t0:=zc8 s0;have t1:=zc8 s1;have t2:=zc8 s2;clear s0 s1 s2;go_simp;with_reducible rfl
  rotate_left
  ·simp only [Act.put,sA,sZ,sS,i64_w]
   rfl)
 refine stillS_nil ?_;refine on9 (i:=30) (N:=some 44) rfl rfl (by kernel_rfl) (by decide) (fun K hK=> ?_);refine goes_ Try.func50 (by kernel_rfl) rfl #[.int .i64 t.stage,.int .i64 0,.int .i64 5] (by rfl) rfl rfl (by (try simp only [List.map_toArray,List.map_cons,List.map_nil]);first | done | rfl) ?_;refine (l6In_calls t.stage 0 5 _).mono ?_;rw [H4.out];rintro e9 wn ⟨rfl,rfl⟩;refine ⟨_,rfl, ?_⟩;refine hK.out _ _ hHeld (fun hHeld=> ?_);clear hK K;refine norm_ (a':= ?_) ?_ ?_;rotate_left
 ·show Act.put _ (some 44) _=_
  simp only [Act.put,sA,sZ,sS,i64_w];rfl
 refine ba9 (fuel:=0) (n:=2) [31,32] (by kernel_rfl) (fun N _ _ _ _ h=>by cases N <;> exact h) hHeld ?_
 iterate 2 (
  refine stillS_step (v:= ?_) (a':= ?_) rfl (Or.inl ⟨by rfl, ?_⟩) ?_ ?_;rotate_left
  ·rintro W ⟨s0,s1,s2,s3⟩
   have t0:=zc8 s0;have t1:=zc8 s1;have t2:=zc8 s2;clear s0 s1 s2;go_simp;with_reducible rfl
  rotate_left
  ·simp only [Act.put,sA,sZ,sS,i64_w]
   rfl)
 refine stillS_nil ?_;refine done_ (by kernel_rfl) ?_;have BP:=am hHeld.1;have BS:=am hHeld.2.1;have BT:=am hHeld.2.2.1;have HB:=HB7;clear hHeld HB7;have BPc:=zc8 BP.out;have BSc:=zc8 BS.out;have BTc:=zc8 BT.out;have stx:=SX0.out;clear SX0;have yst:(t.stage != 0)=true:=by simp [stx]
 have WS:Aside0 ((decide (t.way=0) || decide (t.stage=0))=true):=⟨by rw [WY.out];rfl⟩;have SX:=am (decide_eq_false stx);clear stx
 cases bN3 with
 | false=>
  go_wp2_with (first
  |(go_at_call 91;refine (l2Nums_calls _ _ _ 3 _ (by first|exact Kd.C_below R3.out HB.out | exact Kd.C_below R8.out HB.out) (by first|exact HZ3.out | exact HZ8.out)).mono ?_;(first|rw [N3.out]);rintro e w9 ⟨rfl,rfl⟩))
  go_ret
  have hr:taskOk p s i=false:=by
   rw [HU.out,show inB t.body 0 ((p.bodies.length:Int) - 1)=true from H1.out,v4,<-HNA.out,show inB t.pc 0 (na:Int)=true from H2.out,show inB t.way 0 4=true from H3.out,show inB t.stage 0 5=true from H4.out,WS.out,N3.out];simp only [Bool.true_and,Bool.false_and,Bool.and_false,Bool.or_true,Bool.true_or,Bool.or_false,Bool.false_or,Bool.not_true,Bool.not_false,Bool.and_self,Bool.and_true,Bool.or_self]
  rw [hr]
  exact ⟨rfl,HB.out⟩
 | true=>
  cases bN8 with
  | false=>
   go_wp2_with (first
   |(go_at_call 91;refine (l2Nums_calls _ _ _ 3 _ (by first|exact Kd.C_below R3.out HB.out | exact Kd.C_below R8.out HB.out) (by first|exact HZ3.out | exact HZ8.out)).mono ?_;(first|rw [N3.out] | rw [N8.out]);rintro e w9 ⟨rfl,rfl⟩))
   go_ret
   have hr:taskOk p s i=false:=by
    rw [HU.out,show inB t.body 0 ((p.bodies.length:Int) - 1)=true from H1.out,v4,<-HNA.out,show inB t.pc 0 (na:Int)=true from H2.out,show inB t.way 0 4=true from H3.out,show inB t.stage 0 5=true from H4.out,WS.out,N3.out,N8.out];simp only [Bool.true_and,Bool.false_and,Bool.and_false,Bool.or_true,Bool.true_or,Bool.or_false,Bool.false_or,Bool.not_true,Bool.not_false,Bool.and_self,Bool.and_true,Bool.or_self]
   rw [hr]
   exact ⟨rfl,HB.out⟩
  | true=>
   cases bL9 with
   | false=>
    go_wp2_with (first
    |(go_at_call 91;refine (l2Nums_calls _ _ _ 3 _ (by first|exact Kd.C_below R3.out HB.out | exact Kd.C_below R8.out HB.out) (by first|exact HZ3.out | exact HZ8.out)).mono ?_;(first|rw [N3.out] | rw [N8.out]);rintro e w9 ⟨rfl,rfl⟩)
    |(go_at_call 92;refine (l12List_calls _ _ _ _ _ (by first|exact Kd.C_below R9.out HB.out | exact Kd.C_below R10.out HB.out) (by first|exact HZ9.out | exact HZ10.out) (by omega) (by omega)).mono ?_;(first|rw [L9.out]);rintro e w9 ⟨rfl,hb⟩;replace BP:=am (zb8 BP.out hb);replace BS:=am (zb8 BS.out hb);replace BT:=am (zb8 BT.out hb);replace HB:=am (below_step HB.out hb);clear hb BPc BSc BTc;have BPc:=zc8 BP.out;have BSc:=zc8 BS.out;have BTc:=zc8 BT.out))
    go_ret
    have hr:taskOk p s i=false:=by
     rw [HU.out,show inB t.body 0 ((p.bodies.length:Int) - 1)=true from H1.out,v4,<-HNA.out,show inB t.pc 0 (na:Int)=true from H2.out,show inB t.way 0 4=true from H3.out,show inB t.stage 0 5=true from H4.out,WS.out,N3.out,N8.out,L9.out];simp only [Bool.true_and,Bool.false_and,Bool.and_false,Bool.or_true,Bool.true_or,Bool.or_false,Bool.false_or,Bool.not_true,Bool.not_false,Bool.and_self,Bool.and_true,Bool.or_self]
    rw [hr]
    exact ⟨rfl,HB.out⟩
   | true=>
    cases bL10 with
    | false=>
     go_wp2_with (first
     |(go_at_call 91;refine (l2Nums_calls _ _ _ 3 _ (by first|exact Kd.C_below R3.out HB.out | exact Kd.C_below R8.out HB.out) (by first|exact HZ3.out | exact HZ8.out)).mono ?_;(first|rw [N3.out] | rw [N8.out]);rintro e w9 ⟨rfl,rfl⟩)
     |(go_at_call 92;refine (l12List_calls _ _ _ _ _ (by first|exact Kd.C_below R9.out HB.out | exact Kd.C_below R10.out HB.out) (by first|exact HZ9.out | exact HZ10.out) (by omega) (by omega)).mono ?_;(first|rw [L9.out] | rw [L10.out]);rintro e w9 ⟨rfl,hb⟩;replace BP:=am (zb8 BP.out hb);replace BS:=am (zb8 BS.out hb);replace BT:=am (zb8 BT.out hb);replace HB:=am (below_step HB.out hb);clear hb BPc BSc BTc;have BPc:=zc8 BP.out;have BSc:=zc8 BS.out;have BTc:=zc8 BT.out))
     go_ret
     have hr:taskOk p s i=false:=by
      rw [HU.out,show inB t.body 0 ((p.bodies.length:Int) - 1)=true from H1.out,v4,<-HNA.out,show inB t.pc 0 (na:Int)=true from H2.out,show inB t.way 0 4=true from H3.out,show inB t.stage 0 5=true from H4.out,WS.out,N3.out,N8.out,L9.out,L10.out];simp only [Bool.true_and,Bool.false_and,Bool.and_false,Bool.or_true,Bool.true_or,Bool.or_false,Bool.false_or,Bool.not_true,Bool.not_false,Bool.and_self,Bool.and_true,Bool.or_self]
     rw [hr]
     exact ⟨rfl,HB.out⟩
    | true=>
     cases bTM with
     | false=>
      go_wp2_with (first
      |(go_at_call 91;refine (l2Nums_calls _ _ _ 3 _ (by first|exact Kd.C_below R3.out HB.out | exact Kd.C_below R8.out HB.out) (by first|exact HZ3.out | exact HZ8.out)).mono ?_;(first|rw [N3.out] | rw [N8.out]);rintro e w9 ⟨rfl,rfl⟩)
      |(go_at_call 92;refine (l12List_calls _ _ _ _ _ (by first|exact Kd.C_below R9.out HB.out | exact Kd.C_below R10.out HB.out) (by first|exact HZ9.out | exact HZ10.out) (by omega) (by omega)).mono ?_;(first|rw [L9.out] | rw [L10.out]);rintro e w9 ⟨rfl,hb⟩;replace BP:=am (zb8 BP.out hb);replace BS:=am (zb8 BS.out hb);replace BT:=am (zb8 BT.out hb);replace HB:=am (below_step HB.out hb);clear hb BPc BSc BTc;have BPc:=zc8 BP.out;have BSc:=zc8 BS.out;have BTc:=zc8 BT.out)
      |((with_reducible refine gate_dst (N:=105) rfl ?_);refine wpList_load_mid rfl 38 (.tmp 7) rfl gt 0 rfl _ _ (lC BT.out) Try.underlying38 rfl (by kernel_rfl) ?_)
      |((with_reducible refine gate_dst (N:=106) rfl ?_);refine wpList_load_mid rfl 27 (.tmp 4) rfl gs 0 rfl _ _ (lC BS.out) Try.underlying27 rfl (by kernel_rfl) ?_)
      |((with_reducible refine gate_dst (N:=110) rfl ?_);refine wpList_load_mid rfl 27 (.tmp 4) rfl gs 0 rfl _ _ (lC BS.out) Try.underlying27 rfl (by kernel_rfl) ?_)
      |((with_reducible refine gate_dst (N:=115) rfl ?_);refine wpList_load_mid rfl 48 (.tmp 3) rfl gp 0 rfl _ _ (lC BP.out) Try.underlying48 rfl (by kernel_rfl) ?_)
      |((with_reducible refine gate_dst (N:=116) rfl ?_);refine wpList_load_mid rfl 27 (.tmp 4) rfl gs 0 rfl _ _ (lC BS.out) Try.underlying27 rfl (by kernel_rfl) ?_)
      |(go_at_call 93;refine (l12Times_calls t s _ _ _ (kTask.K_below HB.out HKT.out) (kSys.K_below HB.out HSK.out) hc0 hc1 hl).mono ?_;rw [TM.out];rintro e w9 ⟨rfl,hb⟩;replace BP:=am (zb8 BP.out hb);replace BS:=am (zb8 BS.out hb);replace BT:=am (zb8 BT.out hb);replace HB:=am (below_step HB.out hb);clear hb BPc BSc BTc;have BPc:=zc8 BP.out;have BSc:=zc8 BS.out;have BTc:=zc8 BT.out))
      go_ret
      have hr:taskOk p s i=false:=by
       rw [HU.out,show inB t.body 0 ((p.bodies.length:Int) - 1)=true from H1.out,v4,<-HNA.out,show inB t.pc 0 (na:Int)=true from H2.out,show inB t.way 0 4=true from H3.out,show inB t.stage 0 5=true from H4.out,WS.out,N3.out,N8.out,L9.out,L10.out,SX.out,TM.out];simp only [Bool.true_and,Bool.false_and,Bool.and_false,Bool.or_true,Bool.true_or,Bool.or_false,Bool.false_or,Bool.not_true,Bool.not_false,Bool.and_self,Bool.and_true,Bool.or_self]
      rw [hr]
      exact ⟨rfl,HB.out⟩
     | true=>
      cases bUP with
      | false=>
       go_wp2_with (first
       |(go_at_call 91;refine (l2Nums_calls _ _ _ 3 _ (by first|exact Kd.C_below R3.out HB.out | exact Kd.C_below R8.out HB.out) (by first|exact HZ3.out | exact HZ8.out)).mono ?_;(first|rw [N3.out] | rw [N8.out]);rintro e w9 ⟨rfl,rfl⟩)
       |(go_at_call 92;refine (l12List_calls _ _ _ _ _ (by first|exact Kd.C_below R9.out HB.out | exact Kd.C_below R10.out HB.out) (by first|exact HZ9.out | exact HZ10.out) (by omega) (by omega)).mono ?_;(first|rw [L9.out] | rw [L10.out]);rintro e w9 ⟨rfl,hb⟩;replace BP:=am (zb8 BP.out hb);replace BS:=am (zb8 BS.out hb);replace BT:=am (zb8 BT.out hb);replace HB:=am (below_step HB.out hb);clear hb BPc BSc BTc;have BPc:=zc8 BP.out;have BSc:=zc8 BS.out;have BTc:=zc8 BT.out)
       |((with_reducible refine gate_dst (N:=105) rfl ?_);refine wpList_load_mid rfl 38 (.tmp 7) rfl gt 0 rfl _ _ (lC BT.out) Try.underlying38 rfl (by kernel_rfl) ?_)
       |((with_reducible refine gate_dst (N:=106) rfl ?_);refine wpList_load_mid rfl 27 (.tmp 4) rfl gs 0 rfl _ _ (lC BS.out) Try.underlying27 rfl (by kernel_rfl) ?_)
       |((with_reducible refine gate_dst (N:=110) rfl ?_);refine wpList_load_mid rfl 27 (.tmp 4) rfl gs 0 rfl _ _ (lC BS.out) Try.underlying27 rfl (by kernel_rfl) ?_)
       |((with_reducible refine gate_dst (N:=115) rfl ?_);refine wpList_load_mid rfl 48 (.tmp 3) rfl gp 0 rfl _ _ (lC BP.out) Try.underlying48 rfl (by kernel_rfl) ?_)
       |((with_reducible refine gate_dst (N:=116) rfl ?_);refine wpList_load_mid rfl 27 (.tmp 4) rfl gs 0 rfl _ _ (lC BS.out) Try.underlying27 rfl (by kernel_rfl) ?_)
       |(go_at_call 93;refine (l12Times_calls t s _ _ _ (kTask.K_below HB.out HKT.out) (kSys.K_below HB.out HSK.out) hc0 hc1 hl).mono ?_;rw [TM.out];rintro e w9 ⟨rfl,hb⟩;replace BP:=am (zb8 BP.out hb);replace BS:=am (zb8 BS.out hb);replace BT:=am (zb8 BT.out hb);replace HB:=am (below_step HB.out hb);clear hb BPc BSc BTc;have BPc:=zc8 BP.out;have BSc:=zc8 BS.out;have BTc:=zc8 BT.out)
       |(go_at_call 94;refine (l12Up_calls s _ i _ (kSys.K_below HB.out HSK.out) hi hn).mono ?_;rw [UP.out];rintro e w9 ⟨rfl,hb⟩;replace BP:=am (zb8 BP.out hb);replace BS:=am (zb8 BS.out hb);replace BT:=am (zb8 BT.out hb);replace HB:=am (below_step HB.out hb);clear hb BPc BSc BTc;have BPc:=zc8 BP.out;have BSc:=zc8 BS.out;have BTc:=zc8 BT.out))
       go_ret
       have hr:taskOk p s i=false:=by
        rw [HU.out,show inB t.body 0 ((p.bodies.length:Int) - 1)=true from H1.out,v4,<-HNA.out,show inB t.pc 0 (na:Int)=true from H2.out,show inB t.way 0 4=true from H3.out,show inB t.stage 0 5=true from H4.out,WS.out,N3.out,N8.out,L9.out,L10.out,SX.out,TM.out,UP.out];simp only [Bool.true_and,Bool.false_and,Bool.and_false,Bool.or_true,Bool.true_or,Bool.or_false,Bool.false_or,Bool.not_true,Bool.not_false,Bool.and_self,Bool.and_true,Bool.or_self]
       rw [hr]
       exact ⟨rfl,HB.out⟩
      | true=>
       go_wp2_with (first
       |(go_at_call 91;refine (l2Nums_calls _ _ _ 3 _ (by first|exact Kd.C_below R3.out HB.out | exact Kd.C_below R8.out HB.out) (by first|exact HZ3.out | exact HZ8.out)).mono ?_;(first|rw [N3.out] | rw [N8.out]);rintro e w9 ⟨rfl,rfl⟩)
       |(go_at_call 92;refine (l12List_calls _ _ _ _ _ (by first|exact Kd.C_below R9.out HB.out | exact Kd.C_below R10.out HB.out) (by first|exact HZ9.out | exact HZ10.out) (by omega) (by omega)).mono ?_;(first|rw [L9.out] | rw [L10.out]);rintro e w9 ⟨rfl,hb⟩;replace BP:=am (zb8 BP.out hb);replace BS:=am (zb8 BS.out hb);replace BT:=am (zb8 BT.out hb);replace HB:=am (below_step HB.out hb);clear hb BPc BSc BTc;have BPc:=zc8 BP.out;have BSc:=zc8 BS.out;have BTc:=zc8 BT.out)
       |((with_reducible refine gate_dst (N:=105) rfl ?_);refine wpList_load_mid rfl 38 (.tmp 7) rfl gt 0 rfl _ _ (lC BT.out) Try.underlying38 rfl (by kernel_rfl) ?_)
       |((with_reducible refine gate_dst (N:=106) rfl ?_);refine wpList_load_mid rfl 27 (.tmp 4) rfl gs 0 rfl _ _ (lC BS.out) Try.underlying27 rfl (by kernel_rfl) ?_)
       |((with_reducible refine gate_dst (N:=110) rfl ?_);refine wpList_load_mid rfl 27 (.tmp 4) rfl gs 0 rfl _ _ (lC BS.out) Try.underlying27 rfl (by kernel_rfl) ?_)
       |((with_reducible refine gate_dst (N:=115) rfl ?_);refine wpList_load_mid rfl 48 (.tmp 3) rfl gp 0 rfl _ _ (lC BP.out) Try.underlying48 rfl (by kernel_rfl) ?_)
       |((with_reducible refine gate_dst (N:=116) rfl ?_);refine wpList_load_mid rfl 27 (.tmp 4) rfl gs 0 rfl _ _ (lC BS.out) Try.underlying27 rfl (by kernel_rfl) ?_)
       |(go_at_call 93;refine (l12Times_calls t s _ _ _ (kTask.K_below HB.out HKT.out) (kSys.K_below HB.out HSK.out) hc0 hc1 hl).mono ?_;rw [TM.out];rintro e w9 ⟨rfl,hb⟩;replace BP:=am (zb8 BP.out hb);replace BS:=am (zb8 BS.out hb);replace BT:=am (zb8 BT.out hb);replace HB:=am (below_step HB.out hb);clear hb BPc BSc BTc;have BPc:=zc8 BP.out;have BSc:=zc8 BS.out;have BTc:=zc8 BT.out)
       |(go_at_call 94;refine (l12Up_calls s _ i _ (kSys.K_below HB.out HSK.out) hi hn).mono ?_;rw [UP.out];rintro e w9 ⟨rfl,hb⟩;replace BP:=am (zb8 BP.out hb);replace BS:=am (zb8 BS.out hb);replace BT:=am (zb8 BT.out hb);replace HB:=am (below_step HB.out hb);clear hb BPc BSc BTc;have BPc:=zc8 BP.out;have BSc:=zc8 BS.out;have BTc:=zc8 BT.out)
       |(go_at_call 95;refine (l12Act_calls p _ s _ i _ (kProg.K_below HB.out HPK.out) (kSys.K_below HB.out HSK.out) HPZ.out hi hn (by rw [<-TX.out];exact hb0) (by rw [<-TX.out];exact hb1) (by rw [<-TX.out];exact hp0) (by rw [<-TX.out];exact HZ9.out) (by rw [<-TX.out];exact HZ10.out)).mono ?_;rw [AC.out];rintro e w9 ⟨rfl,hb⟩;replace BP:=am (zb8 BP.out hb);replace BS:=am (zb8 BS.out hb);replace BT:=am (zb8 BT.out hb);replace HB:=am (below_step HB.out hb);clear hb BPc BSc BTc;have BPc:=zc8 BP.out;have BSc:=zc8 BS.out;have BTc:=zc8 BT.out))
       go_ret
       have hr:taskOk p s i=bAC:=by
        rw [HU.out,show inB t.body 0 ((p.bodies.length:Int) - 1)=true from H1.out,v4,<-HNA.out,show inB t.pc 0 (na:Int)=true from H2.out,show inB t.way 0 4=true from H3.out,show inB t.stage 0 5=true from H4.out,WS.out,N3.out,N8.out,L9.out,L10.out,SX.out,TM.out,UP.out,AC.out];simp only [Bool.true_and,Bool.false_and,Bool.and_false,Bool.or_true,Bool.true_or,Bool.or_false,Bool.false_or,Bool.not_true,Bool.not_false,Bool.and_self,Bool.and_true,Bool.or_self]
       rw [hr];exact ⟨rfl,HB.out⟩
theorem l12Task_ny (p:Prog) (ps:List Value) (s:Sys) (ss:List Value) (i:Nat) (w:World) (hp:kProg.K w p ps) (hs:kSys.K w s ss) (hz:ProgSz p) (hi:i < s.tasks.length) (hn:s.tasks.length<=1048576) (hm:s.cells.length<=1048576) (hl:s.log.length<=1048576) (hc0:0<=s.clock) (hc1:s.clock<=200) (hsz:(taskAt s.tasks i).regs.length<=1048576/\(taskAt s.tasks i).old.length<=1048576/\(taskAt s.tasks i).reads.length<=1048576/\(taskAt s.tasks i).puts.length<=1048576) (hx:(inB (taskAt s.tasks i).body 0 ((p.bodies.length:Int) - 1) && inB (taskAt s.tasks i).pc 0 ((actsAt p.bodies (taskAt s.tasks i).body.toNat).length) && inB (taskAt s.tasks i).way 0 4 && inB (taskAt s.tasks i).stage 0 5)=true) (wayx:¬ (taskAt s.tasks i).way=0) (stx:(taskAt s.tasks i).stage=0):
  Calls Try.prog 57 #[.agg ps.toArray,.agg ss.toArray,.int .i64 i] w fun e w'=>e= .returned (.bool (taskOk p s i))/\Below w.heap.size w w':=by
 have HPK:=am hp;have HSK:=am hs;have HPZ:=am hz;obtain ⟨Ac,cc,Ab,cb,rfl,-,-,-,gb⟩:=kProg_open hp;obtain ⟨A0,c0,A1,c1,A3,c3,rfl,-,-,-,g1,-⟩:=kSys_open hs;have GB:=am gb;obtain ⟨b,o,cs,rfl,hcl,hK,hcc,-⟩:=C_field g1 zTask i hi (by decide);obtain ⟨t,ht⟩:∃ x,x=taskAt s.tasks i:=⟨_,rfl⟩;rw [<-ht] at hsz hx wayx stx;rw [show s.tasks.getD i zTask=t from ht.symm] at hK;have HKT0:=am hK;obtain ⟨B3,d3,B8,d8,B9,d9,B10,d10,rfl,-,g3,-,g8,-,g9,-,g10⟩:=kTask_open hK;have HKT:=HKT0;have HC:=am hcc;have R3:=am g3;have R8:=am g8;have R9:=am g9;have R10:=am g10;have HZ3:=am hsz.1;have HZ8:=am hsz.2.1;have HZ9:=am hsz.2.2.1;have HZ10:=am hsz.2.2.2;have TX:=am ht;have HU:Aside0 (taskOk p s i=(inB t.body 0 (p.bodies.length - 1) && inB t.pc 0 (actsAt p.bodies t.body.toNat).length && inB t.way 0 4 && inB t.stage 0 5 && (decide (t.way=0) || decide (t.stage=0)) && numsOk t.regs 3 && numsOk t.old 3 && listOk t.reads s.cells.length && listOk t.puts s.cells.length && (!decide (t.stage=0) || (decide (t.at_=0) && decide (t.reads.length+t.puts.length=0))) && timesOk t s && upsOk s i && wayOk p s i)):=⟨by rw [ht];rfl⟩;have q0:(0:Int)<=(i:Int):=by omega
 have q1:(i:Int) < (s.tasks.length:Int):=by omega
 have w5:wrap64 ((p.bodies.length:Int) - 1)=(p.bodies.length:Int) - 1:=by have:=hz.bodies;unfold wrap64;omega
 clear hp hs gb g1 g3 g8 g9 g10 hcl hK hcc ht HKT0 hz hsz;simp only [Bool.and_eq_true] at hx;have H1:Aside0 ((decide ((0:Int)<=t.body) && decide (t.body<=((p.bodies.length:Int) - 1)))=true):=⟨hx.1.1.1⟩;have H3:Aside0 ((decide ((0:Int)<=t.way) && decide (t.way<=4))=true):=⟨hx.1.2⟩;have H4:Aside0 ((decide ((0:Int)<=t.stage) && decide (t.stage<=5))=true):=⟨hx.2⟩;obtain ⟨bN3,hbN3⟩:∃ x,numsOk t.regs 3=x:=⟨_,rfl⟩;have N3:=am hbN3;clear hbN3;obtain ⟨bN8,hbN8⟩:∃ x,numsOk t.old 3=x:=⟨_,rfl⟩;have N8:=am hbN8;clear hbN8;obtain ⟨bL9,hbL9⟩:∃ x,listOk t.reads s.cells.length=x:=⟨_,rfl⟩;have L9:=am hbL9;clear hbL9;obtain ⟨bL10,hbL10⟩:∃ x,listOk t.puts s.cells.length=x:=⟨_,rfl⟩;have L10:=am hbL10;clear hbL10;obtain ⟨bTM,hbTM⟩:∃ x,timesOk t s=x:=⟨_,rfl⟩;have TM:=am hbTM;clear hbTM;obtain ⟨bUP,hbUP⟩:∃ x,upsOk s i=x:=⟨_,rfl⟩;have UP:=am hbUP;clear hbUP;obtain ⟨bAC,hbAC⟩:∃ x,wayOk p s i=x:=⟨_,rfl⟩;have AC:=am hbAC;clear hbAC;have hbb:=inB_iff.1 (show inB t.body 0 ((p.bodies.length:Int) - 1)=true from H1.out);have hb0:0<=t.body:=hbb.1;have hb1:t.body < p.bodies.length:=by omega
 clear hbb;obtain ⟨kb,hkb0⟩:=Int.eq_ofNat_of_zero_le hb0;have hkb:kb < p.bodies.length:=by omega
 have v4:t.body.toNat=kb:=by omega
 obtain ⟨bb,ob,cs2,rfl,hcl2,hK2,hcc2,-⟩:=C_field GB.out ([]:List Act) kb hkb (by decide);obtain ⟨Aa,ca,rfl,la,-⟩:=hK2;have p2:=hcc2 0 _ rfl;simp only [show (Kd.slice 108 kAct).sz=1 from rfl,Nat.mul_one,Nat.add_zero] at p2;rw [show (p.bodies.getD kb []).length=(actsAt p.bodies kb).length from rfl] at p2;have P2:=am p2;obtain ⟨na,hna⟩:∃ x,x=(actsAt p.bodies kb).length:=⟨_,rfl⟩;have hnl:na<=1048576:=by rw [hna,actsAt_eq hkb];exact (HPZ.out.acts _ (List.getElem_mem hkb)).1
 rw [<-hna] at P2;have HNA:=am hna;clear hcl2 hcc2 p2 la hna hkb0;have h2:inB t.pc 0 (na:Int)=true:=by rw [HNA.out,<-v4];exact hx.1.1.2
 have hp0:0<=t.pc:=(inB_iff.1 h2).1;have H2:Aside0 ((decide ((0:Int)<=t.pc) && decide (t.pc<=(na:Int)))=true):=⟨h2⟩;clear h2 hx;have yway:(t.way != 0)=true:=by simp [wayx]
 have WY:=am (decide_eq_false wayx);clear wayx;have SX0:=am stx;clear stx;go_enter Try.func57,Try.ntmps57
 go_wp2_with (first
 |((with_reducible refine gate_dst (N:=3) rfl ?_);refine box_event rfl (N:=3) rfl (t:=48) (by go_simp<;>rfl) ?_;intro gp hg w3 hbox hb;have BP:=am hbox;clear hbox hg;have HB2:=am hb;clear hb;have HB:=HB2;clear HB2;have BPc:=zc8 BP.out)
 |((with_reducible refine gate_dst (N:=4) rfl ?_);refine box_event rfl (N:=4) rfl (t:=27) (by go_simp<;>rfl) ?_;intro gs hg w4 hbox hb;have BS:=am hbox;clear hbox hg;replace BP:=am (zb8 BP.out hb);replace HB:=am (below_step HB.out hb);clear hb BPc;have BPc:=zc8 BP.out;have BSc:=zc8 BS.out)
 |((with_reducible refine gate_dst (N:=13) rfl ?_);refine wpList_load_mid rfl 38 (.tmp 12) rfl b (o+i*13) rfl _ _ (fun j u hu=>cellB HB.out (HC.out j u hu)) Try.underlying38 rfl (by kernel_rfl) ?_)|((with_reducible refine gate_dst (N:=7) rfl ?_);refine box_event rfl (N:=7) rfl (t:=38) (by go_simp<;>rfl) ?_;intro gt hg wt hbox hb;have BT0:=am hbox;have GBT:=am hg;have HBT:=am hb;clear hbox hb hg)|((with_reducible refine gate_store (t:=38) (p:=7) rfl ?_);refine store_block rfl rfl 38 (.tmp 7) (.tmp 13) rfl rfl rfl BT0.out rfl (by kernel_rfl) (aB rfl) ?_;intro wn hbox hg;have BT:=am hbox;have hbx:=pw_below_grown HBT.out _ HBT.out.size hg (fun z hz=>by cases hz;exact Nat.le_of_eq GBT.out.symm);clear BT0 HBT hbox hg;replace BP:=am (zb8 BP.out hbx);replace BS:=am (zb8 BS.out hbx);replace HB:=am (below_step HB.out hbx);clear hbx BPc BSc;have BPc:=zc8 BP.out;have BSc:=zc8 BS.out;have BTc:=zc8 BT.out))
 refine st9 (n:=33) (S:=fun W=>W.heap[gp]? = some (.cells #[.slice Ac p.cells.length cc,.slice (some ⟨bb,ob,none⟩) p.bodies.length cb] 48 (0,0))/\W.heap[gs]? = some (.cells #[.slice A0 s.cells.length c0,.slice (some ⟨b,o,none⟩) s.tasks.length c1,.int .i64 s.clock,.slice A3 s.log.length c3] 27 (0,0))/\W.heap[gt]? = some (.cells #[.int .i64 t.body,.int .i64 t.pc,.int .i64 t.up,.slice B3 t.regs.length d3,.int .i64 t.way,.int .i64 t.stage,.int .i64 t.at_,.int .i64 t.since,.slice B8 t.old.length d8,.slice B9 t.reads.length d9,.slice B10 t.puts.length d10,.int .i64 t.when_,.int .i64 t.from_] 38 (0,0))/\W.cell? ⟨bb,ob+kb,none⟩=some (.slice Aa na ca)) (ds:= []) (by kernel_rfl) rfl ⟨blk_drew BP.out,blk_drew BS.out,blk_drew BT.out,(show wn.cell? ⟨bb,ob+kb,none⟩=_ from cellB HB.out P2.out)⟩ (fun hHeld=> ?_);have hb:=below_drew (Below.refl wn.heap.size wn);generalize wn.drew=w7 at hb hHeld ⊢;have HB7:=am (below_step HB.out hb);clear hb HB BP BS BT BPc BSc BTc;refine ba9 (fuel:=27) (n:=6) [0,1,2,3,4,5] (by kernel_rfl) (fun N _ _ _ _ h=>by cases N <;> exact h) hHeld ?_
 iterate 6 (
  refine stillS_step (v:= ?_) (a':= ?_) rfl (Or.inl ⟨by rfl, ?_⟩) ?_ ?_;rotate_left
  ·rintro W ⟨s0,s1,s2,s3⟩
   have t0:=zc8 s0;have t1:=zc8 s1;have t2:=zc8 s2;clear s0 s1 s2;go_simp;with_reducible rfl
  rotate_left
  ·simp only [Act.put,sA,sZ,sS,i64_w]
   rfl)
 refine stillS_nil ?_;refine on9 (i:=6) (N:=some 20) rfl rfl (by kernel_rfl) (by decide) (fun K hK=> ?_);refine goes_ Try.func50 (by kernel_rfl) rfl #[.int .i64 t.body,.int .i64 0,.int .i64 (wrap64 ((p.bodies.length:Int) - 1))] (by rfl) rfl rfl (by (try simp only [List.map_toArray,List.map_cons,List.map_nil]);first | done | rfl) ?_;refine (l6In_calls t.body 0 (wrap64 ((p.bodies.length:Int) - 1)) _).mono ?_;rw [w5,H1.out];rintro e9 wn ⟨rfl,rfl⟩;refine ⟨_,rfl, ?_⟩;refine hK.out _ _ hHeld (fun hHeld=> ?_);clear hK K;refine norm_ (a':= ?_) ?_ ?_;rotate_left
 ·show Act.put _ (some 20) _=_
  simp only [Act.put,sA,sZ,sS,i64_w];rfl
 refine ba9 (fuel:=15) (n:=11) [7,8,9,10,11,12,13,14,15,16,17] (by kernel_rfl) (fun N _ _ _ _ h=>by cases N <;> exact h) hHeld ?_
 iterate 11 (
  refine stillS_step (v:= ?_) (a':= ?_) rfl (Or.inl ⟨by rfl, ?_⟩) ?_ ?_;rotate_left
  ·rintro W ⟨s0,s1,s2,s3⟩
   have t0:=zc8 s0;have t1:=zc8 s1;have t2:=zc8 s2;clear s0 s1 s2;go_simp;with_reducible rfl
  rotate_left
  ·simp only [Act.put,sA,sZ,sS,i64_w]
   rfl)
 refine stillS_nil ?_;refine on9 (i:=18) (N:=some 32) rfl rfl (by kernel_rfl) (by decide) (fun K hK=> ?_);refine goes_ Try.func50 (by kernel_rfl) rfl #[.int .i64 t.pc,.int .i64 0,.int .i64 (na:Int)] (by rfl) rfl rfl (by (try simp only [List.map_toArray,List.map_cons,List.map_nil]);first | done | rfl) ?_;refine (l6In_calls t.pc 0 (na:Int) _).mono ?_;rw [H2.out];rintro e9 wn ⟨rfl,rfl⟩;refine ⟨_,rfl, ?_⟩;refine hK.out _ _ hHeld (fun hHeld=> ?_);clear hK K;refine norm_ (a':= ?_) ?_ ?_;rotate_left
 ·show Act.put _ (some 32) _=_
  simp only [Act.put,sA,sZ,sS,i64_w];rfl
 refine ba9 (fuel:=9) (n:=5) [19,20,21,22,23] (by kernel_rfl) (fun N _ _ _ _ h=>by cases N <;> exact h) hHeld ?_
 iterate 5 (
  refine stillS_step (v:= ?_) (a':= ?_) rfl (Or.inl ⟨by rfl, ?_⟩) ?_ ?_;rotate_left
  ·rintro W ⟨s0,s1,s2,s3⟩
   have t0:=zc8 s0;have t1:=zc8 s1;have t2:=zc8 s2;clear s0 s1 s2;go_simp;with_reducible rfl
  rotate_left
  ·simp only [Act.put,sA,sZ,sS,i64_w]
   rfl)
 refine stillS_nil ?_;refine on9 (i:=24) (N:=some 38) rfl rfl (by kernel_rfl) (by decide) (fun K hK=> ?_);refine goes_ Try.func50 (by kernel_rfl) rfl #[.int .i64 t.way,.int .i64 0,.int .i64 4] (by rfl) rfl rfl (by (try simp only [List.map_toArray,List.map_cons,List.map_nil]);first | done | rfl) ?_;refine (l6In_calls t.way 0 4 _).mono ?_;rw [H3.out];rintro e9 wn ⟨rfl,rfl⟩;refine ⟨_,rfl, ?_⟩;refine hK.out _ _ hHeld (fun hHeld=> ?_);clear hK K;refine norm_ (a':= ?_) ?_ ?_;rotate_left
 ·show Act.put _ (some 38) _=_
  simp only [Act.put,sA,sZ,sS,i64_w];rfl
 refine ba9 (fuel:=3) (n:=5) [25,26,27,28,29] (by kernel_rfl) (fun N _ _ _ _ h=>by cases N <;> exact h) hHeld ?_
 iterate 5 (
  refine stillS_step (v:= ?_) (a':= ?_) rfl (Or.inl ⟨by rfl, ?_⟩) ?_ ?_;rotate_left
  ·rintro W ⟨s0,s1,s2,s3⟩
   have t0:=zc8 s0;have t1:=zc8 s1;have t2:=zc8 s2;clear s0 s1 s2;go_simp;with_reducible rfl
  rotate_left
  ·simp only [Act.put,sA,sZ,sS,i64_w]
   rfl)
 refine stillS_nil ?_;refine on9 (i:=30) (N:=some 44) rfl rfl (by kernel_rfl) (by decide) (fun K hK=> ?_);refine goes_ Try.func50 (by kernel_rfl) rfl #[.int .i64 t.stage,.int .i64 0,.int .i64 5] (by rfl) rfl rfl (by (try simp only [List.map_toArray,List.map_cons,List.map_nil]);first | done | rfl) ?_;refine (l6In_calls t.stage 0 5 _).mono ?_;rw [H4.out];rintro e9 wn ⟨rfl,rfl⟩;refine ⟨_,rfl, ?_⟩;refine hK.out _ _ hHeld (fun hHeld=> ?_);clear hK K;refine norm_ (a':= ?_) ?_ ?_;rotate_left
 ·show Act.put _ (some 44) _=_
  simp only [Act.put,sA,sZ,sS,i64_w];rfl
 refine ba9 (fuel:=0) (n:=2) [31,32] (by kernel_rfl) (fun N _ _ _ _ h=>by cases N <;> exact h) hHeld ?_
 iterate 2 (
  refine stillS_step (v:= ?_) (a':= ?_) rfl (Or.inl ⟨by rfl, ?_⟩) ?_ ?_;rotate_left
  ·rintro W ⟨s0,s1,s2,s3⟩
   have t0:=zc8 s0;have t1:=zc8 s1;have t2:=zc8 s2;clear s0 s1 s2;go_simp;with_reducible rfl
  rotate_left
  ·simp only [Act.put,sA,sZ,sS,i64_w]
   rfl)
 refine stillS_nil ?_;refine done_ (by kernel_rfl) ?_;have BP:=am hHeld.1;have BS:=am hHeld.2.1;have BT:=am hHeld.2.2.1;have HB:=HB7;clear hHeld HB7;have BPc:=zc8 BP.out;have BSc:=zc8 BS.out;have BTc:=zc8 BT.out;have stx:=SX0.out;clear SX0;have yst:(t.stage != 0)=false:=by simp [stx]
 have WS:Aside0 ((decide (t.way=0) || decide (t.stage=0))=true):=⟨by simp [stx]⟩;have SX:=am (decide_eq_true stx);clear stx
 cases bN3 with
 | false=>
  go_wp2_with (first
  |(go_at_call 91;refine (l2Nums_calls _ _ _ 3 _ (by first|exact Kd.C_below R3.out HB.out | exact Kd.C_below R8.out HB.out) (by first|exact HZ3.out | exact HZ8.out)).mono ?_;(first|rw [N3.out]);rintro e w9 ⟨rfl,rfl⟩))
  go_ret
  have hr:taskOk p s i=false:=by
   rw [HU.out,show inB t.body 0 ((p.bodies.length:Int) - 1)=true from H1.out,v4,<-HNA.out,show inB t.pc 0 (na:Int)=true from H2.out,show inB t.way 0 4=true from H3.out,show inB t.stage 0 5=true from H4.out,WS.out,N3.out];simp only [Bool.true_and,Bool.false_and,Bool.and_false,Bool.or_true,Bool.true_or,Bool.or_false,Bool.false_or,Bool.not_true,Bool.not_false,Bool.and_self,Bool.and_true,Bool.or_self]
  rw [hr]
  exact ⟨rfl,HB.out⟩
 | true=>
  cases bN8 with
  | false=>
   go_wp2_with (first
   |(go_at_call 91;refine (l2Nums_calls _ _ _ 3 _ (by first|exact Kd.C_below R3.out HB.out | exact Kd.C_below R8.out HB.out) (by first|exact HZ3.out | exact HZ8.out)).mono ?_;(first|rw [N3.out] | rw [N8.out]);rintro e w9 ⟨rfl,rfl⟩))
   go_ret
   have hr:taskOk p s i=false:=by
    rw [HU.out,show inB t.body 0 ((p.bodies.length:Int) - 1)=true from H1.out,v4,<-HNA.out,show inB t.pc 0 (na:Int)=true from H2.out,show inB t.way 0 4=true from H3.out,show inB t.stage 0 5=true from H4.out,WS.out,N3.out,N8.out];simp only [Bool.true_and,Bool.false_and,Bool.and_false,Bool.or_true,Bool.true_or,Bool.or_false,Bool.false_or,Bool.not_true,Bool.not_false,Bool.and_self,Bool.and_true,Bool.or_self]
   rw [hr]
   exact ⟨rfl,HB.out⟩
  | true=>
   cases bL9 with
   | false=>
    go_wp2_with (first
    |(go_at_call 91;refine (l2Nums_calls _ _ _ 3 _ (by first|exact Kd.C_below R3.out HB.out | exact Kd.C_below R8.out HB.out) (by first|exact HZ3.out | exact HZ8.out)).mono ?_;(first|rw [N3.out] | rw [N8.out]);rintro e w9 ⟨rfl,rfl⟩)
    |(go_at_call 92;refine (l12List_calls _ _ _ _ _ (by first|exact Kd.C_below R9.out HB.out | exact Kd.C_below R10.out HB.out) (by first|exact HZ9.out | exact HZ10.out) (by omega) (by omega)).mono ?_;(first|rw [L9.out]);rintro e w9 ⟨rfl,hb⟩;replace BP:=am (zb8 BP.out hb);replace BS:=am (zb8 BS.out hb);replace BT:=am (zb8 BT.out hb);replace HB:=am (below_step HB.out hb);clear hb BPc BSc BTc;have BPc:=zc8 BP.out;have BSc:=zc8 BS.out;have BTc:=zc8 BT.out))
    go_ret
    have hr:taskOk p s i=false:=by
     rw [HU.out,show inB t.body 0 ((p.bodies.length:Int) - 1)=true from H1.out,v4,<-HNA.out,show inB t.pc 0 (na:Int)=true from H2.out,show inB t.way 0 4=true from H3.out,show inB t.stage 0 5=true from H4.out,WS.out,N3.out,N8.out,L9.out];simp only [Bool.true_and,Bool.false_and,Bool.and_false,Bool.or_true,Bool.true_or,Bool.or_false,Bool.false_or,Bool.not_true,Bool.not_false,Bool.and_self,Bool.and_true,Bool.or_self]
    rw [hr]
    exact ⟨rfl,HB.out⟩
   | true=>
    cases bL10 with
    | false=>
     go_wp2_with (first
     |(go_at_call 91;refine (l2Nums_calls _ _ _ 3 _ (by first|exact Kd.C_below R3.out HB.out | exact Kd.C_below R8.out HB.out) (by first|exact HZ3.out | exact HZ8.out)).mono ?_;(first|rw [N3.out] | rw [N8.out]);rintro e w9 ⟨rfl,rfl⟩)
     |(go_at_call 92;refine (l12List_calls _ _ _ _ _ (by first|exact Kd.C_below R9.out HB.out | exact Kd.C_below R10.out HB.out) (by first|exact HZ9.out | exact HZ10.out) (by omega) (by omega)).mono ?_;(first|rw [L9.out] | rw [L10.out]);rintro e w9 ⟨rfl,hb⟩;replace BP:=am (zb8 BP.out hb);replace BS:=am (zb8 BS.out hb);replace BT:=am (zb8 BT.out hb);replace HB:=am (below_step HB.out hb);clear hb BPc BSc BTc;have BPc:=zc8 BP.out;have BSc:=zc8 BS.out;have BTc:=zc8 BT.out))
     go_ret
     have hr:taskOk p s i=false:=by
      rw [HU.out,show inB t.body 0 ((p.bodies.length:Int) - 1)=true from H1.out,v4,<-HNA.out,show inB t.pc 0 (na:Int)=true from H2.out,show inB t.way 0 4=true from H3.out,show inB t.stage 0 5=true from H4.out,WS.out,N3.out,N8.out,L9.out,L10.out];simp only [Bool.true_and,Bool.false_and,Bool.and_false,Bool.or_true,Bool.true_or,Bool.or_false,Bool.false_or,Bool.not_true,Bool.not_false,Bool.and_self,Bool.and_true,Bool.or_self]
     rw [hr]
     exact ⟨rfl,HB.out⟩
    | true=>
     by_cases atx:t.at_=0
     ·have yat:(t.at_ == 0)=true:=by simp [atx]
      have AT:=am (decide_eq_true atx);clear atx;have zz:wrap64 ((t.reads.length:Int)+(t.puts.length:Int))=(t.reads.length:Int)+(t.puts.length:Int):=by have:=HZ9.out;have:=HZ10.out;unfold wrap64;omega
      by_cases sux:t.reads.length+t.puts.length=0
      ·have ysu:((t.reads.length:Int)+(t.puts.length:Int) == 0)=true:=by simp;omega
       have SU:=am (decide_eq_true sux);clear sux
       cases bTM with
       | false=>
        go_wp2_with (first
        |(go_at_call 91;refine (l2Nums_calls _ _ _ 3 _ (by first|exact Kd.C_below R3.out HB.out | exact Kd.C_below R8.out HB.out) (by first|exact HZ3.out | exact HZ8.out)).mono ?_;(first|rw [N3.out] | rw [N8.out]);rintro e w9 ⟨rfl,rfl⟩)
        |(go_at_call 92;refine (l12List_calls _ _ _ _ _ (by first|exact Kd.C_below R9.out HB.out | exact Kd.C_below R10.out HB.out) (by first|exact HZ9.out | exact HZ10.out) (by omega) (by omega)).mono ?_;(first|rw [L9.out] | rw [L10.out]);rintro e w9 ⟨rfl,hb⟩;replace BP:=am (zb8 BP.out hb);replace BS:=am (zb8 BS.out hb);replace BT:=am (zb8 BT.out hb);replace HB:=am (below_step HB.out hb);clear hb BPc BSc BTc;have BPc:=zc8 BP.out;have BSc:=zc8 BS.out;have BTc:=zc8 BT.out)
        |((with_reducible refine gate_dst (N:=105) rfl ?_);refine wpList_load_mid rfl 38 (.tmp 7) rfl gt 0 rfl _ _ (lC BT.out) Try.underlying38 rfl (by kernel_rfl) ?_)
        |((with_reducible refine gate_dst (N:=106) rfl ?_);refine wpList_load_mid rfl 27 (.tmp 4) rfl gs 0 rfl _ _ (lC BS.out) Try.underlying27 rfl (by kernel_rfl) ?_)
        |((with_reducible refine gate_dst (N:=110) rfl ?_);refine wpList_load_mid rfl 27 (.tmp 4) rfl gs 0 rfl _ _ (lC BS.out) Try.underlying27 rfl (by kernel_rfl) ?_)
        |((with_reducible refine gate_dst (N:=115) rfl ?_);refine wpList_load_mid rfl 48 (.tmp 3) rfl gp 0 rfl _ _ (lC BP.out) Try.underlying48 rfl (by kernel_rfl) ?_)
        |((with_reducible refine gate_dst (N:=116) rfl ?_);refine wpList_load_mid rfl 27 (.tmp 4) rfl gs 0 rfl _ _ (lC BS.out) Try.underlying27 rfl (by kernel_rfl) ?_)
        |(go_at_call 93;refine (l12Times_calls t s _ _ _ (kTask.K_below HB.out HKT.out) (kSys.K_below HB.out HSK.out) hc0 hc1 hl).mono ?_;rw [TM.out];rintro e w9 ⟨rfl,hb⟩;replace BP:=am (zb8 BP.out hb);replace BS:=am (zb8 BS.out hb);replace BT:=am (zb8 BT.out hb);replace HB:=am (below_step HB.out hb);clear hb BPc BSc BTc;have BPc:=zc8 BP.out;have BSc:=zc8 BS.out;have BTc:=zc8 BT.out))
        go_ret
        have hr:taskOk p s i=false:=by
         rw [HU.out,show inB t.body 0 ((p.bodies.length:Int) - 1)=true from H1.out,v4,<-HNA.out,show inB t.pc 0 (na:Int)=true from H2.out,show inB t.way 0 4=true from H3.out,show inB t.stage 0 5=true from H4.out,WS.out,N3.out,N8.out,L9.out,L10.out,SX.out,AT.out,SU.out,TM.out];simp only [Bool.true_and,Bool.false_and,Bool.and_false,Bool.or_true,Bool.true_or,Bool.or_false,Bool.false_or,Bool.not_true,Bool.not_false,Bool.and_self,Bool.and_true,Bool.or_self]
        rw [hr]
        exact ⟨rfl,HB.out⟩
       | true=>
        cases bUP with
        | false=>
         go_wp2_with (first
         |(go_at_call 91;refine (l2Nums_calls _ _ _ 3 _ (by first|exact Kd.C_below R3.out HB.out | exact Kd.C_below R8.out HB.out) (by first|exact HZ3.out | exact HZ8.out)).mono ?_;(first|rw [N3.out] | rw [N8.out]);rintro e w9 ⟨rfl,rfl⟩)
         |(go_at_call 92;refine (l12List_calls _ _ _ _ _ (by first|exact Kd.C_below R9.out HB.out | exact Kd.C_below R10.out HB.out) (by first|exact HZ9.out | exact HZ10.out) (by omega) (by omega)).mono ?_;(first|rw [L9.out] | rw [L10.out]);rintro e w9 ⟨rfl,hb⟩;replace BP:=am (zb8 BP.out hb);replace BS:=am (zb8 BS.out hb);replace BT:=am (zb8 BT.out hb);replace HB:=am (below_step HB.out hb);clear hb BPc BSc BTc;have BPc:=zc8 BP.out;have BSc:=zc8 BS.out;have BTc:=zc8 BT.out)
         |((with_reducible refine gate_dst (N:=105) rfl ?_);refine wpList_load_mid rfl 38 (.tmp 7) rfl gt 0 rfl _ _ (lC BT.out) Try.underlying38 rfl (by kernel_rfl) ?_)
         |((with_reducible refine gate_dst (N:=106) rfl ?_);refine wpList_load_mid rfl 27 (.tmp 4) rfl gs 0 rfl _ _ (lC BS.out) Try.underlying27 rfl (by kernel_rfl) ?_)
         |((with_reducible refine gate_dst (N:=110) rfl ?_);refine wpList_load_mid rfl 27 (.tmp 4) rfl gs 0 rfl _ _ (lC BS.out) Try.underlying27 rfl (by kernel_rfl) ?_)
         |((with_reducible refine gate_dst (N:=115) rfl ?_);refine wpList_load_mid rfl 48 (.tmp 3) rfl gp 0 rfl _ _ (lC BP.out) Try.underlying48 rfl (by kernel_rfl) ?_)
         |((with_reducible refine gate_dst (N:=116) rfl ?_);refine wpList_load_mid rfl 27 (.tmp 4) rfl gs 0 rfl _ _ (lC BS.out) Try.underlying27 rfl (by kernel_rfl) ?_)
         |(go_at_call 93;refine (l12Times_calls t s _ _ _ (kTask.K_below HB.out HKT.out) (kSys.K_below HB.out HSK.out) hc0 hc1 hl).mono ?_;rw [TM.out];rintro e w9 ⟨rfl,hb⟩;replace BP:=am (zb8 BP.out hb);replace BS:=am (zb8 BS.out hb);replace BT:=am (zb8 BT.out hb);replace HB:=am (below_step HB.out hb);clear hb BPc BSc BTc;have BPc:=zc8 BP.out;have BSc:=zc8 BS.out;have BTc:=zc8 BT.out)
         |(go_at_call 94;refine (l12Up_calls s _ i _ (kSys.K_below HB.out HSK.out) hi hn).mono ?_;rw [UP.out];rintro e w9 ⟨rfl,hb⟩;replace BP:=am (zb8 BP.out hb);replace BS:=am (zb8 BS.out hb);replace BT:=am (zb8 BT.out hb);replace HB:=am (below_step HB.out hb);clear hb BPc BSc BTc;have BPc:=zc8 BP.out;have BSc:=zc8 BS.out;have BTc:=zc8 BT.out))
         go_ret
         have hr:taskOk p s i=false:=by
          rw [HU.out,show inB t.body 0 ((p.bodies.length:Int) - 1)=true from H1.out,v4,<-HNA.out,show inB t.pc 0 (na:Int)=true from H2.out,show inB t.way 0 4=true from H3.out,show inB t.stage 0 5=true from H4.out,WS.out,N3.out,N8.out,L9.out,L10.out,SX.out,AT.out,SU.out,TM.out,UP.out];simp only [Bool.true_and,Bool.false_and,Bool.and_false,Bool.or_true,Bool.true_or,Bool.or_false,Bool.false_or,Bool.not_true,Bool.not_false,Bool.and_self,Bool.and_true,Bool.or_self]
         rw [hr]
         exact ⟨rfl,HB.out⟩
        | true=>
         go_wp2_with (first
         |(go_at_call 91;refine (l2Nums_calls _ _ _ 3 _ (by first|exact Kd.C_below R3.out HB.out | exact Kd.C_below R8.out HB.out) (by first|exact HZ3.out | exact HZ8.out)).mono ?_;(first|rw [N3.out] | rw [N8.out]);rintro e w9 ⟨rfl,rfl⟩)
         |(go_at_call 92;refine (l12List_calls _ _ _ _ _ (by first|exact Kd.C_below R9.out HB.out | exact Kd.C_below R10.out HB.out) (by first|exact HZ9.out | exact HZ10.out) (by omega) (by omega)).mono ?_;(first|rw [L9.out] | rw [L10.out]);rintro e w9 ⟨rfl,hb⟩;replace BP:=am (zb8 BP.out hb);replace BS:=am (zb8 BS.out hb);replace BT:=am (zb8 BT.out hb);replace HB:=am (below_step HB.out hb);clear hb BPc BSc BTc;have BPc:=zc8 BP.out;have BSc:=zc8 BS.out;have BTc:=zc8 BT.out)
         |((with_reducible refine gate_dst (N:=105) rfl ?_);refine wpList_load_mid rfl 38 (.tmp 7) rfl gt 0 rfl _ _ (lC BT.out) Try.underlying38 rfl (by kernel_rfl) ?_)
         |((with_reducible refine gate_dst (N:=106) rfl ?_);refine wpList_load_mid rfl 27 (.tmp 4) rfl gs 0 rfl _ _ (lC BS.out) Try.underlying27 rfl (by kernel_rfl) ?_)
         |((with_reducible refine gate_dst (N:=110) rfl ?_);refine wpList_load_mid rfl 27 (.tmp 4) rfl gs 0 rfl _ _ (lC BS.out) Try.underlying27 rfl (by kernel_rfl) ?_)
         |((with_reducible refine gate_dst (N:=115) rfl ?_);refine wpList_load_mid rfl 48 (.tmp 3) rfl gp 0 rfl _ _ (lC BP.out) Try.underlying48 rfl (by kernel_rfl) ?_)
         |((with_reducible refine gate_dst (N:=116) rfl ?_);refine wpList_load_mid rfl 27 (.tmp 4) rfl gs 0 rfl _ _ (lC BS.out) Try.underlying27 rfl (by kernel_rfl) ?_)
         |(go_at_call 93;refine (l12Times_calls t s _ _ _ (kTask.K_below HB.out HKT.out) (kSys.K_below HB.out HSK.out) hc0 hc1 hl).mono ?_;rw [TM.out];rintro e w9 ⟨rfl,hb⟩;replace BP:=am (zb8 BP.out hb);replace BS:=am (zb8 BS.out hb);replace BT:=am (zb8 BT.out hb);replace HB:=am (below_step HB.out hb);clear hb BPc BSc BTc;have BPc:=zc8 BP.out;have BSc:=zc8 BS.out;have BTc:=zc8 BT.out)
         |(go_at_call 94;refine (l12Up_calls s _ i _ (kSys.K_below HB.out HSK.out) hi hn).mono ?_;rw [UP.out];rintro e w9 ⟨rfl,hb⟩;replace BP:=am (zb8 BP.out hb);replace BS:=am (zb8 BS.out hb);replace BT:=am (zb8 BT.out hb);replace HB:=am (below_step HB.out hb);clear hb BPc BSc BTc;have BPc:=zc8 BP.out;have BSc:=zc8 BS.out;have BTc:=zc8 BT.out)
         |(go_at_call 95;refine (l12Act_calls p _ s _ i _ (kProg.K_below HB.out HPK.out) (kSys.K_below HB.out HSK.out) HPZ.out hi hn (by rw [<-TX.out];exact hb0) (by rw [<-TX.out];exact hb1) (by rw [<-TX.out];exact hp0) (by rw [<-TX.out];exact HZ9.out) (by rw [<-TX.out];exact HZ10.out)).mono ?_;rw [AC.out];rintro e w9 ⟨rfl,hb⟩;replace BP:=am (zb8 BP.out hb);replace BS:=am (zb8 BS.out hb);replace BT:=am (zb8 BT.out hb);replace HB:=am (below_step HB.out hb);clear hb BPc BSc BTc;have BPc:=zc8 BP.out;have BSc:=zc8 BS.out;have BTc:=zc8 BT.out))
         go_ret
         have hr:taskOk p s i=bAC:=by
          rw [HU.out,show inB t.body 0 ((p.bodies.length:Int) - 1)=true from H1.out,v4,<-HNA.out,show inB t.pc 0 (na:Int)=true from H2.out,show inB t.way 0 4=true from H3.out,show inB t.stage 0 5=true from H4.out,WS.out,N3.out,N8.out,L9.out,L10.out,SX.out,AT.out,SU.out,TM.out,UP.out,AC.out];simp only [Bool.true_and,Bool.false_and,Bool.and_false,Bool.or_true,Bool.true_or,Bool.or_false,Bool.false_or,Bool.not_true,Bool.not_false,Bool.and_self,Bool.and_true,Bool.or_self]
         rw [hr];exact ⟨rfl,HB.out⟩
      ·have ysu:((t.reads.length:Int)+(t.puts.length:Int) == 0)=false:=by simp;omega
       have SU:=am (decide_eq_false sux);clear sux
       go_wp2_with (first
       |(go_at_call 91;refine (l2Nums_calls _ _ _ 3 _ (by first|exact Kd.C_below R3.out HB.out | exact Kd.C_below R8.out HB.out) (by first|exact HZ3.out | exact HZ8.out)).mono ?_;(first|rw [N3.out] | rw [N8.out]);rintro e w9 ⟨rfl,rfl⟩)
       |(go_at_call 92;refine (l12List_calls _ _ _ _ _ (by first|exact Kd.C_below R9.out HB.out | exact Kd.C_below R10.out HB.out) (by first|exact HZ9.out | exact HZ10.out) (by omega) (by omega)).mono ?_;(first|rw [L9.out] | rw [L10.out]);rintro e w9 ⟨rfl,hb⟩;replace BP:=am (zb8 BP.out hb);replace BS:=am (zb8 BS.out hb);replace BT:=am (zb8 BT.out hb);replace HB:=am (below_step HB.out hb);clear hb BPc BSc BTc;have BPc:=zc8 BP.out;have BSc:=zc8 BS.out;have BTc:=zc8 BT.out))
       go_ret
       have hr:taskOk p s i=false:=by
        rw [HU.out,show inB t.body 0 ((p.bodies.length:Int) - 1)=true from H1.out,v4,<-HNA.out,show inB t.pc 0 (na:Int)=true from H2.out,show inB t.way 0 4=true from H3.out,show inB t.stage 0 5=true from H4.out,WS.out,N3.out,N8.out,L9.out,L10.out,SX.out,AT.out,SU.out];simp only [Bool.true_and,Bool.false_and,Bool.and_false,Bool.or_true,Bool.true_or,Bool.or_false,Bool.false_or,Bool.not_true,Bool.not_false,Bool.and_self,Bool.and_true,Bool.or_self]
       rw [hr];exact ⟨rfl,HB.out⟩
     ·have yat:(t.at_ == 0)=false:=by simp [atx]
      have AT:=am (decide_eq_false atx);clear atx
      go_wp2_with (first
      |(go_at_call 91;refine (l2Nums_calls _ _ _ 3 _ (by first|exact Kd.C_below R3.out HB.out | exact Kd.C_below R8.out HB.out) (by first|exact HZ3.out | exact HZ8.out)).mono ?_;(first|rw [N3.out] | rw [N8.out]);rintro e w9 ⟨rfl,rfl⟩)
      |(go_at_call 92;refine (l12List_calls _ _ _ _ _ (by first|exact Kd.C_below R9.out HB.out | exact Kd.C_below R10.out HB.out) (by first|exact HZ9.out | exact HZ10.out) (by omega) (by omega)).mono ?_;(first|rw [L9.out] | rw [L10.out]);rintro e w9 ⟨rfl,hb⟩;replace BP:=am (zb8 BP.out hb);replace BS:=am (zb8 BS.out hb);replace BT:=am (zb8 BT.out hb);replace HB:=am (below_step HB.out hb);clear hb BPc BSc BTc;have BPc:=zc8 BP.out;have BSc:=zc8 BS.out;have BTc:=zc8 BT.out))
      go_ret
      have hr:taskOk p s i=false:=by
       rw [HU.out,show inB t.body 0 ((p.bodies.length:Int) - 1)=true from H1.out,v4,<-HNA.out,show inB t.pc 0 (na:Int)=true from H2.out,show inB t.way 0 4=true from H3.out,show inB t.stage 0 5=true from H4.out,WS.out,N3.out,N8.out,L9.out,L10.out,SX.out,AT.out];simp only [Bool.true_and,Bool.false_and,Bool.and_false,Bool.or_true,Bool.true_or,Bool.or_false,Bool.false_or,Bool.not_true,Bool.not_false,Bool.and_self,Bool.and_true,Bool.or_self]
      rw [hr];exact ⟨rfl,HB.out⟩
theorem l12Task_nn (p:Prog) (ps:List Value) (s:Sys) (ss:List Value) (i:Nat) (w:World) (hp:kProg.K w p ps) (hs:kSys.K w s ss) (hz:ProgSz p) (hi:i < s.tasks.length) (hn:s.tasks.length<=1048576) (hm:s.cells.length<=1048576) (hl:s.log.length<=1048576) (hc0:0<=s.clock) (hc1:s.clock<=200) (hsz:(taskAt s.tasks i).regs.length<=1048576/\(taskAt s.tasks i).old.length<=1048576/\(taskAt s.tasks i).reads.length<=1048576/\(taskAt s.tasks i).puts.length<=1048576) (hx:(inB (taskAt s.tasks i).body 0 ((p.bodies.length:Int) - 1) && inB (taskAt s.tasks i).pc 0 ((actsAt p.bodies (taskAt s.tasks i).body.toNat).length) && inB (taskAt s.tasks i).way 0 4 && inB (taskAt s.tasks i).stage 0 5)=true) (wayx:¬ (taskAt s.tasks i).way=0) (stx:¬ (taskAt s.tasks i).stage=0):
  Calls Try.prog 57 #[.agg ps.toArray,.agg ss.toArray,.int .i64 i] w fun e w'=>e= .returned (.bool (taskOk p s i))/\Below w.heap.size w w':=by
 have HPK:=am hp;have HSK:=am hs;have HPZ:=am hz;obtain ⟨Ac,cc,Ab,cb,rfl,-,-,-,gb⟩:=kProg_open hp;obtain ⟨A0,c0,A1,c1,A3,c3,rfl,-,-,-,g1,-⟩:=kSys_open hs;have GB:=am gb;obtain ⟨b,o,cs,rfl,hcl,hK,hcc,-⟩:=C_field g1 zTask i hi (by decide);obtain ⟨t,ht⟩:∃ x,x=taskAt s.tasks i:=⟨_,rfl⟩;rw [<-ht] at hsz hx wayx stx;rw [show s.tasks.getD i zTask=t from ht.symm] at hK;have HKT0:=am hK;obtain ⟨B3,d3,B8,d8,B9,d9,B10,d10,rfl,-,g3,-,g8,-,g9,-,g10⟩:=kTask_open hK;have HKT:=HKT0;have HC:=am hcc;have R3:=am g3;have R8:=am g8;have R9:=am g9;have R10:=am g10;have HZ3:=am hsz.1;have HZ8:=am hsz.2.1;have HZ9:=am hsz.2.2.1;have HZ10:=am hsz.2.2.2;have TX:=am ht;have HU:Aside0 (taskOk p s i=(inB t.body 0 (p.bodies.length - 1) && inB t.pc 0 (actsAt p.bodies t.body.toNat).length && inB t.way 0 4 && inB t.stage 0 5 && (decide (t.way=0) || decide (t.stage=0)) && numsOk t.regs 3 && numsOk t.old 3 && listOk t.reads s.cells.length && listOk t.puts s.cells.length && (!decide (t.stage=0) || (decide (t.at_=0) && decide (t.reads.length+t.puts.length=0))) && timesOk t s && upsOk s i && wayOk p s i)):=⟨by rw [ht];rfl⟩;have q0:(0:Int)<=(i:Int):=by omega
 have q1:(i:Int) < (s.tasks.length:Int):=by omega
 have w5:wrap64 ((p.bodies.length:Int) - 1)=(p.bodies.length:Int) - 1:=by have:=hz.bodies;unfold wrap64;omega
 clear hp hs gb g1 g3 g8 g9 g10 hcl hK hcc ht HKT0 hz hsz;simp only [Bool.and_eq_true] at hx;have H1:Aside0 ((decide ((0:Int)<=t.body) && decide (t.body<=((p.bodies.length:Int) - 1)))=true):=⟨hx.1.1.1⟩;have H3:Aside0 ((decide ((0:Int)<=t.way) && decide (t.way<=4))=true):=⟨hx.1.2⟩;have H4:Aside0 ((decide ((0:Int)<=t.stage) && decide (t.stage<=5))=true):=⟨hx.2⟩;obtain ⟨bN3,hbN3⟩:∃ x,numsOk t.regs 3=x:=⟨_,rfl⟩;have N3:=am hbN3;clear hbN3;obtain ⟨bN8,hbN8⟩:∃ x,numsOk t.old 3=x:=⟨_,rfl⟩;have N8:=am hbN8;clear hbN8;obtain ⟨bL9,hbL9⟩:∃ x,listOk t.reads s.cells.length=x:=⟨_,rfl⟩;have L9:=am hbL9;clear hbL9;obtain ⟨bL10,hbL10⟩:∃ x,listOk t.puts s.cells.length=x:=⟨_,rfl⟩;have L10:=am hbL10;clear hbL10;obtain ⟨bTM,hbTM⟩:∃ x,timesOk t s=x:=⟨_,rfl⟩;have TM:=am hbTM;clear hbTM;obtain ⟨bUP,hbUP⟩:∃ x,upsOk s i=x:=⟨_,rfl⟩;have UP:=am hbUP;clear hbUP;obtain ⟨bAC,hbAC⟩:∃ x,wayOk p s i=x:=⟨_,rfl⟩;have AC:=am hbAC;clear hbAC;have hbb:=inB_iff.1 (show inB t.body 0 ((p.bodies.length:Int) - 1)=true from H1.out);have hb0:0<=t.body:=hbb.1;have hb1:t.body < p.bodies.length:=by omega
 clear hbb;obtain ⟨kb,hkb0⟩:=Int.eq_ofNat_of_zero_le hb0;have hkb:kb < p.bodies.length:=by omega
 have v4:t.body.toNat=kb:=by omega
 obtain ⟨bb,ob,cs2,rfl,hcl2,hK2,hcc2,-⟩:=C_field GB.out ([]:List Act) kb hkb (by decide);obtain ⟨Aa,ca,rfl,la,-⟩:=hK2;have p2:=hcc2 0 _ rfl;simp only [show (Kd.slice 108 kAct).sz=1 from rfl,Nat.mul_one,Nat.add_zero] at p2;rw [show (p.bodies.getD kb []).length=(actsAt p.bodies kb).length from rfl] at p2;have P2:=am p2;obtain ⟨na,hna⟩:∃ x,x=(actsAt p.bodies kb).length:=⟨_,rfl⟩;have hnl:na<=1048576:=by rw [hna,actsAt_eq hkb];exact (HPZ.out.acts _ (List.getElem_mem hkb)).1
 rw [<-hna] at P2;have HNA:=am hna;clear hcl2 hcc2 p2 la hna hkb0;have h2:inB t.pc 0 (na:Int)=true:=by rw [HNA.out,<-v4];exact hx.1.1.2
 have hp0:0<=t.pc:=(inB_iff.1 h2).1;have H2:Aside0 ((decide ((0:Int)<=t.pc) && decide (t.pc<=(na:Int)))=true):=⟨h2⟩;clear h2 hx;have yway:(t.way != 0)=true:=by simp [wayx]
 have WY:=am (decide_eq_false wayx);clear wayx;have SX0:=am stx;clear stx;go_enter Try.func57,Try.ntmps57
 go_wp2_with (first
 |((with_reducible refine gate_dst (N:=3) rfl ?_);refine box_event rfl (N:=3) rfl (t:=48) (by go_simp<;>rfl) ?_;intro gp hg w3 hbox hb;have BP:=am hbox;clear hbox hg;have HB2:=am hb;clear hb;have HB:=HB2;clear HB2;have BPc:=zc8 BP.out)
 |((with_reducible refine gate_dst (N:=4) rfl ?_);refine box_event rfl (N:=4) rfl (t:=27) (by go_simp<;>rfl) ?_;intro gs hg w4 hbox hb;have BS:=am hbox;clear hbox hg;replace BP:=am (zb8 BP.out hb);replace HB:=am (below_step HB.out hb);clear hb BPc;have BPc:=zc8 BP.out;have BSc:=zc8 BS.out)
 |((with_reducible refine gate_dst (N:=13) rfl ?_);refine wpList_load_mid rfl 38 (.tmp 12) rfl b (o+i*13) rfl _ _ (fun j u hu=>cellB HB.out (HC.out j u hu)) Try.underlying38 rfl (by kernel_rfl) ?_)|((with_reducible refine gate_dst (N:=7) rfl ?_);refine box_event rfl (N:=7) rfl (t:=38) (by go_simp<;>rfl) ?_;intro gt hg wt hbox hb;have BT0:=am hbox;have GBT:=am hg;have HBT:=am hb;clear hbox hb hg)|((with_reducible refine gate_store (t:=38) (p:=7) rfl ?_);refine store_block rfl rfl 38 (.tmp 7) (.tmp 13) rfl rfl rfl BT0.out rfl (by kernel_rfl) (aB rfl) ?_;intro wn hbox hg;have BT:=am hbox;have hbx:=pw_below_grown HBT.out _ HBT.out.size hg (fun z hz=>by cases hz;exact Nat.le_of_eq GBT.out.symm);clear BT0 HBT hbox hg;replace BP:=am (zb8 BP.out hbx);replace BS:=am (zb8 BS.out hbx);replace HB:=am (below_step HB.out hbx);clear hbx BPc BSc;have BPc:=zc8 BP.out;have BSc:=zc8 BS.out;have BTc:=zc8 BT.out))
 refine st9 (n:=33) (S:=fun W=>W.heap[gp]? = some (.cells #[.slice Ac p.cells.length cc,.slice (some ⟨bb,ob,none⟩) p.bodies.length cb] 48 (0,0))/\W.heap[gs]? = some (.cells #[.slice A0 s.cells.length c0,.slice (some ⟨b,o,none⟩) s.tasks.length c1,.int .i64 s.clock,.slice A3 s.log.length c3] 27 (0,0))/\W.heap[gt]? = some (.cells #[.int .i64 t.body,.int .i64 t.pc,.int .i64 t.up,.slice B3 t.regs.length d3,.int .i64 t.way,.int .i64 t.stage,.int .i64 t.at_,.int .i64 t.since,.slice B8 t.old.length d8,.slice B9 t.reads.length d9,.slice B10 t.puts.length d10,.int .i64 t.when_,.int .i64 t.from_] 38 (0,0))/\W.cell? ⟨bb,ob+kb,none⟩=some (.slice Aa na ca)) (ds:= []) (by kernel_rfl) rfl ⟨blk_drew BP.out,blk_drew BS.out,blk_drew BT.out,(show wn.cell? ⟨bb,ob+kb,none⟩=_ from cellB HB.out P2.out)⟩ (fun hHeld=> ?_);have hb:=below_drew (Below.refl wn.heap.size wn);generalize wn.drew=w7 at hb hHeld ⊢;have HB7:=am (below_step HB.out hb);clear hb HB BP BS BT BPc BSc BTc;refine ba9 (fuel:=27) (n:=6) [0,1,2,3,4,5] (by kernel_rfl) (fun N _ _ _ _ h=>by cases N <;> exact h) hHeld ?_
 iterate 6 (
  refine stillS_step (v:= ?_) (a':= ?_) rfl (Or.inl ⟨by rfl, ?_⟩) ?_ ?_;rotate_left
  ·rintro W ⟨s0,s1,s2,s3⟩
   have t0:=zc8 s0;have t1:=zc8 s1;have t2:=zc8 s2;clear s0 s1 s2;go_simp;with_reducible rfl
  rotate_left
  ·simp only [Act.put,sA,sZ,sS,i64_w]
   rfl)
 refine stillS_nil ?_;refine on9 (i:=6) (N:=some 20) rfl rfl (by kernel_rfl) (by decide) (fun K hK=> ?_);refine goes_ Try.func50 (by kernel_rfl) rfl #[.int .i64 t.body,.int .i64 0,.int .i64 (wrap64 ((p.bodies.length:Int) - 1))] (by rfl) rfl rfl (by (try simp only [List.map_toArray,List.map_cons,List.map_nil]);first | done | rfl) ?_;refine (l6In_calls t.body 0 (wrap64 ((p.bodies.length:Int) - 1)) _).mono ?_;rw [w5,H1.out];rintro e9 wn ⟨rfl,rfl⟩;refine ⟨_,rfl, ?_⟩;refine hK.out _ _ hHeld (fun hHeld=> ?_);clear hK K;refine norm_ (a':= ?_) ?_ ?_;rotate_left
 ·show Act.put _ (some 20) _=_
  simp only [Act.put,sA,sZ,sS,i64_w];rfl
 refine ba9 (fuel:=15) (n:=11) [7,8,9,10,11,12,13,14,15,16,17] (by kernel_rfl) (fun N _ _ _ _ h=>by cases N <;> exact h) hHeld ?_
 iterate 11 (
  refine stillS_step (v:= ?_) (a':= ?_) rfl (Or.inl ⟨by rfl, ?_⟩) ?_ ?_;rotate_left
  ·rintro W ⟨s0,s1,s2,s3⟩
   have t0:=zc8 s0;have t1:=zc8 s1;have t2:=zc8 s2;clear s0 s1 s2;go_simp;with_reducible rfl
  rotate_left
  ·simp only [Act.put,sA,sZ,sS,i64_w]
   rfl)
 refine stillS_nil ?_;refine on9 (i:=18) (N:=some 32) rfl rfl (by kernel_rfl) (by decide) (fun K hK=> ?_);refine goes_ Try.func50 (by kernel_rfl) rfl #[.int .i64 t.pc,.int .i64 0,.int .i64 (na:Int)] (by rfl) rfl rfl (by (try simp only [List.map_toArray,List.map_cons,List.map_nil]);first | done | rfl) ?_;refine (l6In_calls t.pc 0 (na:Int) _).mono ?_;rw [H2.out];rintro e9 wn ⟨rfl,rfl⟩;refine ⟨_,rfl, ?_⟩;refine hK.out _ _ hHeld (fun hHeld=> ?_);clear hK K;refine norm_ (a':= ?_) ?_ ?_;rotate_left
 ·show Act.put _ (some 32) _=_
  simp only [Act.put,sA,sZ,sS,i64_w];rfl
 refine ba9 (fuel:=9) (n:=5) [19,20,21,22,23] (by kernel_rfl) (fun N _ _ _ _ h=>by cases N <;> exact h) hHeld ?_
 iterate 5 (
  refine stillS_step (v:= ?_) (a':= ?_) rfl (Or.inl ⟨by rfl, ?_⟩) ?_ ?_;rotate_left
  ·rintro W ⟨s0,s1,s2,s3⟩
   have t0:=zc8 s0;have t1:=zc8 s1;have t2:=zc8 s2;clear s0 s1 s2;go_simp;with_reducible rfl
  rotate_left
  ·simp only [Act.put,sA,sZ,sS,i64_w]
   rfl)
 refine stillS_nil ?_;refine on9 (i:=24) (N:=some 38) rfl rfl (by kernel_rfl) (by decide) (fun K hK=> ?_);refine goes_ Try.func50 (by kernel_rfl) rfl #[.int .i64 t.way,.int .i64 0,.int .i64 4] (by rfl) rfl rfl (by (try simp only [List.map_toArray,List.map_cons,List.map_nil]);first | done | rfl) ?_;refine (l6In_calls t.way 0 4 _).mono ?_;rw [H3.out];rintro e9 wn ⟨rfl,rfl⟩;refine ⟨_,rfl, ?_⟩;refine hK.out _ _ hHeld (fun hHeld=> ?_);clear hK K;refine norm_ (a':= ?_) ?_ ?_;rotate_left
 ·show Act.put _ (some 38) _=_
  simp only [Act.put,sA,sZ,sS,i64_w];rfl
 refine ba9 (fuel:=3) (n:=5) [25,26,27,28,29] (by kernel_rfl) (fun N _ _ _ _ h=>by cases N <;> exact h) hHeld ?_
 iterate 5 (
  refine stillS_step (v:= ?_) (a':= ?_) rfl (Or.inl ⟨by rfl, ?_⟩) ?_ ?_;rotate_left
  ·rintro W ⟨s0,s1,s2,s3⟩
   have t0:=zc8 s0;have t1:=zc8 s1;have t2:=zc8 s2;clear s0 s1 s2;go_simp;with_reducible rfl
  rotate_left
  ·simp only [Act.put,sA,sZ,sS,i64_w]
   rfl)
 refine stillS_nil ?_;refine on9 (i:=30) (N:=some 44) rfl rfl (by kernel_rfl) (by decide) (fun K hK=> ?_);refine goes_ Try.func50 (by kernel_rfl) rfl #[.int .i64 t.stage,.int .i64 0,.int .i64 5] (by rfl) rfl rfl (by (try simp only [List.map_toArray,List.map_cons,List.map_nil]);first | done | rfl) ?_;refine (l6In_calls t.stage 0 5 _).mono ?_;rw [H4.out];rintro e9 wn ⟨rfl,rfl⟩;refine ⟨_,rfl, ?_⟩;refine hK.out _ _ hHeld (fun hHeld=> ?_);clear hK K;refine norm_ (a':= ?_) ?_ ?_;rotate_left
 ·show Act.put _ (some 44) _=_
  simp only [Act.put,sA,sZ,sS,i64_w];rfl
 refine ba9 (fuel:=0) (n:=2) [31,32] (by kernel_rfl) (fun N _ _ _ _ h=>by cases N <;> exact h) hHeld ?_
 iterate 2 (
  refine stillS_step (v:= ?_) (a':= ?_) rfl (Or.inl ⟨by rfl, ?_⟩) ?_ ?_;rotate_left
  ·rintro W ⟨s0,s1,s2,s3⟩
   have t0:=zc8 s0;have t1:=zc8 s1;have t2:=zc8 s2;clear s0 s1 s2;go_simp;with_reducible rfl
  rotate_left
  ·simp only [Act.put,sA,sZ,sS,i64_w]
   rfl)
 refine stillS_nil ?_;refine done_ (by kernel_rfl) ?_;have BP:=am hHeld.1;have BS:=am hHeld.2.1;have BT:=am hHeld.2.2.1;have HB:=HB7;clear hHeld HB7;have BPc:=zc8 BP.out;have BSc:=zc8 BS.out;have BTc:=zc8 BT.out;have stx:=SX0.out;clear SX0;have yst:(t.stage != 0)=true:=by simp [stx]
 have WS:Aside0 ((decide (t.way=0) || decide (t.stage=0))=false):=⟨by rw [WY.out];simp [stx]⟩;clear stx;go_wp2;go_ret
 have hr:taskOk p s i=false:=by
  rw [HU.out,show inB t.body 0 ((p.bodies.length:Int) - 1)=true from H1.out,v4,<-HNA.out,show inB t.pc 0 (na:Int)=true from H2.out,show inB t.way 0 4=true from H3.out,show inB t.stage 0 5=true from H4.out,WS.out];simp only [Bool.true_and,Bool.false_and,Bool.and_false,Bool.or_true,Bool.true_or,Bool.or_false,Bool.false_or,Bool.not_true,Bool.not_false,Bool.and_self,Bool.and_true,Bool.or_self]
 rw [hr];exact ⟨rfl,HB.out⟩
theorem l12Task_calls (p:Prog) (ps:List Value) (s:Sys) (ss:List Value) (i:Nat) (w:World) (hp:kProg.K w p ps) (hs:kSys.K w s ss) (hz:ProgSz p) (hi:i < s.tasks.length) (hn:s.tasks.length<=1048576) (hm:s.cells.length<=1048576) (hl:s.log.length<=1048576) (hc0:0<=s.clock) (hc1:s.clock<=200) (hsz:(taskAt s.tasks i).regs.length<=1048576/\(taskAt s.tasks i).old.length<=1048576/\(taskAt s.tasks i).reads.length<=1048576/\(taskAt s.tasks i).puts.length<=1048576):
  Calls Try.prog 57 #[.agg ps.toArray,.agg ss.toArray,.int .i64 i] w fun e w'=>e= .returned (.bool (taskOk p s i))/\Below w.heap.size w w':=by
 cases hx:(inB (taskAt s.tasks i).body 0 ((p.bodies.length:Int) - 1) && inB (taskAt s.tasks i).pc 0 ((actsAt p.bodies (taskAt s.tasks i).body.toNat).length) && inB (taskAt s.tasks i).way 0 4 && inB (taskAt s.tasks i).stage 0 5) with
 | false=>exact l12Task_bad p ps s ss i w hp hs hz hi hn hm hl hc0 hc1 hsz hx
 | true=>
  by_cases wayx:(taskAt s.tasks i).way=0
  ·by_cases stx:(taskAt s.tasks i).stage=0
   ·exact l12Task_yy p ps s ss i w hp hs hz hi hn hm hl hc0 hc1 hsz hx wayx stx
   ·exact l12Task_yn p ps s ss i w hp hs hz hi hn hm hl hc0 hc1 hsz hx wayx stx
  ·by_cases stx:(taskAt s.tasks i).stage=0
   ·exact l12Task_ny p ps s ss i w hp hs hz hi hn hm hl hc0 hc1 hsz hx wayx stx
   ·exact l12Task_nn p ps s ss i w hp hs hz hi hn hm hl hc0 hc1 hsz hx wayx stx
structure SysSz (s:Sys):Prop where
 cells:s.cells.length<=1048576
 tasks:s.tasks.length<=1048576
 log:s.log.length<=1048576
 task:∀ i,i < s.tasks.length->(taskAt s.tasks i).regs.length<=1048576/\(taskAt s.tasks i).old.length<=1048576/\(taskAt s.tasks i).reads.length<=1048576/\(taskAt s.tasks i).puts.length<=1048576
 logs:∀ i,i < s.log.length->(entryAt s.log i).reads.length<=1048576/\(entryAt s.log i).puts.length<=1048576
theorem sysOk_calls (p:Prog) (ps:List Value) (s:Sys) (ss:List Value) (w:World) (hp:kProg.K w p ps) (hs:kSys.K w s ss) (hz:ProgSz p) (hsz:SysSz s):
  Calls Try.prog 34 #[.agg ps.toArray,.agg ss.toArray] w fun e w'=>e= .returned (.bool (sysOk p s))/\Below w.heap.size w w':=by
 have HPK:=am hp;have HSK:=am hs;have HPZ:=am hz;have HSZ:=am hsz;obtain ⟨Ac,cc,Ab,cb,rfl,-⟩:=kProg_open hp;obtain ⟨A0,c0,A1,c1,A3,c3,rfl,-⟩:=kSys_open hs;have HU:Aside0 (sysOk p s=(progOk p && decide (s.cells.length=p.cells.length) && inB s.tasks.length 1 7 && inB s.clock 0 200 && allB s.tasks.length (taskOk p s) && cellsOk s && logOk p s)):=⟨rfl⟩;have hn:=hsz.tasks;have hm:=hsz.cells;have hl:=hsz.log;have hpc:=hz.cells;clear hp hs hz hsz;obtain ⟨bH1,hbH1⟩:∃ b,inB (s.tasks.length:Int) 1 7=b:=⟨_,rfl⟩;have H1:Aside0 ((decide ((1:Int)<=(s.tasks.length:Int)) && decide ((s.tasks.length:Int)<=7))=bH1):=⟨hbH1⟩;clear hbH1;obtain ⟨bH2,hbH2⟩:∃ b,inB s.clock 0 200=b:=⟨_,rfl⟩;have H2:Aside0 ((decide ((0:Int)<=s.clock) && decide (s.clock<=200))=bH2):=⟨hbH2⟩;clear hbH2;obtain ⟨bPO,hbPO⟩:∃ x,progOk p=x:=⟨_,rfl⟩;have PO:=am hbPO;clear hbPO;obtain ⟨bCE,hbCE⟩:∃ x,cellsOk s=x:=⟨_,rfl⟩;have CE:=am hbCE;clear hbCE;obtain ⟨bLO,hbLO⟩:∃ x,logOk p s=x:=⟨_,rfl⟩;have LO:=am hbLO;clear hbLO;go_enter Try.func34,Try.ntmps34
 cases bPO with
 | false=>
  go_wp2_with (first
  |((with_reducible refine gate_dst (N:=2) rfl ?_);refine box_event rfl (N:=2) rfl (t:=48) (by go_simp<;>rfl) ?_;intro gp hg w2 hbox hb;have BP:=am hbox;clear hbox hg;have HB2:=am hb;clear hb;have HB:=HB2;clear HB2;have BPc:=zc8 BP.out)
  |((with_reducible refine gate_dst (N:=3) rfl ?_);refine box_event rfl (N:=3) rfl (t:=27) (by go_simp<;>rfl) ?_;intro gs hg w3 hbox hb;have BS:=am hbox;clear hbox hg;replace BP:=am (zb8 BP.out hb);replace HB:=am (below_step HB.out hb);clear hb BPc;have BPc:=zc8 BP.out;have BSc:=zc8 BS.out)
  |((with_reducible refine gate_dst (N:=6) rfl ?_);refine wpList_load_mid rfl 48 (.tmp 2) rfl gp 0 rfl _ _ (lC BP.out) Try.underlying48 rfl (by kernel_rfl) ?_)
  |(go_at_call 56;refine (progOk_calls p _ _ (kProg.K_below HB.out HPK.out) HPZ.out).mono ?_;rw [PO.out];rintro e w9 ⟨rfl,hb⟩;replace BP:=am (zb8 BP.out hb);replace BS:=am (zb8 BS.out hb);replace HB:=am (below_step HB.out hb);clear hb BPc BSc;have BPc:=zc8 BP.out;have BSc:=zc8 BS.out))
  go_ret
  have hr:sysOk p s=false:=by
   rw [HU.out,PO.out];simp only [Bool.true_and,Bool.false_and,Bool.and_false,Bool.and_true,Bool.and_self]
  rw [hr]
  exact ⟨rfl,HB.out⟩
 | true=>
  by_cases clx:s.cells.length=p.cells.length
  ·have ycl:((s.cells.length:Int) != (p.cells.length:Int))=false:=by simp;omega
   have CL:=am (decide_eq_true clx);clear clx
   cases bH1 with
   | false=>
    go_wp2_with (first
    |((with_reducible refine gate_dst (N:=2) rfl ?_);refine box_event rfl (N:=2) rfl (t:=48) (by go_simp<;>rfl) ?_;intro gp hg w2 hbox hb;have BP:=am hbox;clear hbox hg;have HB2:=am hb;clear hb;have HB:=HB2;clear HB2;have BPc:=zc8 BP.out)
    |((with_reducible refine gate_dst (N:=3) rfl ?_);refine box_event rfl (N:=3) rfl (t:=27) (by go_simp<;>rfl) ?_;intro gs hg w3 hbox hb;have BS:=am hbox;clear hbox hg;replace BP:=am (zb8 BP.out hb);replace HB:=am (below_step HB.out hb);clear hb BPc;have BPc:=zc8 BP.out;have BSc:=zc8 BS.out)
    |((with_reducible refine gate_dst (N:=6) rfl ?_);refine wpList_load_mid rfl 48 (.tmp 2) rfl gp 0 rfl _ _ (lC BP.out) Try.underlying48 rfl (by kernel_rfl) ?_)
    |(go_at_call 56;refine (progOk_calls p _ _ (kProg.K_below HB.out HPK.out) HPZ.out).mono ?_;rw [PO.out];rintro e w9 ⟨rfl,hb⟩;replace BP:=am (zb8 BP.out hb);replace BS:=am (zb8 BS.out hb);replace HB:=am (below_step HB.out hb);clear hb BPc BSc;have BPc:=zc8 BP.out;have BSc:=zc8 BS.out)
    |(go_at_call 50;refine (l6In_calls _ _ _ _).mono ?_;(first|rw [H1.out]);rintro e w9 ⟨rfl,rfl⟩))
    go_ret
    have hr:sysOk p s=false:=by
     rw [HU.out,PO.out,CL.out,show inB (s.tasks.length:Int) 1 7=false from H1.out];simp only [Bool.true_and,Bool.false_and,Bool.and_false,Bool.and_true,Bool.and_self]
    rw [hr]
    exact ⟨rfl,HB.out⟩
   | true=>
    cases bH2 with
    | false=>
     go_wp2_with (first
     |((with_reducible refine gate_dst (N:=2) rfl ?_);refine box_event rfl (N:=2) rfl (t:=48) (by go_simp<;>rfl) ?_;intro gp hg w2 hbox hb;have BP:=am hbox;clear hbox hg;have HB2:=am hb;clear hb;have HB:=HB2;clear HB2;have BPc:=zc8 BP.out)
     |((with_reducible refine gate_dst (N:=3) rfl ?_);refine box_event rfl (N:=3) rfl (t:=27) (by go_simp<;>rfl) ?_;intro gs hg w3 hbox hb;have BS:=am hbox;clear hbox hg;replace BP:=am (zb8 BP.out hb);replace HB:=am (below_step HB.out hb);clear hb BPc;have BPc:=zc8 BP.out;have BSc:=zc8 BS.out)
     |((with_reducible refine gate_dst (N:=6) rfl ?_);refine wpList_load_mid rfl 48 (.tmp 2) rfl gp 0 rfl _ _ (lC BP.out) Try.underlying48 rfl (by kernel_rfl) ?_)
     |(go_at_call 56;refine (progOk_calls p _ _ (kProg.K_below HB.out HPK.out) HPZ.out).mono ?_;rw [PO.out];rintro e w9 ⟨rfl,hb⟩;replace BP:=am (zb8 BP.out hb);replace BS:=am (zb8 BS.out hb);replace HB:=am (below_step HB.out hb);clear hb BPc BSc;have BPc:=zc8 BP.out;have BSc:=zc8 BS.out)
     |(go_at_call 50;refine (l6In_calls _ _ _ _).mono ?_;(first|rw [H1.out] | rw [H2.out]);rintro e w9 ⟨rfl,rfl⟩))
     go_ret
     have hr:sysOk p s=false:=by
      rw [HU.out,PO.out,CL.out,show inB (s.tasks.length:Int) 1 7=true from H1.out,show inB s.clock 0 200=false from H2.out];simp only [Bool.true_and,Bool.false_and,Bool.and_false,Bool.and_true,Bool.and_self]
     rw [hr]
     exact ⟨rfl,HB.out⟩
    | true=>
     have hk0:=(inB_iff.1 (show inB s.clock 0 200=true from H2.out)).1;have hk1:=(inB_iff.1 (show inB s.clock 0 200=true from H2.out)).2
     go_wp2_with (first
     |((with_reducible refine gate_dst (N:=2) rfl ?_);refine box_event rfl (N:=2) rfl (t:=48) (by go_simp<;>rfl) ?_;intro gp hg w2 hbox hb;have BP:=am hbox;clear hbox hg;have HB2:=am hb;clear hb;have HB:=HB2;clear HB2;have BPc:=zc8 BP.out)
     |((with_reducible refine gate_dst (N:=3) rfl ?_);refine box_event rfl (N:=3) rfl (t:=27) (by go_simp<;>rfl) ?_;intro gs hg w3 hbox hb;have BS:=am hbox;clear hbox hg;replace BP:=am (zb8 BP.out hb);replace HB:=am (below_step HB.out hb);clear hb BPc;have BPc:=zc8 BP.out;have BSc:=zc8 BS.out)
     |((with_reducible refine gate_dst (N:=6) rfl ?_);refine wpList_load_mid rfl 48 (.tmp 2) rfl gp 0 rfl _ _ (lC BP.out) Try.underlying48 rfl (by kernel_rfl) ?_)
     |(go_at_call 56;refine (progOk_calls p _ _ (kProg.K_below HB.out HPK.out) HPZ.out).mono ?_;rw [PO.out];rintro e w9 ⟨rfl,hb⟩;replace BP:=am (zb8 BP.out hb);replace BS:=am (zb8 BS.out hb);replace HB:=am (below_step HB.out hb);clear hb BPc BSc;have BPc:=zc8 BP.out;have BSc:=zc8 BS.out)
     |(go_at_call 50;refine (l6In_calls _ _ _ _).mono ?_;(first|rw [H1.out] | rw [H2.out]);rintro e w9 ⟨rfl,rfl⟩))
     go_loopw [5] (fun j w'=>∃ k:Nat,k<=s.tasks.length/\j= .int .i64 k/\Aside0 (∀ i,i < k->taskOk p s i=true)/\Aside0 (w'.heap[gp]? = some (.cells #[.slice Ac p.cells.length cc,.slice Ab p.bodies.length cb] 48 (0,0)))/\Aside0 (w'.heap[gs]? = some (.cells #[.slice A0 s.cells.length c0,.slice A1 s.tasks.length c1,.int .i64 s.clock,.slice A3 s.log.length c3] 27 (0,0)))/\Aside0 (Below w.heap.size w w')) (fun j _=>s.tasks.length - (intOf j).toNat)
     case atStart=>exact ⟨0,Nat.zero_le _,rfl,⟨fun i hi=>by omega⟩,BP,BS,HB⟩
     case round=>
      clear BP BS HB BPc BSc;obtain ⟨k,hk,rfl,HJ,BP,BS,HB⟩:=hrel;have BPc:=zc8 BP.out;have BSc:=zc8 BS.out;by_cases hlt:k < s.tasks.length
      ·obtain ⟨bTO,hbTO⟩:∃ x,taskOk p s k=x:=⟨_,rfl⟩
       have TO:=am hbTO;clear hbTO;have q1:(k:Int) < (s.tasks.length:Int):=by omega
       cases bTO with
       | false=>
        go_wp2_with (first
        |((with_reducible refine gate_dst (N:=38) rfl ?_);refine wpList_load_mid rfl 48 (.tmp 2) rfl gp 0 rfl _ _ (lC BP.out) Try.underlying48 rfl (by kernel_rfl) ?_)
        |((with_reducible refine gate_dst (N:=39) rfl ?_);refine wpList_load_mid rfl 27 (.tmp 3) rfl gs 0 rfl _ _ (lC BS.out) Try.underlying27 rfl (by kernel_rfl) ?_)
        |(go_at_call 57;refine (l12Task_calls p _ s _ k _ (kProg.K_below HB.out HPK.out) (kSys.K_below HB.out HSK.out) HPZ.out hlt HSZ.out.tasks HSZ.out.cells HSZ.out.log hk0 hk1 (HSZ.out.task k hlt)).mono ?_;rw [TO.out];rintro e w9 ⟨rfl,hb⟩;replace BP:=am (zb8 BP.out hb);replace BS:=am (zb8 BS.out hb);replace HB:=am (below_step HB.out hb);clear hb BPc BSc;have BPc:=zc8 BP.out;have BSc:=zc8 BS.out))
        go_ret
        have hr:sysOk p s=false:=by
         rw [HU.out,PO.out,CL.out,show inB (s.tasks.length:Int) 1 7=true from H1.out,show inB s.clock 0 200=true from H2.out,allB_no hlt TO.out];simp only [Bool.true_and,Bool.false_and,Bool.and_false,Bool.and_true,Bool.and_self]
        rw [hr]
        exact ⟨rfl,HB.out⟩
       | true=>
        go_wp2_with (first
        |((with_reducible refine gate_dst (N:=38) rfl ?_);refine wpList_load_mid rfl 48 (.tmp 2) rfl gp 0 rfl _ _ (lC BP.out) Try.underlying48 rfl (by kernel_rfl) ?_)
        |((with_reducible refine gate_dst (N:=39) rfl ?_);refine wpList_load_mid rfl 27 (.tmp 3) rfl gs 0 rfl _ _ (lC BS.out) Try.underlying27 rfl (by kernel_rfl) ?_)
        |(go_at_call 57;refine (l12Task_calls p _ s _ k _ (kProg.K_below HB.out HPK.out) (kSys.K_below HB.out HSK.out) HPZ.out hlt HSZ.out.tasks HSZ.out.cells HSZ.out.log hk0 hk1 (HSZ.out.task k hlt)).mono ?_;rw [TO.out];rintro e w9 ⟨rfl,hb⟩;replace BP:=am (zb8 BP.out hb);replace BS:=am (zb8 BS.out hb);replace HB:=am (below_step HB.out hb);clear hb BPc BSc;have BPc:=zc8 BP.out;have BSc:=zc8 BS.out))
        go_roundw
        case rel=>exact ⟨k+1,by omega,by go_num,⟨fun i hi=>by rcases Nat.lt_or_ge i k with h | h;exact HJ.out i h;obtain rfl:k=i:=(by omega);exact TO.out⟩,BP,BS,HB⟩
        case measure=>simp [intOf];omega
      ·obtain rfl:k=s.tasks.length:=by omega
       have AL:=am (allB_iff.2 HJ.out);have HBD:Aside0 (∀ i,i < s.tasks.length->0<=(taskAt s.tasks i).body/\(taskAt s.tasks i).body < p.bodies.length):=⟨fun i hi=>by have h:=HJ.out i hi;simp only [taskOk,Bool.and_eq_true,inB_iff] at h;omega⟩;have q1:¬ (s.tasks.length:Int) < (s.tasks.length:Int):=by omega
       cases bCE with
       | false=>
        go_wp2_with (first
        |((with_reducible refine gate_dst (N:=43) rfl ?_);refine wpList_load_mid rfl 27 (.tmp 3) rfl gs 0 rfl _ _ (lC BS.out) Try.underlying27 rfl (by kernel_rfl) ?_)
        |((with_reducible refine gate_dst (N:=46) rfl ?_);refine wpList_load_mid rfl 48 (.tmp 2) rfl gp 0 rfl _ _ (lC BP.out) Try.underlying48 rfl (by kernel_rfl) ?_)
        |((with_reducible refine gate_dst (N:=47) rfl ?_);refine wpList_load_mid rfl 27 (.tmp 3) rfl gs 0 rfl _ _ (lC BS.out) Try.underlying27 rfl (by kernel_rfl) ?_)
        |(go_at_call 58;refine (l12Cells_calls s _ _ (kSys.K_below HB.out HSK.out) HSZ.out.cells HSZ.out.tasks (fun i hi=>(HSZ.out.task i hi).2.2.2)).mono ?_;rw [CE.out];rintro e w9 ⟨rfl,hb⟩;replace BP:=am (zb8 BP.out hb);replace BS:=am (zb8 BS.out hb);replace HB:=am (below_step HB.out hb);clear hb BPc BSc;have BPc:=zc8 BP.out;have BSc:=zc8 BS.out))
        go_ret
        have hr:sysOk p s=false:=by
         rw [HU.out,PO.out,CL.out,show inB (s.tasks.length:Int) 1 7=true from H1.out,show inB s.clock 0 200=true from H2.out,AL.out,CE.out];simp only [Bool.true_and,Bool.false_and,Bool.and_false,Bool.and_true,Bool.and_self]
        rw [hr]
        exact ⟨rfl,HB.out⟩
       | true=>
        go_wp2_with (first
        |((with_reducible refine gate_dst (N:=43) rfl ?_);refine wpList_load_mid rfl 27 (.tmp 3) rfl gs 0 rfl _ _ (lC BS.out) Try.underlying27 rfl (by kernel_rfl) ?_)
        |((with_reducible refine gate_dst (N:=46) rfl ?_);refine wpList_load_mid rfl 48 (.tmp 2) rfl gp 0 rfl _ _ (lC BP.out) Try.underlying48 rfl (by kernel_rfl) ?_)
        |((with_reducible refine gate_dst (N:=47) rfl ?_);refine wpList_load_mid rfl 27 (.tmp 3) rfl gs 0 rfl _ _ (lC BS.out) Try.underlying27 rfl (by kernel_rfl) ?_)
        |(go_at_call 58;refine (l12Cells_calls s _ _ (kSys.K_below HB.out HSK.out) HSZ.out.cells HSZ.out.tasks (fun i hi=>(HSZ.out.task i hi).2.2.2)).mono ?_;rw [CE.out];rintro e w9 ⟨rfl,hb⟩;replace BP:=am (zb8 BP.out hb);replace BS:=am (zb8 BS.out hb);replace HB:=am (below_step HB.out hb);clear hb BPc BSc;have BPc:=zc8 BP.out;have BSc:=zc8 BS.out)
        |(go_at_call 59;refine (l12Log_calls p _ s _ _ (kProg.K_below HB.out HPK.out) (kSys.K_below HB.out HSK.out) HPZ.out HSZ.out.cells HSZ.out.tasks HSZ.out.log HSZ.out.logs HBD.out).mono ?_;rw [LO.out];rintro e w9 ⟨rfl,hb⟩;replace BP:=am (zb8 BP.out hb);replace BS:=am (zb8 BS.out hb);replace HB:=am (below_step HB.out hb);clear hb BPc BSc;have BPc:=zc8 BP.out;have BSc:=zc8 BS.out))
        go_ret
        have hr:sysOk p s=bLO:=by
         rw [HU.out,PO.out,CL.out,show inB (s.tasks.length:Int) 1 7=true from H1.out,show inB s.clock 0 200=true from H2.out,AL.out,CE.out,LO.out];simp only [Bool.true_and,Bool.false_and,Bool.and_false,Bool.and_true,Bool.and_self]
        rw [hr];exact ⟨rfl,HB.out⟩
  ·have ycl:((s.cells.length:Int) != (p.cells.length:Int))=true:=by simp;omega
   have CL:=am (decide_eq_false clx);clear clx
   go_wp2_with (first
   |((with_reducible refine gate_dst (N:=2) rfl ?_);refine box_event rfl (N:=2) rfl (t:=48) (by go_simp<;>rfl) ?_;intro gp hg w2 hbox hb;have BP:=am hbox;clear hbox hg;have HB2:=am hb;clear hb;have HB:=HB2;clear HB2;have BPc:=zc8 BP.out)
   |((with_reducible refine gate_dst (N:=3) rfl ?_);refine box_event rfl (N:=3) rfl (t:=27) (by go_simp<;>rfl) ?_;intro gs hg w3 hbox hb;have BS:=am hbox;clear hbox hg;replace BP:=am (zb8 BP.out hb);replace HB:=am (below_step HB.out hb);clear hb BPc;have BPc:=zc8 BP.out;have BSc:=zc8 BS.out)
   |((with_reducible refine gate_dst (N:=6) rfl ?_);refine wpList_load_mid rfl 48 (.tmp 2) rfl gp 0 rfl _ _ (lC BP.out) Try.underlying48 rfl (by kernel_rfl) ?_)
   |(go_at_call 56;refine (progOk_calls p _ _ (kProg.K_below HB.out HPK.out) HPZ.out).mono ?_;rw [PO.out];rintro e w9 ⟨rfl,hb⟩;replace BP:=am (zb8 BP.out hb);replace BS:=am (zb8 BS.out hb);replace HB:=am (below_step HB.out hb);clear hb BPc BSc;have BPc:=zc8 BP.out;have BSc:=zc8 BS.out))
   go_ret
   have hr:sysOk p s=false:=by
    rw [HU.out,PO.out,CL.out];simp only [Bool.true_and,Bool.false_and,Bool.and_false,Bool.and_true,Bool.and_self]
   rw [hr];exact ⟨rfl,HB.out⟩
theorem isReg_calls (x:Int) (w:World):Calls Try.prog 128 #[.int .i64 x] w fun e w'=>e= .returned (.bool (decide (0<=x) && decide (x < 3)))/\w=w':=by
 go_enter Try.func128,Try.ntmps128
 go_wp2_with (first
 |(go_at_call 51;refine (isPlace_calls _ _ _).mono ?_;rintro e w9 ⟨rfl,rfl⟩))
 go_ret;exact ⟨rfl,rfl⟩
theorem isNum_calls (x:Int) (w:World):Calls Try.prog 101 #[.int .i64 x] w fun e w'=>e= .returned (.bool (decide (0<=x) && decide (x < 100)))/\w=w':=by
 go_enter Try.func101,Try.ntmps101
 go_wp2_with (first
 |(go_at_call 51;refine (isPlace_calls _ _ _).mono ?_;rintro e w9 ⟨rfl,rfl⟩))
 go_ret;exact ⟨rfl,rfl⟩
theorem num_in (x:Int):(decide (0<=x) && decide (x < 100))=inB x 0 99:=by
 rw [Bool.eq_iff_iff,inB_iff];simp;omega
def numsB (xs:List Int):Bool:=allB xs.length fun i=>inB (numAt xs i) 0 99
theorem allNums_calls (A:Option Addr) (c:Nat) (xs:List Int) (w:World) (hx:(Kd.int .i64).C w A xs.length xs) (hn:xs.length<=1048576):
  Calls Try.prog 97 #[.slice A xs.length c] w fun e w'=>e= .returned (.bool (numsB xs))/\w=w':=by
 have HX:=am hx;clear hx;go_enter Try.func97,Try.ntmps97;go_wp2;go_loopw [7] (fun j w'=>∃ k:Nat,k<=xs.length/\j= .int .i64 k/\Aside0 (∀ i,i < k->inB (numAt xs i) 0 99=true)/\Aside0 (w=w')) (fun j _=>xs.length - (intOf j).toNat)
 case atStart=>exact ⟨0,Nat.zero_le _,rfl,⟨fun i hi=>by omega⟩,⟨rfl⟩⟩
 case round=>
  obtain ⟨k,hk,rfl,HJ,HW⟩:=hrel;have hw:=HW.out;subst hw;by_cases hlt:k < xs.length
  ·have q0:(0:Int)<=(k:Int):=by omega
   have q1:(k:Int) < (xs.length:Int):=by omega
   obtain ⟨ad,ed,hx⟩:=Kd.at_int HX.out (k:Int) q0 q1;cases ed;simp only [Int.toNat_natCast] at hx;obtain ⟨x,hxx⟩:∃ x,x=numAt xs k:=⟨_,rfl⟩;have hx2:rd xs (k:Int)=x:=by rw [hxx];rfl
   rw [hx2] at hx;have HXX:=am hxx;clear hx2 hxx
   cases hb:inB x 0 99 with
   | false=>
    have H1:Aside0 ((decide (0<=x) && decide (x < 100))=false):=⟨by rw [num_in,hb]⟩;have HB:=am hb;clear hb
    go_wp2_with (first
    |(go_at_call 101;refine (isNum_calls _ _).mono ?_;rw [H1.out];rintro e w9 ⟨rfl,rfl⟩))
    go_ret;have hr:numsB xs=false:=allB_no hlt (by rw [<-HXX.out];exact HB.out);rw [hr]
    exact ⟨rfl,rfl⟩
   | true=>
    have H1:Aside0 ((decide (0<=x) && decide (x < 100))=true):=⟨by rw [num_in,hb]⟩;have HB:=am hb;clear hb
    go_wp2_with (first
    |(go_at_call 101;refine (isNum_calls _ _).mono ?_;rw [H1.out];rintro e w9 ⟨rfl,rfl⟩))
    go_roundw
    case rel=>exact ⟨k+1,by omega,by go_num,⟨fun i hi=>by rcases Nat.lt_or_ge i k with h | h;exact HJ.out i h;obtain rfl:i=k:=(by omega);rw [<-HXX.out];exact HB.out⟩,⟨by first|rfl | trivial⟩⟩
    case measure=>simp [intOf];omega
  ·obtain rfl:k=xs.length:=by omega
   have q1:¬ (xs.length:Int) < (xs.length:Int):=by omega
   go_wp2;go_ret;have hr:numsB xs=true:=allB_iff.2 HJ.out;rw [hr];exact ⟨rfl,rfl⟩
theorem regsOk_calls (A:Option Addr) (c:Nat) (xs:List Int) (w:World) (hx:(Kd.int .i64).C w A xs.length xs) (hn:xs.length<=1048576):
  Calls Try.prog 102 #[.slice A xs.length c] w fun e w'=>e= .returned (.bool (numsOk xs 3))/\w=w':=by
 have HX:=am hx;have HN:=am hn;clear hx hn;go_enter Try.func102,Try.ntmps102;by_cases h3:(xs.length:Int)=3
 ·have y0:((xs.length:Int) == 3)=true:=by simp [h3]
  have hr:numsOk xs 3=numsB xs:=by unfold numsOk numsB;rw [decide_eq_true h3,Bool.and_true]
  have HR:=am hr;clear hr h3
  go_wp2_with (first
  |(go_at_call 97;refine (allNums_calls _ _ _ _ HX.out HN.out).mono ?_;rintro e w9 ⟨rfl,rfl⟩))
  go_ret;rw [HR.out];exact ⟨rfl,rfl⟩
 ·have y0:((xs.length:Int) == 3)=false:=by simpa using h3
  have hr:numsOk xs 3=false:=by unfold numsOk;rw [decide_eq_false h3,Bool.and_false]
  have HR:=am hr;clear hr h3;go_wp2;go_ret;rw [HR.out];exact ⟨rfl,rfl⟩
inductive En
 | b (g:Nat) (cs:Array Value) (t:TypeId)
 | kp (g:Nat) (cs:Array Value) (t:TypeId)
 | f (ad:Addr) (v:Value)
abbrev Bx:=List En
def Nix (_:World):Prop:=True
def Lies (W:World):Bx->Prop
 | []=>True
 | .b g cs t :: l=>W.heap[g]? = some (.cells cs t (0,0))/\Lies W l
 | .kp g cs t :: l=>W.heap[g]? = some (.cells cs t (0,0))/\Lies W l
 | .f ad v :: l=>W.cell? ad=some v/\Lies W l
def Cl (W:World):Bx->Prop
 | []=>Nix W
 | .b g cs _ :: l=>(∀ i,W.cell? ⟨g,i,none⟩=cs[i]?)/\Cl W l
 | .kp g cs _ :: l=>(∀ i,W.cell? ⟨g,i,none⟩=cs[i]?)/\Cl W l
 | .f ad v :: l=>W.cell? ad=some v/\Cl W l
def En.ok (w:World):En->Prop
 | .b g _ _=>w.heap.size<=g
 | .kp g _ _=>g < w.heap.size
 | .f ad _=>ad.block < w.heap.size
def En.key:En->Nat->Prop
 | .b g _ _,k=>k=g
 | _,_=>False
def Apart (a b:En):Prop:=∀ k,a.key k->¬ b.key k
structure Own (w W:World) (l:Bx):Prop where
 below:Below w.heap.size w W
 lies:Lies W l
 fresh:∀ e ∈ l,e.ok w
 apart:l.Pairwise Apart
inductive At:Bx->Nat->Array Value->TypeId->Prop
 | here {g cs t l}:At (.b g cs t :: l) g cs t
 | kept {g cs t l}:At (.kp g cs t :: l) g cs t
 | there {g cs t l e}:At l g cs t->At (e :: l) g cs t
inductive Upd:Bx->Nat->Array Value->Array Value->TypeId->Bx->Prop
 | here {g cs cs' t l}:Upd (.b g cs t :: l) g cs cs' t (.b g cs' t :: l)
 | there {g cs cs' t l l' e}:Upd l g cs cs' t l'->Upd (e :: l) g cs cs' t (e :: l')
theorem Lies.cl {W:World}:∀ {l:Bx},Lies W l->Cl W l
 | [],_=>trivial
 | .b _ _ _ :: _,h=>⟨fun i=>zc8 h.1 i,h.2.cl⟩
 | .kp _ _ _ :: _,h=>⟨fun i=>zc8 h.1 i,h.2.cl⟩
 | .f _ _ :: _,h=>⟨h.1,h.2.cl⟩
theorem Own.cl {w W:World} {l:Bx} (h:Own w W l):Cl W l:=h.lies.cl
theorem Own.nil (w:World):Own w w []:=⟨Below.refl _ _,trivial,fun e h=>(by cases h),List.Pairwise.nil⟩
theorem Own.far {w W:World} {l:Bx} (h:Own w W l) {ad:Addr} {v:Value} (hc:w.cell? ad=some v):Own w W (.f ad v :: l):=
 ⟨h.below,⟨pw_cell_below h.below hc,h.lies⟩,fun e he=>by
  rcases List.mem_cons.1 he with rfl | he
  ·exact World.block_lt_of_cell? _ _ hc
  ·exact h.fresh e he,List.Pairwise.cons (fun e he k hk=>by cases hk) h.apart⟩
theorem Lies.below {W W':World} (hb:Below W.heap.size W W'):∀ {l:Bx},Lies W l->Lies W' l
 | [],_=>trivial
 | .b _ _ _ :: _,h=>⟨zb8 h.1 hb,h.2.below hb⟩
 | .kp _ _ _ :: _,h=>⟨zb8 h.1 hb,h.2.below hb⟩
 | .f _ _ :: _,h=>⟨pw_cell_below hb h.1,h.2.below hb⟩
theorem Lies.grown {w W W':World} {g:Nat} (hg:W.grownBy W' (some g)) (hw:w.heap.size<=g) (hW:w.heap.size<=W.heap.size):∀ {l:Bx},Lies W l->(∀ e ∈ l,e.ok w)->(∀ e ∈ l,¬ e.key g)->Lies W' l
 | [],_,_,_=>trivial
 | .b _ _ _ :: _,h,hf,hn=>⟨blk_grown h.1 hg (fun he=>hn _ List.mem_cons_self (by injection he with he;exact he.symm)),Lies.grown hg hw hW h.2 (fun e he=>hf e (List.mem_cons_of_mem _ he)) (fun e he=>hn e (List.mem_cons_of_mem _ he))⟩
 | .kp k _ _ :: _,h,hf,hn=>by
  have hlt:k < w.heap.size:=hf _ List.mem_cons_self
  exact ⟨blk_grown h.1 hg (fun he=>by injection he with he;omega),Lies.grown hg hw hW h.2 (fun e he=>hf e (List.mem_cons_of_mem _ he)) (fun e he=>hn e (List.mem_cons_of_mem _ he))⟩
 | .f ad _ :: _,h,hf,hn=>by
  have hlt:ad.block < w.heap.size:=hf _ List.mem_cons_self;exact ⟨(hg.cell h.1 (fun he=>by injection he with he;omega)),Lies.grown hg hw hW h.2 (fun e he=>hf e (List.mem_cons_of_mem _ he)) (fun e he=>hn e (List.mem_cons_of_mem _ he))⟩
theorem Lies.at_ {W:World} {g:Nat} {cs:Array Value} {t:TypeId}:∀ {l:Bx},Lies W l->At l g cs t->W.heap[g]? = some (.cells cs t (0,0))
 | _,h,.here=>h.1
 | _,h,.kept=>h.1
 | .b _ _ _ :: _,h,.there h'=>Lies.at_ h.2 h'
 | .kp _ _ _ :: _,h,.there h'=>Lies.at_ h.2 h'
 | .f _ _ :: _,h,.there h'=>Lies.at_ h.2 h'
theorem Lies.lt {W:World} {k:Nat}:∀ {l:Bx},Lies W l->∀ e ∈ l,e.key k->k < W.heap.size
 | .b _ _ _ :: _,h,e,he,hk=>by
  rcases List.mem_cons.1 he with rfl | he
  ·cases hk;exact blk_lt h.1
  ·exact Lies.lt h.2 e he hk
 | .kp _ _ _ :: _,h,e,he,hk=>by
  rcases List.mem_cons.1 he with rfl | he
  ·cases hk
  ·exact Lies.lt h.2 e he hk
 | .f _ _ :: _,h,e,he,hk=>by
  rcases List.mem_cons.1 he with rfl | he
  ·cases hk
  ·exact Lies.lt h.2 e he hk
theorem Own.step {w W W':World} {l:Bx} (h:Own w W l) (hb:Below W.heap.size W W'):Own w W' l:=⟨below_step h.below hb,h.lies.below hb,h.fresh,h.apart⟩
theorem Own.push {w W W':World} {l:Bx} (h:Own w W l) (hb:Below W.heap.size W W') {cs:Array Value} {t:TypeId} (hg:W'.heap[W.heap.size]? = some (.cells cs t (0,0))):Own w W' (.b W.heap.size cs t :: l):=
 ⟨below_step h.below hb,⟨hg,h.lies.below hb⟩,fun e he=>by
  rcases List.mem_cons.1 he with rfl | he
  ·exact h.below.size
  ·exact h.fresh e he,List.Pairwise.cons (fun e he k hk hk2=>by cases hk;exact Nat.lt_irrefl _ (h.lies.lt e he hk2)) h.apart⟩
theorem Upd.at_ {g:Nat} {cs cs':Array Value} {t:TypeId}:∀ {l l':Bx},Upd l g cs cs' t l'->At l g cs t
 | _,_,.here=> .here
 | _,_,.there h=> .there h.at_
theorem Upd.in_ {g:Nat} {cs cs':Array Value} {t:TypeId}:∀ {l l':Bx},Upd l g cs cs' t l'-> .b g cs t ∈ l
 | _,_,.here=>List.mem_cons_self
 | _,_,.there h=>List.mem_cons_of_mem _ h.in_
theorem Upd.mem {w:World} {g:Nat} {cs cs':Array Value} {t:TypeId}:∀ {l l':Bx},Upd l g cs cs' t l'->∀ e ∈ l',∃ e' ∈ l,(∀ k,e.key k->e'.key k)/\(e'.ok w->e.ok w)
 | _,_,.here,e,he=>by
  rcases List.mem_cons.1 he with rfl | he
  ·exact ⟨_,List.mem_cons_self,fun _ h=>h,fun h=>h⟩
  ·exact ⟨e,List.mem_cons_of_mem _ he,fun _ h=>h,fun h=>h⟩
 | _,_,.there h,e,he=>by
  rcases List.mem_cons.1 he with rfl | he
  ·exact ⟨_,List.mem_cons_self,fun _ h=>h,fun h=>h⟩
  ·obtain ⟨e',h1,h2⟩:=h.mem e he
   exact ⟨e',List.mem_cons_of_mem _ h1,h2⟩
theorem Upd.lies {w W W':World} {g:Nat} {cs cs':Array Value} {t:TypeId} (hg:W.grownBy W' (some g)) (hw:w.heap.size<=g) (hW:w.heap.size<=W.heap.size) (hc:W'.heap[g]? = some (.cells cs' t (0,0))):∀ {l l':Bx},Upd l g cs cs' t l'->Lies W l->(∀ e ∈ l,e.ok w)->l.Pairwise Apart->Lies W' l'
 | _,_,.here,h,hf,hp=>⟨hc,h.2.grown hg hw hW (fun e he=>hf e (List.mem_cons_of_mem _ he)) (fun e he hk=>(List.pairwise_cons.1 hp).1 e he g rfl hk)⟩
 | .b _ _ _ :: _,_,.there h',h,hf,hp=>⟨blk_grown h.1 hg (fun he=>(List.pairwise_cons.1 hp).1 _ h'.in_ g (by injection he with he;exact he.symm) rfl),h'.lies hg hw hW hc h.2 (fun e he=>hf e (List.mem_cons_of_mem _ he)) (List.pairwise_cons.1 hp).2⟩
 | .kp k _ _ :: _,_,.there h',h,hf,hp=>by
  have hlt:k < w.heap.size:=hf _ List.mem_cons_self
  exact ⟨blk_grown h.1 hg (fun he=>by injection he with he;omega),h'.lies hg hw hW hc h.2 (fun e he=>hf e (List.mem_cons_of_mem _ he)) (List.pairwise_cons.1 hp).2⟩
 | .f ad _ :: _,_,.there h',h,hf,hp=>by
  have hlt:ad.block < w.heap.size:=hf _ List.mem_cons_self;exact ⟨(hg.cell h.1 (fun he=>by injection he with he;omega)),h'.lies hg hw hW hc h.2 (fun e he=>hf e (List.mem_cons_of_mem _ he)) (List.pairwise_cons.1 hp).2⟩
theorem Upd.apart {g:Nat} {cs cs':Array Value} {t:TypeId} (w:World):∀ {l l':Bx},Upd l g cs cs' t l'->l.Pairwise Apart->l'.Pairwise Apart
 | _,_,.here,hp=>List.pairwise_cons.2 ⟨fun e he k hk=>(List.pairwise_cons.1 hp).1 e he k hk,(List.pairwise_cons.1 hp).2⟩
 | _,_,.there h',hp=>List.pairwise_cons.2 ⟨fun e he k hk hk2=>by obtain ⟨e',h1,h2,-⟩:=h'.mem (w:=w) e he;exact (List.pairwise_cons.1 hp).1 e' h1 k hk (h2 k hk2),h'.apart w (List.pairwise_cons.1 hp).2⟩
theorem Own.upd {w W W':World} {l l':Bx} {g:Nat} {cs cs':Array Value} {t:TypeId} (h:Own w W l) (hg:W.grownBy W' (some g)) (hc:W'.heap[g]? = some (.cells cs' t (0,0))) (hu:Upd l g cs cs' t l'):Own w W' l':=
 have hw:w.heap.size<=g:=h.fresh _ hu.in_
 ⟨pw_below_grown h.below _ h.below.size hg (fun z hz=>by cases hz;exact hw),hu.lies hg hw h.below.size hc h.lies h.fresh h.apart,fun e he=>by obtain ⟨e',h1,-,h2⟩:=hu.mem (w:=w) e he;exact h2 (h.fresh e' h1),hu.apart w h.apart⟩
theorem Own.pop {w W:World} {e:En} {l:Bx} (h:Own w W (e :: l)):Own w W l:=
 ⟨h.below,by cases e <;> exact h.lies.2,fun e he=>h.fresh e (List.mem_cons_of_mem _ he),(List.pairwise_cons.1 h.apart).2⟩
def En.old:En->En
 | .b g cs t=> .kp g cs t
 | .kp g cs t=> .kp g cs t
 | .f ad v=> .f ad v
theorem Lies.old {W:World}:∀ {l:Bx},Lies W l->Lies W (l.map En.old)
 | [],_=>trivial
 | .b _ _ _ :: _,h=>⟨h.1,h.2.old⟩
 | .kp _ _ _ :: _,h=>⟨h.1,h.2.old⟩
 | .f _ _ :: _,h=>⟨h.1,h.2.old⟩
theorem Lies.old_ok {W:World}:∀ {l:Bx},Lies W l->∀ e ∈ l.map En.old,e.ok W
 | .b _ _ _ :: _,h,e,he=>by
  rcases List.mem_cons.1 he with rfl | he
  ·exact blk_lt h.1
  ·exact Lies.old_ok h.2 e he
 | .kp _ _ _ :: _,h,e,he=>by
  rcases List.mem_cons.1 he with rfl | he
  ·exact blk_lt h.1
  ·exact Lies.old_ok h.2 e he
 | .f _ _ :: _,h,e,he=>by
  rcases List.mem_cons.1 he with rfl | he
  ·exact World.block_lt_of_cell? _ _ h.1
  ·exact Lies.old_ok h.2 e he
theorem old_key (e:En) (k:Nat):¬ e.old.key k:=by cases e <;> exact fun h=>h
theorem Own.rebase {w W:World} {l:Bx} (h:Own w W l):Own W W (l.map En.old):=
 ⟨Below.refl _ _,h.lies.old,h.lies.old_ok,List.pairwise_iff_forall_sublist.2 fun {a b} hs k hk=>by
  have hm:a ∈ l.map En.old:=hs.subset List.mem_cons_self;obtain ⟨e,-,rfl⟩:=List.mem_map.1 hm;exact absurd hk (old_key e k)⟩
theorem Own.named {w W:World} {l:Bx} (h:Aside0 (Own w W l)):∃ L,Aside0 (l=L)/\Aside0 (Own w W L):=⟨l,⟨rfl⟩,h⟩
theorem Own.namedT {w W:World} {e:En} {l:Bx} (h:Aside0 (Own w W (e :: l))):∃ L,Aside0 (l=L)/\Aside0 (Own w W (e :: L)):=⟨l,⟨rfl⟩,h⟩
theorem Own.namedX {w W:World} {e b:En} {l:Bx} (h:Aside0 (Own w W (e :: b :: l))):∃ E L,Aside0 (e=E)/\Aside0 (l=L)/\Aside0 (Own w W (E :: b :: L)):=⟨e,l,⟨rfl⟩,⟨rfl⟩,h⟩
theorem Own.drew {w W:World} {l:Bx} (h:Own w W l):Own w W.drew l:=h.step (below_drew (Below.refl _ _))
def isBox:Op->Bool
 | .alloc _=>true
 | .box _ _=>true
 | _=>false
section
variable {P:Program} {ops:Array Oper} {rest:List Oper} {o:Oper} {a:Go.Act} {Q:Exit->Go.Act->World->Prop} {w W:World} {l:Bx}
theorem gB {t:TypeId} {x:Operand} {N:Tmp} {ty:TypeId} {ps:String} {af:Array Edge} (h:wpList P ops Q ({dst:=some N,op:=.box t x,type:=ty,pos:=ps,after:=af,guard:=none} :: rest) a W):wpList P ops Q ({dst:=some N,op:=.box t x,type:=ty,pos:=ps,after:=af,guard:=none} :: rest) a W:=h
theorem gA {t:TypeId} {N:Tmp} {ty:TypeId} {ps:String} {af:Array Edge} (h:wpList P ops Q ({dst:=some N,op:=.alloc t,type:=ty,pos:=ps,after:=af,guard:=none} :: rest) a W):wpList P ops Q ({dst:=some N,op:=.alloc t,type:=ty,pos:=ps,after:=af,guard:=none} :: rest) a W:=h
theorem gL {t:TypeId} {x:Operand} {N:Tmp} {ty:TypeId} {ps:String} {af:Array Edge} (h:wpList P ops Q ({dst:=some N,op:=.load t x,type:=ty,pos:=ps,after:=af,guard:=none} :: rest) a W):wpList P ops Q ({dst:=some N,op:=.load t x,type:=ty,pos:=ps,after:=af,guard:=none} :: rest) a W:=h
theorem gS {t:TypeId} {p x:Operand} {ty:TypeId} {ps:String} {af:Array Edge} (h:wpList P ops Q ({dst:=none,op:=.store t p x,type:=ty,pos:=ps,after:=af,guard:=none} :: rest) a W):wpList P ops Q ({dst:=none,op:=.store t p x,type:=ty,pos:=ps,after:=af,guard:=none} :: rest) a W:=h
theorem oB {cs:Array Value} {t:TypeId} {N:Tmp} (hb:isBox o.op=true) (M:Own w W l) (h:∀ g W',Aside0 (Own w W' (.b g cs t :: l))->Cl W' (.b g cs t :: l)->wpList P ops Q rest (a.put (some N) (.pointer (some ⟨g,0,none⟩))) W')
  (hd:o.dst=some N:=by rfl) (hgd:o.guard=none:=by rfl)
  (hrun:(execOp a.eval o).run P W= .ok (.value (.pointer (some ⟨W.heap.size,0,none⟩))) (W.alloc (.cells cs t (0,0))):=by go_simp <;> rfl):wpList P ops Q (o :: rest) a W:=
 Kd.event_run hgd hrun (by rw [hd];exact h _ _ ⟨M.push (below_alloc (Below.refl _ _) _) (blk_new W _)⟩ (M.push (below_alloc (Below.refl _ _) _) (blk_new W _)).cl)
theorem oL {t:TypeId} {x:Operand} {g:Nat} {cs:Array Value} {N:Tmp} (ho:o.op= .load t x) (hx:a.eval x= .pointer (some ⟨g,0,none⟩)) (M:Own w W l) (h:wpList P ops Q rest (a.put (some N) (.agg cs)) W)
  (hin:At l g cs t:=by repeat (first|exact .here | exact .kept | apply At.there)) (hd:o.dst=some N:=by rfl) (hgd:o.guard=none:=by rfl)
  (hu:(match P.underlying t with | some d=>d.isRow && ((P.info? t).map (·.size) == some cs.size)|none=>false)=true:=by kernel_rfl):wpList P ops Q (o :: rest) a W:=by
 cases hp:P.underlying t with
 | none=>rw [hp] at hu;cases hu
 | some d=>
  rw [hp] at hu;simp only [Bool.and_eq_true,beq_iff_eq] at hu;refine load_block (cs:=cs.toList) hgd t x ho d hx (by simpa using M.lies.at_ hin) hp hu.1 (by simpa using hu.2) ?_;rw [hd];simpa using h
theorem oS {t:TypeId} {p x:Operand} {g:Nat} {cs cs':Array Value} {l':Bx} (ho:o.op= .store t p x) (hp:a.eval p= .pointer (some ⟨g,0,none⟩)) (hx:a.eval x= .agg cs') (M:Own w W l)
  (h:∀ W',Aside0 (Own w W' l')->Cl W' l'->wpList P ops Q rest a W') (hin:Upd l g cs cs' t l':=by repeat (first|exact .here | apply Upd.there)) (hs:((cs'.size == cs.size) && ((P.info? t).map (·.size) == some cs'.size) && cs'.all (·.oneCell'))=true:=by kernel_rfl)
  (hN:o.dst=none:=by rfl) (hgd:o.guard=none:=by rfl):wpList P ops Q (o :: rest) a W:=by
 simp only [Bool.and_eq_true,beq_iff_eq,Array.all_eq_true_iff_forall_mem] at hs;refine store_block (cs:=cs'.toList) hgd hN t p x ho hp (by simpa using hx) (M.lies.at_ hin.at_) (by simpa using hs.1.1) (by simpa using hs.1.2) (fun v hv=>hs.2 v (by simpa using hv)) ?_;intro w1 h1 hg;have hm:=M.upd hg (by simpa using h1) hin;exact h _ ⟨hm⟩ hm.cl
theorem oF0 {t e:TypeId} {p x:Operand} {g j:Nat} {v:Value} {cs:Array Value} {l':Bx} (ho:o.op= .store t p x) (hp:a.eval p= .pointer (some ⟨g,j,none⟩)) (hx:a.eval x=v) (M:Own w W l) (hin:Upd l g cs (cs.setIfInBounds j v) e l')
  (h:∀ W',Aside0 (Own w W' l')->Cl W' l'->wpList P ops Q rest a W') (hj:j < cs.size) (hi:(P.info? t).map (·.size)=some 1) (hv:v.cells= #[v]) (h1:v.oneCell'=true) (hN:o.dst=none) (hgd:o.guard=none):wpList P ops Q (o :: rest) a W:=by
 have hh:=M.lies.at_ hin.at_;refine wpList_plain hgd fun K hK=> ?_
 obtain ⟨info,hinfo,hsz⟩:=Option.map_eq_some_iff.1 hi;unfold Oper.wp execOp
 have hrun:(Instr.storeAt t (.pointer (some ⟨g,j,none⟩)) v).run P W= .ok () (W.setCell ⟨g,j,none⟩ v):=by
  have:=run_storeCells_cells (P:=P) g j [v] 0 W (fun k hk=>by
   have:k=0:=by simpa using hk
   subst this;simp [zc8 hh j,Array.getElem?_eq_getElem hj]) (fun k hk=>by
   have:k=0:=by simpa using hk
   subst this;exact blk_frozen hh j) (fun q hq=>by rw [List.mem_singleton.1 hq];exact h1)
  simp only [Nat.add_zero] at this;simp [Instr.storeAt,Instr.sureAddr,storeVar,sizeOf,typeInfo,hinfo,hsz,hv,this,World.setCells]
 simp only [ho,hp,hx,Sem.run_bind,hrun,Result.andThen_ok,Sem.run_pure,Oper.upon_skip];rw [hN];obtain ⟨s1,s2,s3,s4⟩:=setCells_same g [v] j W;have hg:W.grownBy (W.setCell ⟨g,j,none⟩ v) (some g):=⟨s1,s2,s3,Nat.le_of_eq s4.symm,fun i hi hne=>Below.heap_setCell W ⟨g,j,none⟩ v i (fun he=>hne (by rw [he]))⟩;have hm:=M.upd hg (blk_set hh j v) hin;exact hK _ _ (h _ ⟨hm⟩ hm.cl)
theorem nums_set (hs:List Int) (j:Nat) (v:Int):(nums .i64 hs).toArray.setIfInBounds j (.int .i64 v)=(nums .i64 (hs.set j v)).toArray:=by
 rw [List.setIfInBounds_toArray];unfold nums;rw [List.map_set]
theorem nums_get {hs:List Int} {j:Nat} (h:j < hs.length):(nums .i64 hs).toArray[j]? = some (.int .i64 (hs.getD j 0)):=by
 rw [List.getElem?_toArray];unfold nums;simp [h]
theorem oM {t e:TypeId} {x y:Operand} {N:Tmp} {m:Nat} (ho:o.op= .makeSlice t x y) (hx:a.eval x= .int .i64 (m:Int)) (hy:a.eval y= .int .i64 (m:Int)) (ht:P.underlying t=some (.slice e)) (hinfo:(P.info? e).map (fun i=>(i.zero,i.size,i.bytes))=some (some (.int .i64 0),1,8)) (M:Own w W l) (hm:m<=1048576)
  (h:∀ g W',Aside0 (Own w W' (.b g (nums .i64 (List.replicate m 0)).toArray e :: l))->Cl W' (.b g (nums .i64 (List.replicate m 0)).toArray e :: l)->wpList P ops Q rest (a.put (some N) (.slice (some ⟨g,0,none⟩) m m)) W')
  (hd:o.dst=some N:=by rfl) (hgd:o.guard=none:=by rfl):wpList P ops Q (o :: rest) a W:=by
 have hl:madeCells #[Value.int .i64 0] m=(nums .i64 (List.replicate m 0)).toArray:=by
  apply Array.toList_inj.1;apply List.ext_getElem
  ·simp [nums,madeCells]
  ·intro i h1 h2
   simp [nums,madeCells,Nat.mod_one]
 have hr:=print_make t e .i64 8 ht hinfo (by decide) m (by omega) W;rw [hl] at hr;have hm2:=M.push (cs:=(nums .i64 (List.replicate m 0)).toArray) (t:=e) (below_alloc (Below.refl _ _) (.cells (nums .i64 (List.replicate m 0)).toArray e)) (blk_new W _);refine Kd.event_run hgd (v:=.slice (some ⟨W.heap.size,0,none⟩) m m) (w1:=W.alloc (.cells (nums .i64 (List.replicate m 0)).toArray e)) ?_ (by rw [hd];exact h _ _ ⟨hm2⟩ hm2.cl);unfold execOp;simp only [ho,hx,hy,Sem.run_bind,hr,Result.andThen_ok,Sem.run_pure]
theorem oI {t e:TypeId} {p x:Operand} {g j:Nat} {v:Int} {hs:List Int} {l':Bx} (ho:o.op= .store t p x) (hp:a.eval p= .pointer (some ⟨g,j,none⟩)) (hx:a.eval x= .int .i64 v) (M:Own w W l) (hin:Upd l g (nums .i64 hs).toArray (nums .i64 (hs.set j v)).toArray e l') (hj:j < hs.length)
  (h:∀ W',Aside0 (Own w W' l')->Cl W' l'->wpList P ops Q rest a W') (hs:(P.info? t).map (·.size)=some 1:=by kernel_rfl)
  (hN:o.dst=none:=by rfl) (hgd:o.guard=none:=by rfl):wpList P ops Q (o :: rest) a W:=
 oF0 ho hp hx M (by rw [nums_set];exact hin) h (by simpa [nums] using hj) hs rfl rfl hN hgd
theorem oR {t:TypeId} {x:Operand} {b off:Nat} {cs:List Value} {N:Tmp} (ho:o.op= .load t x) (hx:a.eval x= .pointer (some ⟨b,off,none⟩)) (M:Own w W l) (hc:∀ j u,cs[j]? = some u->w.cell? ⟨b,off+j,none⟩=some u) (h:wpList P ops Q rest (a.put (some N) (.agg cs.toArray)) W)
  (hd:o.dst=some N:=by rfl) (hgd:o.guard=none:=by rfl)
  (hu:(match P.underlying t with | some d=>d.isRow && ((P.info? t).map (·.size) == some cs.length)|none=>false)=true:=by kernel_rfl):wpList P ops Q (o :: rest) a W:=by
 cases hp:P.underlying t with
 | none=>rw [hp] at hu;cases hu
 | some d=>
  rw [hp] at hu;simp only [Bool.and_eq_true,beq_iff_eq] at hu;refine wpList_load_mid hgd t x ho b off hx cs d (fun j u hj=>pw_cell_below M.below (hc j u hj)) hp hu.1 hu.2 ?_;rw [hd];exact h
end
theorem oC {P:Program} {f:FuncId} {args:Array Value} {w W:World} {l:Bx} {r:Ending} {Q:Ending->World->Prop} (M:Own w W l) (hc:Calls P f args W fun e W'=>e=r/\Below W.heap.size W W') (h:∀ W',Aside0 (Own w W' l)->Cl W' l->Q r W'):Calls P f args W Q:=
 hc.mono fun e W' ⟨he,hb⟩=>by subst he;exact h _ ⟨M.step hb⟩ (M.step hb).cl
theorem oE {P:Program} {f:FuncId} {args:Array Value} {W:World} {r:Ending} {Q:Ending->World->Prop} (hc:Calls P f args W fun e W'=>e=r/\W=W') (h:Q r W):Calls P f args W Q:=
 hc.mono fun e W' ⟨he,hb⟩=>by subst he;subst hb;exact h
theorem oEb {P:Program} {f:FuncId} {args:Array Value} {W:World} {x b:Bool} {Q:Ending->World->Prop} (hc:Calls P f args W fun e W'=>e= .returned (.bool x)/\W=W') (hx:x=b) (h:Q (.returned (.bool b)) W):Calls P f args W Q:=
 by subst hx;exact oE hc h
theorem oCb {P:Program} {f:FuncId} {args:Array Value} {w W:World} {l:Bx} {x b:Bool} {Q:Ending->World->Prop} (M:Own w W l) (hc:Calls P f args W fun e W'=>e= .returned (.bool x)/\Below W.heap.size W W') (hx:x=b) (h:∀ W',Aside0 (Own w W' l)->Cl W' l->Q (.returned (.bool b)) W'):Calls P f args W Q:=
 by subst hx;exact oC M hc h
def dG (P:Program) (ops:Array Oper) (Q:Exit->Go.Act->World->Prop) (w:World) (l:Bx) (n:Nat) (is:List Nat) (a:Go.Act) (W:World):Prop:=
 wpAnyLast P .any ops Q (fun V=>Own w V l) [] (n - is.length) (setAll (Array.replicate n false) is) a W
theorem setAll_app:∀ (is js:List Nat) (x:Array Bool),setAll x (is ++ js)=setAll (setAll x is) js
 | [],_,_=>rfl
 | i :: is,js,x=>setAll_app is js _
section
variable {P:Program} {ops:Array Oper} {o:Oper} {a:Go.Act} {Q:Exit->Go.Act->World->Prop} {w W:World} {l:Bx} {n:Nat}
theorem dS {id:Nat} (M:Own w W l) (h:∀ W',Aside0 (Own w W' l)->dG P ops Q w l n [] a W') (hm:P.follows .mixedOrders=true:=by kernel_rfl) (hn:ops.size=n:=by rfl):(Code.region id ops true).wp P Q a W:=
 start_ (S:=fun V=>Own w V l) (ds:= []) _ hm hn rfl M.drew (fun hh=>h _ ⟨hh⟩)
theorem dN {js:List Nat} (is:List Nat) (M:Own w W l) (h:stillS P ops (fun V=>Cl V l) is (fun a'=>dG P ops Q w l n (js ++ is) a' W) a)
  (hc:(batchB .any ops [] (setAll (Array.replicate n false) js) is && (n - js.length == n - (js ++ is).length+is.length))=true:=by kernel_rfl)
  (hQ:∀ N v c a w,Q (.panic c) (Go.Act.put a N v) w->Q (.panic c) a w:=by (intro N _ _ _ _ h;cases N <;> exact h)):dG P ops Q w l n js a W:=by
 simp only [Bool.and_eq_true,beq_iff_eq] at hc;unfold dG;rw [hc.2];refine batch_go (S:=fun V=>Own w V l) hQ M is _ a hc.1 rfl ?_
 have key:∀ (is:List Nat) (K K':Go.Act->Prop) (a:Go.Act),(∀ a,K a->K' a)->stillS P ops (fun V=>Cl V l) is K a->stillS P ops (fun V=>Own w V l) is K' a:=by
  intro is
  induction is with
  | nil=>exact fun K K' a hk h=>hk _ h
  | cons i is ih=>
   rintro K K' a hk ⟨oi,v,h1,h2,h3⟩;exact ⟨oi,v,h1,h2.imp (fun h=>⟨h.1,fun V hV=>h.2 V hV.cl⟩) id,ih _ _ _ hk h3⟩
 exact key _ _ _ _ (fun a' h=>by unfold dG at h;rw [setAll_app] at h;exact h) h
theorem wanted_none {o:Oper} {y:Nat->Option Bool} (h:o.guard=none):Region.wanted o y=true:=by simp [Region.wanted,h]
theorem wanted_some {o:Oper} {y:Nat->Option Bool} {j:Nat} {b b':Bool} (h:o.guard=some (j,b)) (hy:y j=some b'):Region.wanted o y=(b' == b):=by cases b <;> cases b' <;> simp [Region.wanted,h,hy]
theorem sP {i:Nat} {is:List Nat} {K:Go.Act->Prop} {N:Option Tmp} {op:Op} {ty:TypeId} {ps:String} {af:Array Edge} {gd:Option (Nat × Bool)} {a':Go.Act} {v:Value} (hi:ops[i]? = some {dst:=N,op:=op,type:=ty,pos:=ps,after:=af,guard:=gd}) (h:stillS P ops (fun V=>Cl V l) is K a') (hg:gd=none:=by rfl)
  (hr:∀ V,Cl V l->(execOp a.eval {dst:=N,op:=op,type:=ty,pos:=ps,after:=af,guard:=gd}).run P V= .ok (.value v) V:=by intro V C;simp only [Cl] at C;go_simp;with_reducible rfl)
  (ha:a.put N v=a':=by simp only [Act.put,sA,sZ,sS,i64_w];rfl):stillS P ops (fun V=>Cl V l) (i :: is) K a:=
 ⟨_,v,hi,Or.inl ⟨wanted_none hg,hr⟩,ha ▸ h⟩
theorem sG {i:Nat} {is:List Nat} {K:Go.Act->Prop} {N:Option Tmp} {op:Op} {ty:TypeId} {ps:String} {af:Array Edge} {gd:Option (Nat × Bool)} {a':Go.Act} {v:Value} {j:Nat} {b b':Bool} (hi:ops[i]? = some {dst:=N,op:=op,type:=ty,pos:=ps,after:=af,guard:=gd}) (h:stillS P ops (fun V=>Cl V l) is K a') (hg:gd=some (j,b):=by rfl) (hy:yielded ops a.tmps j=some b':=by rfl) (hb:b'=b:=by rfl)
  (hr:∀ V,Cl V l->(execOp a.eval {dst:=N,op:=op,type:=ty,pos:=ps,after:=af,guard:=gd}).run P V= .ok (.value v) V:=by intro V C;simp only [Cl] at C;go_simp;with_reducible rfl)
  (ha:a.put N v=a':=by simp only [Act.put,sA,sZ,sS,i64_w];rfl):stillS P ops (fun V=>Cl V l) (i :: is) K a:=
 ⟨_,v,hi,Or.inl ⟨by rw [wanted_some hg hy,hb,beq_self_eq_true],hr⟩,ha ▸ h⟩
theorem sU {i:Nat} {is:List Nat} {K:Go.Act->Prop} {N:Option Tmp} {op:Op} {ty:TypeId} {ps:String} {af:Array Edge} {gd:Option (Nat × Bool)} {a':Go.Act} {j:Nat} {b b':Bool} (hi:ops[i]? = some {dst:=N,op:=op,type:=ty,pos:=ps,after:=af,guard:=gd}) (h:stillS P ops (fun V=>Cl V l) is K a') (hg:gd=some (j,b):=by rfl) (hy:yielded ops a.tmps j=some b':=by rfl) (hb:b'= !b:=by rfl)
  (ha:a.put N undef=a':=by simp only [Act.put,sA,sZ,sS];rfl):stillS P ops (fun V=>Cl V l) (i :: is) K a:=
 ⟨_,undef,hi,Or.inr ⟨by rw [wanted_some hg hy,hb];cases b <;> rfl,rfl⟩,ha ▸ h⟩
theorem sN {i:Nat} {is:List Nat} {K:Go.Act->Prop} {N:Option Tmp} {op:Op} {ty:TypeId} {ps:String} {af:Array Edge} {gd:Option (Nat × Bool)} {a':Go.Act} {j:Nat} {b:Bool} (hi:ops[i]? = some {dst:=N,op:=op,type:=ty,pos:=ps,after:=af,guard:=gd}) (h:stillS P ops (fun V=>Cl V l) is K a') (hg:gd=some (j,b):=by rfl) (hy:yielded ops a.tmps j=none:=by rfl)
  (ha:a.put N undef=a':=by simp only [Act.put,sA,sZ,sS];rfl):stillS P ops (fun V=>Cl V l) (i :: is) K a:=
 ⟨_,undef,hi,Or.inr ⟨by simp [Region.wanted,hg,hy],rfl⟩,ha ▸ h⟩
theorem Cl.at_ {W:World} {g:Nat} {cs:Array Value} {t:TypeId}:∀ {l:Bx},Cl W l->At l g cs t->∀ i,W.cell? ⟨g,i,none⟩=cs[i]?
 | _,h,.here=>h.1
 | _,h,.kept=>h.1
 | .b _ _ _ :: _,h,.there h'=>Cl.at_ h.2 h'
 | .kp _ _ _ :: _,h,.there h'=>Cl.at_ h.2 h'
 | .f _ _ :: _,h,.there h'=>Cl.at_ h.2 h'
theorem sL {i:Nat} {is:List Nat} {K:Go.Act->Prop} {N:Option Tmp} {t:TypeId} {x:Operand} {ty:TypeId} {ps:String} {af:Array Edge} {a':Go.Act} {g:Nat} {cs:Array Value} (hi:ops[i]? = some {dst:=N,op:=.load t x,type:=ty,pos:=ps,after:=af,guard:=none}) (hx:a.eval x= .pointer (some ⟨g,0,none⟩)) (h:stillS P ops (fun V=>Cl V l) is K a')
  (hin:At l g cs t:=by repeat (first|exact .here | exact .kept | apply At.there)) (hu:(match P.underlying t with | some d=>d.isRow && ((P.info? t).map (·.size) == some cs.size)|none=>false)=true:=by kernel_rfl)
  (ha:a.put N (.agg cs)=a':=by simp only [Act.put,sA,sZ,sS];rfl):stillS P ops (fun V=>Cl V l) (i :: is) K a:=by
 cases hp:P.underlying t with
 | none=>rw [hp] at hu;cases hu
 | some d=>
  rw [hp] at hu;simp only [Bool.and_eq_true,beq_iff_eq] at hu;refine ⟨_,.agg cs,hi, ?_,ha ▸ h⟩;have:=yieldsIf_load_mid (ops:=ops) (S:=fun V=>Cl V l) (op:={dst:=N,op:=.load t x,type:=ty,pos:=ps,after:=af,guard:=none}) (a:=a) (wanted_none rfl) t x rfl g 0 hx cs.toList d (fun V hV j u hj=>by rw [Nat.zero_add,Cl.at_ hV hin j];simpa using hj) hp hu.1 (by simpa using hu.2);simpa using this
theorem dC {js:List Nat} (i:Nat) {N:Option Tmp} {f:FuncId} {ar:Array Operand} {ts:Array TypeId} {args:Array Value} {ty:TypeId} {ps:String} {af:Array Edge} {gd:Option (Nat × Bool)} (hi:ops[i]? = some {dst:=N,op:=.call {callee:=.value (.func f),args:=ar,argTypes:=ts},type:=ty,pos:=ps,after:=af,guard:=gd})
  (h:Calls P f args W fun e W'=>∃ v,e= .returned v/\Aside0 (Own w W' l)/\dG P ops Q w l n (js ++ [i]) (a.put N v) W')
  (hw:Region.wanted {dst:=N,op:=.call {callee:=.value (.func f),args:=ar,argTypes:=ts},type:=ty,pos:=ps,after:=af,guard:=gd} (yielded ops a.tmps)=true:=by rfl)
  (hargs:ar.map a.eval=args:=by (try simp only [List.map_toArray,List.map_cons,List.map_nil]);first | done | rfl)
  (hc:((Region.ready .any ops (setAll (Array.replicate n false) js) == [i]) && (n - js.length == n - (js ++ [i]).length+1) && (match P.funcs[f]? with | some fn=> !(fn.name == "runtime.NumGoroutine") && fn.body.isSome | none=>false))=true:=by kernel_rfl):dG P ops Q w l n js a W:=by
 simp only [Bool.and_eq_true,beq_iff_eq] at hc;unfold dG;rw [hc.1.2]
 cases hf:P.funcs[f]? with
 | none=>rw [hf] at hc;cases hc.2
 | some fn=>
  rw [hf] at hc;simp only [Bool.and_eq_true,Bool.not_eq_true'] at hc;refine one_ (N:=N) ((setAll (Array.replicate n false) js).setIfInBounds i true) hi rfl (by simp [readyB,hc.1.1]) (by simp) (fun K hK=> ?_);refine goes_ (fn:=fn) hf hc.2.1 hc.2.2 args hw rfl rfl hargs ?_;refine h.mono ?_;rintro e W' ⟨v,rfl,hm,hd⟩;refine ⟨v,rfl, ?_⟩;refine hK.out _ _ hm.out (fun _=> ?_);unfold dG at hd;rw [setAll_app] at hd;exact hd
theorem dU {js:List Nat} (i:Nat) {N:Option Tmp} {op:Op} {ty:TypeId} {ps:String} {af:Array Edge} {gd:Option (Nat × Bool)} (hi:ops[i]? = some {dst:=N,op:=op,type:=ty,pos:=ps,after:=af,guard:=gd}) (hw:Region.wanted {dst:=N,op:=op,type:=ty,pos:=ps,after:=af,guard:=gd} (yielded ops a.tmps)=false) (M:Own w W l)
  (h:dG P ops Q w l n (js ++ [i]) (a.put N undef) W)
  (hc:((Region.ready .any ops (setAll (Array.replicate n false) js) == [i]) && (n - js.length == n - (js ++ [i]).length+1))=true:=by kernel_rfl):dG P ops Q w l n js a W:=by
 simp only [Bool.and_eq_true,beq_iff_eq] at hc;unfold dG;rw [hc.2];refine one_ (N:=N) ((setAll (Array.replicate n false) js).setIfInBounds i true) hi rfl (by simp [readyB,hc.1]) (by simp) (fun K hK=> ?_);rw [if_neg (by rw [hw];exact Bool.false_ne_true)];refine hK.out _ _ M (fun _=> ?_);unfold dG at h;rw [setAll_app] at h;exact h
theorem dD {js:List Nat} (h:Q .normal a W) (hr:(Region.ready .any ops (setAll (Array.replicate n false) js) == [])=true:=by kernel_rfl):dG P ops Q w l n js a W:=done_ hr h
theorem dA {js:List Nat} {a':Go.Act} (h:dG P ops Q w l n js a' W) (ha:a=a':=by simp only [Act.put,sA,sZ,sS,i64_w];rfl):dG P ops Q w l n js a W:=by
 subst ha;exact h
end
theorem place_in (x n:Int):(decide (0<=x) && decide (x < n))=inB x 0 (n - 1):=by
 rw [Bool.eq_iff_iff,inB_iff];simp;omega
theorem putsOk_calls (A:Option Addr) (c:Nat) (xs:List Put) (n:Int) (w:World) (hx:kPut.C w A xs.length xs) (hn:xs.length<=1048576):
  Calls Try.prog 103 #[.slice A xs.length c,.int .i64 n] w fun e w'=>e= .returned (.bool (listOk xs n))/\Below w.heap.size w w':=by
 obtain ⟨b,o,hA,hcell⟩:=put_cells hx;have HC:=am hcell;have HX:=am hx;have M:=am (Own.nil w);have C:=M.out.cl;clear hx hcell;go_enter Try.func103,Try.ntmps103;go_wp2;go_loopw [5,6,9] (fun _ _ j w'=>∃ k:Nat,k<=xs.length/\j= .int .i64 k/\Aside0 (∀ i,i < k->(inB (putAt xs i).cell 0 (n - 1) && inB (putAt xs i).num 0 99 && (decide (i=0) || decide ((putAt xs (i - 1)).cell < (putAt xs i).cell)))=true)/\Aside0 (Own w w' [])) (fun _ _ j _=>xs.length - (intOf j).toNat)
 case atStart=>exact ⟨0,Nat.zero_le _,rfl,⟨fun i hi=>by omega⟩,M⟩
 case round=>
  obtain ⟨k,hk,rfl,HJ,M2⟩:=hrel;clear M C;have M:=M2;clear M2;have C:=M.out.cl;simp only [Cl] at C;by_cases hlt:k < xs.length
  ·obtain rfl:=hA (by omega)
   have q0:(0:Int)<=(k:Int):=by omega
   have q1:(k:Int) < (xs.length:Int):=by omega
   obtain ⟨b',o',cs,eb,hcl,hK,hcc,-⟩:=C_field HX.out zPut k hlt (by decide);cases eb;obtain ⟨x,hxx⟩:∃ x,x=putAt xs k:=⟨_,rfl⟩;rw [show xs.getD k zPut=x from hxx.symm] at hK;have e2:=kPut_open hK;subst e2;have HCC:=am hcc;have HXX:=am hxx;obtain ⟨b1,y1⟩:∃ b,(decide (0<=x.cell) && decide (x.cell < n))=b:=⟨_,rfl⟩;obtain ⟨b2,y2⟩:∃ b,(decide (0<=x.num) && decide (x.num < 100))=b:=⟨_,rfl⟩;have H1:Aside0 (inB x.cell 0 (n - 1)=b1):=⟨by rw [<-y1,place_in]⟩;have H2:Aside0 (inB x.num 0 99=b2):=⟨by rw [<-y2,num_in]⟩;have Y1:=am y1;have Y2:=am y2;clear hcl hK hcc hxx y1 y2
   go_wp2_with (first
   |((first|with_reducible refine gB ?_ | with_reducible refine gA ?_);refine oB rfl M.out ?_;clear M C;intro g W M C;simp only [Cl] at C)
   |((with_reducible refine gL ?_);refine oR rfl rfl M.out HCC.out ?_)
   |((with_reducible refine gS ?_);refine oS rfl rfl rfl M.out ?_;clear M C;intro W M C;simp only [Cl] at C))
   cases b1
   case false=>
    refine dS M.out ?_;clear M C;intro W M;refine dN [0,1,2] M.out ?_;iterate 3 (first|refine sP rfl ?_ | refine sG rfl ?_ | refine sU rfl ?_ | refine sN rfl ?_)
    refine stillS_nil ?_;refine dC 3 rfl ?_;refine oEb (isPlace_calls _ _ _) Y1.out ?_;refine ⟨_,rfl,M,dA ?_⟩;refine dN [4,5,6,7] M.out ?_;iterate 4 (first|refine sP rfl ?_ | refine sG rfl ?_ | refine sU rfl ?_ | refine sN rfl ?_)
    refine stillS_nil ?_;refine dU 8 rfl rfl M.out (dA ?_);refine dN [9,10,11,12,13,14,15,16,17,18,19,20,21,22,23,24,25] M.out ?_;iterate 17 (first|refine sP rfl ?_ | refine sG rfl ?_ | refine sU rfl ?_ | refine sN rfl ?_)
    refine stillS_nil ?_;refine dD ?_;have C:=M.out.cl;simp only [Cl] at C;go_wp2;go_ret;rw [show listOk xs n=false from allB_no hlt (by rw [<-HXX.out,H1.out,Bool.false_and,Bool.false_and])];exact ⟨rfl,M.out.below⟩
   cases b2
   case false=>
    refine dS M.out ?_;clear M C;intro W M;refine dN [0,1,2] M.out ?_;iterate 3 (first|refine sP rfl ?_ | refine sG rfl ?_ | refine sU rfl ?_ | refine sN rfl ?_)
    refine stillS_nil ?_;refine dC 3 rfl ?_;refine oEb (isPlace_calls _ _ _) Y1.out ?_;refine ⟨_,rfl,M,dA ?_⟩;refine dN [4,5,6,7] M.out ?_;iterate 4 (first|refine sP rfl ?_ | refine sG rfl ?_ | refine sU rfl ?_ | refine sN rfl ?_)
    refine stillS_nil ?_;refine dC 8 rfl ?_;refine oEb (isNum_calls _ _) Y2.out ?_;refine ⟨_,rfl,M,dA ?_⟩;refine dN [9,10,11,12,13,14,15,16,17,18,19,20,21,22,23,24,25] M.out ?_;iterate 17 (first|refine sP rfl ?_ | refine sG rfl ?_ | refine sU rfl ?_ | refine sN rfl ?_)
    refine stillS_nil ?_;refine dD ?_;have C:=M.out.cl;simp only [Cl] at C;go_wp2;go_ret;rw [show listOk xs n=false from allB_no hlt (by rw [<-HXX.out,H2.out,Bool.and_false,Bool.false_and])];exact ⟨rfl,M.out.below⟩
   by_cases hk0:k=0
   ·have y0:decide ((0:Int) < (k:Int))=false:=decide_eq_false (by omega)
    have y0':decide (0 < k)=false:=decide_eq_false (by omega);refine dS M.out ?_;clear M C;intro W M;refine dN [0,1,2] M.out ?_;iterate 3 (first|refine sP rfl ?_ | refine sG rfl ?_ | refine sU rfl ?_ | refine sN rfl ?_)
    refine stillS_nil ?_;refine dC 3 rfl ?_;refine oEb (isPlace_calls _ _ _) Y1.out ?_;refine ⟨_,rfl,M,dA ?_⟩;refine dN [4,5,6,7] M.out ?_;iterate 4 (first|refine sP rfl ?_ | refine sG rfl ?_ | refine sU rfl ?_ | refine sN rfl ?_)
    refine stillS_nil ?_;refine dC 8 rfl ?_;refine oEb (isNum_calls _ _) Y2.out ?_;refine ⟨_,rfl,M,dA ?_⟩;refine dN [9,10,11,12,13,14,15,16,17,18,19,20,21,22,23,24,25] M.out ?_;iterate 17 (first|refine sP rfl ?_ | refine sG rfl ?_ | refine sU rfl ?_ | refine sN rfl ?_)
    refine stillS_nil ?_;refine dD ?_;have C:=M.out.cl;simp only [Cl] at C;go_wp2;go_roundw
    case rel=>exact ⟨k+1,by omega,by go_num,⟨fun i hi=>by rcases Nat.lt_or_ge i k with h | h;exact HJ.out i h;obtain rfl:i=k:=(by omega);rw [<-HXX.out,H1.out,H2.out,decide_eq_true hk0,Bool.true_or];rfl⟩,⟨M.out.pop⟩⟩
    case measure=>simp [intOf];omega
   ·have y0:decide ((0:Int) < (k:Int))=true:=decide_eq_true (by omega)
    have y0':decide (0 < k)=true:=decide_eq_true (by omega);obtain ⟨xp,hxp⟩:∃ x,x=putAt xs (k - 1):=⟨_,rfl⟩;have p0:=(HC.out (k - 1) (by omega)).1;rw [<-hxp] at p0;have HXP:=am hxp;have s0:(0:Int)<=(k:Int) - 1:=by omega
    have s1:(k:Int) - 1 < (xs.length:Int):=by omega
    have s2:((k:Int) - 1).toNat=k - 1:=by omega
    have s3:(1:Int)<=(k:Int):=by omega
    have s4:1<=k:=by omega
    have w2:wrap64 ((k:Int) - 1)=(k:Int) - 1:=by unfold wrap64;omega
    replace M:=am (M.out.far p0);clear C;have C:=M.out.cl;simp only [Cl] at C;clear p0 hxp;obtain ⟨b3,y3⟩:∃ b,decide (x.cell<=xp.cell)=b:=⟨_,rfl⟩;have Y3:=am y3;cases b3
    ·refine dS M.out ?_
     clear M C;intro W M;refine dN [0,1,2] M.out ?_;iterate 3 (first|refine sP rfl ?_ | refine sG rfl ?_ | refine sU rfl ?_ | refine sN rfl ?_)
     refine stillS_nil ?_;refine dC 3 rfl ?_;refine oEb (isPlace_calls _ _ _) Y1.out ?_;refine ⟨_,rfl,M,dA ?_⟩;refine dN [4,5,6,7] M.out ?_;iterate 4 (first|refine sP rfl ?_ | refine sG rfl ?_ | refine sU rfl ?_ | refine sN rfl ?_)
     refine stillS_nil ?_;refine dC 8 rfl ?_;refine oEb (isNum_calls _ _) Y2.out ?_;refine ⟨_,rfl,M,dA ?_⟩;refine dN [9,10,11,12,13,14,15,16,17,18,19,20,21,22,23,24,25] M.out ?_;iterate 17 (first|refine sP rfl ?_ | refine sG rfl ?_ | refine sU rfl ?_ | refine sN rfl ?_)
     refine stillS_nil ?_;refine dD ?_;have C:=M.out.cl;simp only [Cl] at C;go_wp2;go_roundw
     case rel=>exact ⟨k+1,by omega,by go_num,⟨fun i hi=>by rcases Nat.lt_or_ge i k with h | h;exact HJ.out i h;obtain rfl:i=k:=(by omega);rw [<-HXX.out,H1.out,H2.out,<-HXP.out,decide_eq_true (show xp.cell < x.cell from Int.not_le.1 (of_decide_eq_false Y3.out)),Bool.or_true];rfl⟩,⟨M.out.pop.pop⟩⟩
     case measure=>simp [intOf];omega
    ·refine dS M.out ?_
     clear M C;intro W M;refine dN [0,1,2] M.out ?_;iterate 3 (first|refine sP rfl ?_ | refine sG rfl ?_ | refine sU rfl ?_ | refine sN rfl ?_)
     refine stillS_nil ?_;refine dC 3 rfl ?_;refine oEb (isPlace_calls _ _ _) Y1.out ?_;refine ⟨_,rfl,M,dA ?_⟩;refine dN [4,5,6,7] M.out ?_;iterate 4 (first|refine sP rfl ?_ | refine sG rfl ?_ | refine sU rfl ?_ | refine sN rfl ?_)
     refine stillS_nil ?_;refine dC 8 rfl ?_;refine oEb (isNum_calls _ _) Y2.out ?_;refine ⟨_,rfl,M,dA ?_⟩;refine dN [9,10,11,12,13,14,15,16,17,18,19,20,21,22,23,24,25] M.out ?_;iterate 17 (first|refine sP rfl ?_ | refine sG rfl ?_ | refine sU rfl ?_ | refine sN rfl ?_)
     refine stillS_nil ?_;refine dD ?_;have C:=M.out.cl;simp only [Cl] at C;go_wp2;go_ret;rw [show listOk xs n=false from allB_no hlt (by rw [<-HXX.out,<-HXP.out,decide_eq_false hk0,decide_eq_false (show ¬ xp.cell < x.cell from Int.not_lt.2 (of_decide_eq_true Y3.out)),Bool.false_or,Bool.and_false])];exact ⟨rfl,M.out.below⟩
  ·obtain rfl:k=xs.length:=by omega
   have q1:¬ (xs.length:Int) < (xs.length:Int):=by omega
   go_wp2;go_ret;rw [show listOk xs n=true from allB_iff.2 HJ.out];exact ⟨rfl,M.out.below⟩
def cellsB (s:Sys):Bool:=allB s.cells.length fun i=>(inB (cellAt s.cells i).num 0 99 && inB (cellAt s.cells i).time 0 s.clock)
theorem cellsOk_calls (s:Sys) (ss:List Value) (w:World) (hs:kSys.K w s ss) (hm:s.cells.length<=1048576):
  Calls Try.prog 62 #[.agg ss.toArray] w fun e w'=>e= .returned (.bool (cellsB s))/\Below w.heap.size w w':=by
 obtain ⟨A0,c0,A1,c1,A3,c3,rfl,-,g0,-,-,-⟩:=kSys_open hs;have G0:=am g0;clear hs g0;go_enter Try.func62,Try.ntmps62
 go_wp2_with (first
 |((with_reducible refine gate_dst (N:=1) rfl ?_);refine box_event rfl (N:=1) rfl (t:=27) (by go_simp<;>rfl) ?_;intro gs hg w2 hbox hb;have BS:=am hbox;have HB:=am hb;have BSc:=zc8 BS.out;clear hbox hb hg))
 go_loopw [8] (fun j w'=>∃ k:Nat,k<=s.cells.length/\j= .int .i64 k/\Aside0 (∀ i,i < k->(inB (cellAt s.cells i).num 0 99 && inB (cellAt s.cells i).time 0 s.clock)=true)/\Aside0 (w'.heap[gs]? = some (.cells #[.slice A0 s.cells.length c0,.slice A1 s.tasks.length c1,.int .i64 s.clock,.slice A3 s.log.length c3] 27 (0,0)))/\Aside0 (Below w.heap.size w w')) (fun j _=>s.cells.length - (intOf j).toNat)
 case atStart=>exact ⟨0,Nat.zero_le _,rfl,⟨fun i hi=>by omega⟩,BS,HB⟩
 case round=>
  clear BS HB BSc;obtain ⟨k,hk,rfl,HJ,BS,HB⟩:=hrel;have BSc:=zc8 BS.out;by_cases hlt:k < s.cells.length
  ·obtain ⟨bc,oc,cs,rfl,hcl,hK,hcc,-⟩:=C_field G0.out zCell k hlt (by decide)
   obtain ⟨c,hcx⟩:∃ x,x=cellAt s.cells k:=⟨_,rfl⟩;rw [show s.cells.getD k zCell=c from hcx.symm] at hK;have e:=kCell_open hK;subst e;have HC:=am hcc;have CX:=am hcx;have q0:(0:Int)<=(k:Int):=by omega
   have q1:(k:Int) < (s.cells.length:Int):=by omega
   clear hcl hK hcc hcx
   cases hb1:inB c.num 0 99 with
   | false=>
    have H1:Aside0 ((decide (0<=c.num) && decide (c.num < 100))=false):=⟨by rw [num_in,hb1]⟩;have H1b:=am hb1;clear hb1
    go_wp2_with (first
    |((with_reducible refine gate_dst (N:=11) rfl ?_);refine wpList_load_mid rfl 53 (.tmp 10) rfl bc (oc+k*3) rfl _ _ (fun j u hu=>cellB HB.out (HC.out j u hu)) Try.underlying53 rfl (by kernel_rfl) ?_)|((with_reducible refine gate_dst (N:=4) rfl ?_);refine box_event rfl (N:=4) rfl (t:=53) (by go_simp<;>rfl) ?_;intro gc hg wt hbox hb;have BC0:=am hbox;have GC:=am hg;have HBT:=am hb;clear hbox hb hg)|((with_reducible refine gate_store (t:=53) (p:=4) rfl ?_);refine store_block rfl rfl 53 (.tmp 4) (.tmp 11) rfl rfl rfl BC0.out rfl (by kernel_rfl) (aB rfl) ?_;intro wn hbox hg;have BC:=am hbox;have hbx:=pw_below_grown HBT.out _ HBT.out.size hg (fun z hz=>by cases hz;exact Nat.le_of_eq GC.out.symm);replace BS:=am (zb8 BS.out hbx);replace HB:=am (below_step HB.out hbx);clear BSc BC0 HBT hbx hbox hg;have BSc:=zc8 BS.out;have BCc:=zc8 BC.out)
    |(go_at_call 101;refine (isNum_calls _ _).mono ?_;rw [H1.out];rintro e w9 ⟨rfl,rfl⟩))
    go_ret;have hr:cellsB s=false:=allB_no hlt (by rw [<-CX.out,H1b.out,Bool.false_and]);rw [hr]
    exact ⟨rfl,HB.out⟩
   | true=>
    have H1:Aside0 ((decide (0<=c.num) && decide (c.num < 100))=true):=⟨by rw [num_in,hb1]⟩;have H1b:=am hb1;clear hb1;by_cases h0:c.time < 0
    ·have y0:decide (c.time < 0)=true:=decide_eq_true h0
     have H2:Aside0 (inB c.time 0 s.clock=false):=⟨by rw [Bool.eq_false_iff];intro h;have:=inB_iff.1 h;omega⟩;clear h0
     go_wp2_with (first
     |((with_reducible refine gate_dst (N:=11) rfl ?_);refine wpList_load_mid rfl 53 (.tmp 10) rfl bc (oc+k*3) rfl _ _ (fun j u hu=>cellB HB.out (HC.out j u hu)) Try.underlying53 rfl (by kernel_rfl) ?_)|((with_reducible refine gate_dst (N:=4) rfl ?_);refine box_event rfl (N:=4) rfl (t:=53) (by go_simp<;>rfl) ?_;intro gc hg wt hbox hb;have BC0:=am hbox;have GC:=am hg;have HBT:=am hb;clear hbox hb hg)|((with_reducible refine gate_store (t:=53) (p:=4) rfl ?_);refine store_block rfl rfl 53 (.tmp 4) (.tmp 11) rfl rfl rfl BC0.out rfl (by kernel_rfl) (aB rfl) ?_;intro wn hbox hg;have BC:=am hbox;have hbx:=pw_below_grown HBT.out _ HBT.out.size hg (fun z hz=>by cases hz;exact Nat.le_of_eq GC.out.symm);replace BS:=am (zb8 BS.out hbx);replace HB:=am (below_step HB.out hbx);clear BSc BC0 HBT hbx hbox hg;have BSc:=zc8 BS.out;have BCc:=zc8 BC.out)
     |(go_at_call 101;refine (isNum_calls _ _).mono ?_;rw [H1.out];rintro e w9 ⟨rfl,rfl⟩))
     go_ret;have hr:cellsB s=false:=allB_no hlt (by rw [<-CX.out,H2.out,Bool.and_false]);rw [hr];exact ⟨rfl,HB.out⟩
    ·have y0:decide (c.time < 0)=false:=decide_eq_false h0
     by_cases h1:s.clock < c.time
     ·have y1:decide (s.clock < c.time)=true:=decide_eq_true h1
      have H2:Aside0 (inB c.time 0 s.clock=false):=⟨by rw [Bool.eq_false_iff];intro h;have:=inB_iff.1 h;omega⟩;clear h0 h1
      go_wp2_with (first
      |((with_reducible refine gate_dst (N:=11) rfl ?_);refine wpList_load_mid rfl 53 (.tmp 10) rfl bc (oc+k*3) rfl _ _ (fun j u hu=>cellB HB.out (HC.out j u hu)) Try.underlying53 rfl (by kernel_rfl) ?_)|((with_reducible refine gate_dst (N:=4) rfl ?_);refine box_event rfl (N:=4) rfl (t:=53) (by go_simp<;>rfl) ?_;intro gc hg wt hbox hb;have BC0:=am hbox;have GC:=am hg;have HBT:=am hb;clear hbox hb hg)|((with_reducible refine gate_store (t:=53) (p:=4) rfl ?_);refine store_block rfl rfl 53 (.tmp 4) (.tmp 11) rfl rfl rfl BC0.out rfl (by kernel_rfl) (aB rfl) ?_;intro wn hbox hg;have BC:=am hbox;have hbx:=pw_below_grown HBT.out _ HBT.out.size hg (fun z hz=>by cases hz;exact Nat.le_of_eq GC.out.symm);replace BS:=am (zb8 BS.out hbx);replace HB:=am (below_step HB.out hbx);clear BSc BC0 HBT hbx hbox hg;have BSc:=zc8 BS.out;have BCc:=zc8 BC.out)
      |(go_at_call 101;refine (isNum_calls _ _).mono ?_;rw [H1.out];rintro e w9 ⟨rfl,rfl⟩))
      go_ret;have hr:cellsB s=false:=allB_no hlt (by rw [<-CX.out,H2.out,Bool.and_false]);rw [hr];exact ⟨rfl,HB.out⟩
     ·have y1:decide (s.clock < c.time)=false:=decide_eq_false h1
      have H2:Aside0 (inB c.time 0 s.clock=true):=⟨inB_iff.2 (by omega)⟩;clear h0 h1
      go_wp2_with (first
      |((with_reducible refine gate_dst (N:=11) rfl ?_);refine wpList_load_mid rfl 53 (.tmp 10) rfl bc (oc+k*3) rfl _ _ (fun j u hu=>cellB HB.out (HC.out j u hu)) Try.underlying53 rfl (by kernel_rfl) ?_)|((with_reducible refine gate_dst (N:=4) rfl ?_);refine box_event rfl (N:=4) rfl (t:=53) (by go_simp<;>rfl) ?_;intro gc hg wt hbox hb;have BC0:=am hbox;have GC:=am hg;have HBT:=am hb;clear hbox hb hg)|((with_reducible refine gate_store (t:=53) (p:=4) rfl ?_);refine store_block rfl rfl 53 (.tmp 4) (.tmp 11) rfl rfl rfl BC0.out rfl (by kernel_rfl) (aB rfl) ?_;intro wn hbox hg;have BC:=am hbox;have hbx:=pw_below_grown HBT.out _ HBT.out.size hg (fun z hz=>by cases hz;exact Nat.le_of_eq GC.out.symm);replace BS:=am (zb8 BS.out hbx);replace HB:=am (below_step HB.out hbx);clear BSc BC0 HBT hbx hbox hg;have BSc:=zc8 BS.out;have BCc:=zc8 BC.out)
      |(go_at_call 101;refine (isNum_calls _ _).mono ?_;rw [H1.out];rintro e w9 ⟨rfl,rfl⟩))
      go_roundw
      case rel=>exact ⟨k+1,by omega,by go_num,⟨fun i hi=>by rcases Nat.lt_or_ge i k with h | h;exact HJ.out i h;obtain rfl:i=k:=(by omega);rw [<-CX.out,H1b.out,H2.out];rfl⟩,BS,HB⟩
      case measure=>simp [intOf];omega
  ·obtain rfl:k=s.cells.length:=by omega
   have q1:¬ (s.cells.length:Int) < (s.cells.length:Int):=by omega
   go_wp2;go_ret;have hr:cellsB s=true:=allB_iff.2 HJ.out;rw [hr];exact ⟨rfl,HB.out⟩
theorem upOk_calls (s:Sys) (ss:List Value) (i:Nat) (w:World) (hs:kSys.K w s ss) (hi:i < s.tasks.length) (hn:s.tasks.length<=1048576):
  Calls Try.prog 65 #[.agg ss.toArray,.int .i64 i] w fun e w'=>e= .returned (.bool (upsOk s i))/\Below w.heap.size w w':=by
 obtain ⟨A0,c0,A1,c1,A3,c3,rfl,-,-,-,g1,-⟩:=kSys_open hs;have G1:=am g1;obtain ⟨b,o,cs,rfl,hcl,hK,hcc,-⟩:=C_field g1 zTask i hi (by decide);obtain ⟨t,ht⟩:∃ x,x=taskAt s.tasks i:=⟨_,rfl⟩;rw [show s.tasks.getD i zTask=t from ht.symm] at hK;have hK0:=hK;obtain ⟨B3,d3,B8,d8,B9,d9,B10,d10,rfl,-⟩:=kTask_open hK;have HCC:=am hcc;have HK:=am hK0;have q0:(0:Int)<=(i:Int):=by omega
 have q1:(i:Int) < (s.tasks.length:Int):=by omega
 have HU:Aside0 (upsOk s i=if i=0 then decide (t.up= -1) else inB t.up 0 (i - 1) && (!isLive t || decide ((taskAt s.tasks t.up.toNat).way=1))):=⟨by rw [ht];rfl⟩;clear hs g1 hcl hK hK0 hcc ht;go_enter Try.func65,Try.ntmps65;by_cases h0:i=0
 ·have y0:((i:Int) == 0)=true:=by simp [h0]
  have y0':(i == 0)=true:=by simp [h0]
  have H0:=am h0;clear h0
  go_wp2_with (first
  |((with_reducible refine gate_dst (N:=2) rfl ?_);refine box_event rfl (N:=2) rfl (t:=27) (by go_simp<;>rfl) ?_;intro gs hg w2 hbox hb;have BS:=am hbox;have HB:=am hb;have BSc:=zc8 BS.out;clear hbox hb hg)
  |((with_reducible refine gate_dst (N:=10) rfl ?_);refine wpList_load_mid rfl 38 (.tmp 9) rfl b (o+i*13) rfl _ _ (fun j u hu=>cellB HB.out (HCC.out j u hu)) Try.underlying38 rfl (by kernel_rfl) ?_)|((with_reducible refine gate_dst (N:=5) rfl ?_);refine box_event rfl (N:=5) rfl (t:=38) (by go_simp<;>rfl) ?_;intro gt hg wt hbox hb;have BT0:=am hbox;have GT:=am hg;have HBT:=am hb;clear hbox hb hg)|((with_reducible refine gate_store (t:=38) (p:=5) rfl ?_);refine store_block rfl rfl 38 (.tmp 5) (.tmp 10) rfl rfl rfl BT0.out rfl (by kernel_rfl) (aB rfl) ?_;intro wn hbox hg;have BT:=am hbox;have hbx:=pw_below_grown HBT.out _ HBT.out.size hg (fun z hz=>by cases hz;exact Nat.le_of_eq GT.out.symm);replace BS:=am (zb8 BS.out hbx);replace HB:=am (below_step HB.out hbx);clear BSc BT0 HBT hbx hbox hg;have BSc:=zc8 BS.out;have BTc:=zc8 BT.out))
  go_ret
  have hr:upsOk s i=(t.up == -1):=by
   rw [HU.out];rw [if_pos H0.out,Bool.eq_iff_iff,decide_eq_true_eq,beq_iff_eq]
  rw [hr];exact ⟨rfl,HB.out⟩
 ·have y0:((i:Int) == 0)=false:=by simp [h0]
  have y0':(i == 0)=false:=by simp [h0]
  have H0:=am h0;clear h0
  cases hb1:inB t.up 0 ((i:Int) - 1) with
  | false=>
   have H1:Aside0 ((decide (0<=t.up) && decide (t.up < (i:Int)))=false):=⟨by rw [place_in,hb1]⟩;have H1b:=am hb1;clear hb1
   go_wp2_with (first
   |((with_reducible refine gate_dst (N:=2) rfl ?_);refine box_event rfl (N:=2) rfl (t:=27) (by go_simp<;>rfl) ?_;intro gs hg w2 hbox hb;have BS:=am hbox;have HB:=am hb;have BSc:=zc8 BS.out;clear hbox hb hg)
   |((with_reducible refine gate_dst (N:=10) rfl ?_);refine wpList_load_mid rfl 38 (.tmp 9) rfl b (o+i*13) rfl _ _ (fun j u hu=>cellB HB.out (HCC.out j u hu)) Try.underlying38 rfl (by kernel_rfl) ?_)|((with_reducible refine gate_dst (N:=5) rfl ?_);refine box_event rfl (N:=5) rfl (t:=38) (by go_simp<;>rfl) ?_;intro gt hg wt hbox hb;have BT0:=am hbox;have GT:=am hg;have HBT:=am hb;clear hbox hb hg)|((with_reducible refine gate_store (t:=38) (p:=5) rfl ?_);refine store_block rfl rfl 38 (.tmp 5) (.tmp 10) rfl rfl rfl BT0.out rfl (by kernel_rfl) (aB rfl) ?_;intro wn hbox hg;have BT:=am hbox;have hbx:=pw_below_grown HBT.out _ HBT.out.size hg (fun z hz=>by cases hz;exact Nat.le_of_eq GT.out.symm);replace BS:=am (zb8 BS.out hbx);replace HB:=am (below_step HB.out hbx);clear BSc BT0 HBT hbx hbox hg;have BSc:=zc8 BS.out;have BTc:=zc8 BT.out)
   |(go_at_call 51;refine (isPlace_calls _ _ _).mono ?_;rw [H1.out];rintro e w9 ⟨rfl,rfl⟩))
   go_ret
   have hr:upsOk s i=false:=by
    rw [HU.out];rw [if_neg H0.out,H1b.out,Bool.false_and]
   rw [hr]
   exact ⟨rfl,HB.out⟩
  | true=>
   have H1:Aside0 ((decide (0<=t.up) && decide (t.up < (i:Int)))=true):=⟨by rw [place_in,hb1]⟩;have H1b:=am hb1;have hu:=inB_iff.1 hb1;clear hb1
   cases hlv:isLive t with
   | false=>
    have LV:=am hlv;clear hlv hu
    go_wp2_with (first
    |((with_reducible refine gate_dst (N:=2) rfl ?_);refine box_event rfl (N:=2) rfl (t:=27) (by go_simp<;>rfl) ?_;intro gs hg w2 hbox hb;have BS:=am hbox;have HB:=am hb;have BSc:=zc8 BS.out;clear hbox hb hg)
    |((with_reducible refine gate_dst (N:=10) rfl ?_);refine wpList_load_mid rfl 38 (.tmp 9) rfl b (o+i*13) rfl _ _ (fun j u hu=>cellB HB.out (HCC.out j u hu)) Try.underlying38 rfl (by kernel_rfl) ?_)|((with_reducible refine gate_dst (N:=5) rfl ?_);refine box_event rfl (N:=5) rfl (t:=38) (by go_simp<;>rfl) ?_;intro gt hg wt hbox hb;have BT0:=am hbox;have GT:=am hg;have HBT:=am hb;clear hbox hb hg)|((with_reducible refine gate_store (t:=38) (p:=5) rfl ?_);refine store_block rfl rfl 38 (.tmp 5) (.tmp 10) rfl rfl rfl BT0.out rfl (by kernel_rfl) (aB rfl) ?_;intro wn hbox hg;have BT:=am hbox;have hbx:=pw_below_grown HBT.out _ HBT.out.size hg (fun z hz=>by cases hz;exact Nat.le_of_eq GT.out.symm);replace BS:=am (zb8 BS.out hbx);replace HB:=am (below_step HB.out hbx);clear BSc BT0 HBT hbx hbox hg;have BSc:=zc8 BS.out;have BTc:=zc8 BT.out)
    |(go_at_call 51;refine (isPlace_calls _ _ _).mono ?_;rw [H1.out];rintro e w9 ⟨rfl,rfl⟩)
    |((with_reducible refine gate_dst (N:=21) rfl ?_);refine wpList_load_mid rfl 38 (.tmp 5) rfl gt 0 rfl _ _ (lC BT.out) Try.underlying38 rfl (by kernel_rfl) ?_)
    |(go_at_call 46;refine (live_calls t _ _ (kTask.K_below HB.out HK.out)).mono ?_;rw [LV.out];rintro e w9 ⟨rfl,hb⟩;replace BS:=am (zb8 BS.out hb);replace BT:=am (zb8 BT.out hb);replace HB:=am (below_step HB.out hb);clear BSc BTc hb;have BSc:=zc8 BS.out;have BTc:=zc8 BT.out))
    go_ret
    have hr:upsOk s i=true:=by
     rw [HU.out];rw [if_neg H0.out,H1b.out,LV.out];rfl
    rw [hr]
    exact ⟨rfl,HB.out⟩
   | true=>
    have LV:=am hlv;clear hlv;obtain ⟨u,hu0⟩:=Int.eq_ofNat_of_zero_le hu.1;have hul:u < s.tasks.length:=by omega
    have r0:(0:Int)<=t.up:=hu.1;have r1:t.up < (s.tasks.length:Int):=by omega
    have r4:t.up.toNat=u:=by omega
    obtain ⟨b',o',cs',he,hcl,hK,hcc,-⟩:=C_field G1.out zTask u hul (by decide);cases he;obtain ⟨wy,hwy⟩:∃ x,x=(taskAt s.tasks u).way:=⟨_,rfl⟩;rw [show s.tasks.getD u zTask=taskAt s.tasks u from rfl] at hK;obtain ⟨E3,f3,E8,f8,E9,f9,E10,f10,rfl,-⟩:=kTask_open hK;have pw:=hcc 4 _ rfl;simp only [show kTask.sz=13 from rfl] at pw;rw [<-hwy] at pw;have PW:=am pw;have HWY:=am hwy;clear hcl hK hcc pw hwy hu hu0
    go_wp2_with (first
    |((with_reducible refine gate_dst (N:=2) rfl ?_);refine box_event rfl (N:=2) rfl (t:=27) (by go_simp<;>rfl) ?_;intro gs hg w2 hbox hb;have BS:=am hbox;have HB:=am hb;have BSc:=zc8 BS.out;clear hbox hb hg)
    |((with_reducible refine gate_dst (N:=10) rfl ?_);refine wpList_load_mid rfl 38 (.tmp 9) rfl b (o+i*13) rfl _ _ (fun j u hu=>cellB HB.out (HCC.out j u hu)) Try.underlying38 rfl (by kernel_rfl) ?_)|((with_reducible refine gate_dst (N:=5) rfl ?_);refine box_event rfl (N:=5) rfl (t:=38) (by go_simp<;>rfl) ?_;intro gt hg wt hbox hb;have BT0:=am hbox;have GT:=am hg;have HBT:=am hb;clear hbox hb hg)|((with_reducible refine gate_store (t:=38) (p:=5) rfl ?_);refine store_block rfl rfl 38 (.tmp 5) (.tmp 10) rfl rfl rfl BT0.out rfl (by kernel_rfl) (aB rfl) ?_;intro wn hbox hg;have BT:=am hbox;have hbx:=pw_below_grown HBT.out _ HBT.out.size hg (fun z hz=>by cases hz;exact Nat.le_of_eq GT.out.symm);replace BS:=am (zb8 BS.out hbx);replace HB:=am (below_step HB.out hbx);clear BSc BT0 HBT hbx hbox hg;have BSc:=zc8 BS.out;have BTc:=zc8 BT.out)
    |(go_at_call 51;refine (isPlace_calls _ _ _).mono ?_;rw [H1.out];rintro e w9 ⟨rfl,rfl⟩)
    |((with_reducible refine gate_dst (N:=21) rfl ?_);refine wpList_load_mid rfl 38 (.tmp 5) rfl gt 0 rfl _ _ (lC BT.out) Try.underlying38 rfl (by kernel_rfl) ?_)
    |(go_at_call 46;refine (live_calls t _ _ (kTask.K_below HB.out HK.out)).mono ?_;rw [LV.out];rintro e w9 ⟨rfl,hb⟩;replace BS:=am (zb8 BS.out hb);replace BT:=am (zb8 BT.out hb);replace HB:=am (below_step HB.out hb);clear BSc BTc hb;have BSc:=zc8 BS.out;have BTc:=zc8 BT.out;have pww:=cellB HB.out PW.out))
    go_ret
    have hr:upsOk s i=(wy == 1):=by
     rw [HU.out];rw [if_neg H0.out,H1b.out,r4,<-HWY.out,LV.out];rw [Bool.true_and,Bool.not_true,Bool.false_or,Bool.eq_iff_iff,decide_eq_true_eq,beq_iff_eq]
    rw [hr];exact ⟨rfl,HB.out⟩
def ActPost (p:Prog) (t:Task) (w:World) (e:Ending) (w':World):Prop:=∃ (a:Act) (vs:List Value),e= .returned (.tuple #[.agg vs.toArray,.bool (decide (t.pc < (actsAt p.bodies t.body.toNat).length))])/\kAct.K w' a vs/\Below w.heap.size w w'/\(t.pc < (actsAt p.bodies t.body.toNat).length->a=actAt (actsAt p.bodies t.body.toNat) t.pc.toNat)
theorem actAt_calls (p:Prog) (ps:List Value) (t:Task) (ts:List Value) (w:World) (hp:kProg.K w p ps) (ht:kTask.K w t ts) (hz:ProgSz p) (hb0:0<=t.body) (hb1:t.body < p.bodies.length) (hp0:0<=t.pc) (hp1:t.pc<=(actsAt p.bodies t.body.toNat).length):
  Calls Try.prog 104 #[.agg ps.toArray,.agg ts.toArray] w fun e w'=>ActPost p t w e w':=by
 obtain ⟨Ac,cc,Ab,cb,rfl,-,-,-,gb⟩:=kProg_open hp;obtain ⟨B3,d3,B8,d8,B9,d9,B10,d10,rfl,-⟩:=kTask_open ht;obtain ⟨kb,hkb0⟩:=Int.eq_ofNat_of_zero_le hb0;have hkb:kb < p.bodies.length:=by omega
 have v4:t.body.toNat=kb:=by omega
 obtain ⟨bb,ob,cs2,rfl,hcl2,hK2,hcc2,-⟩:=C_field gb ([]:List Act) kb hkb (by decide);obtain ⟨Aa,ca,rfl,la,ga2⟩:=hK2;rw [v4] at hp1;obtain ⟨acts,hacts⟩:∃ x,x=actsAt p.bodies kb:=⟨_,rfl⟩;rw [<-hacts] at hp1;have hal:acts.length<=1048576:=by rw [hacts,actsAt_eq hkb];exact (hz.acts _ (List.getElem_mem hkb)).1
 have p2:=hcc2 0 _ rfl;simp only [show (Kd.slice 108 kAct).sz=1 from rfl,Nat.mul_one,Nat.add_zero] at p2;rw [show p.bodies.getD kb []=acts from hacts.symm] at p2 ga2;have P2:=am p2;have GA:=am ga2;have HACT:=am hacts;have HV:=am v4;clear hp ht gb hkb0 hcl2 hcc2 la ga2 hacts p2 hz;go_enter Try.func104,Try.ntmps104;by_cases he:t.pc=(acts.length:Int)
 ·have y0:(t.pc == (acts.length:Int))=true:=by simp [he]
  have HD:Aside0 (decide (t.pc < (actsAt p.bodies t.body.toNat).length)=false):=⟨decide_eq_false (by rw [HV.out,<-HACT.out];omega)⟩;have HE:=am he;clear he
  go_wp2_with (first
  |((with_reducible refine gate_dst (N:=2) rfl ?_);refine box_event rfl (N:=2) rfl (t:=48) (by go_simp<;>rfl) ?_;intro gp hg w2 hbox hb;have BP:=am hbox;clear hbox hg;have HB2:=am hb;clear hb;have HB:=HB2;clear HB2;have BPc:=zc8 BP.out)
  |((with_reducible refine gate_dst (N:=3) rfl ?_);refine box_event rfl (N:=3) rfl (t:=38) (by go_simp<;>rfl) ?_;intro gt hg w3 hbox hb;have BT:=am hbox;clear hbox hg;replace BP:=am (zb8 BP.out hb);replace HB:=am (below_step HB.out hb);clear hb BPc;have BPc:=zc8 BP.out;have BTc:=zc8 BT.out)
  |((with_reducible refine gate_dst (N:=4) rfl ?_);refine box_event rfl (N:=4) rfl (t:=108) (by go_simp<;>rfl) ?_;intro ga hg w4 hbox hb;have BA:=am hbox;have LG:=am (show w.heap.size<=ga from Nat.le_trans HB.out.size (Nat.le_of_eq hg.symm));clear hbox hg;replace BP:=am (zb8 BP.out hb);replace BT:=am (zb8 BT.out hb);replace HB:=am (below_step HB.out hb);clear hb BPc BTc;have BPc:=zc8 BP.out;have BTc:=zc8 BT.out;have BAc:=zc8 BA.out;have LA:=am (blk_lt BA.out);have p2:=cellB HB.out P2.out)
  |((with_reducible refine gate_store (t:=108) (p:=4) rfl ?_);refine store_block rfl rfl 108 (.tmp 4) (.tmp 18) rfl rfl rfl BA.out rfl (by kernel_rfl) (aB rfl) ?_;intro wn hbox hg;have BF:=am hbox;replace HB:=am (pw_below_grown HB.out _ HB.out.size hg (fun z hz=>by cases hz;exact LG.out));clear BA BAc hbox hg))
  refine bodyPost_ret (results_ct Try.results104 _ wn ga 108 #[.int .i64 0,.slice none 0 0,.slice none 0 0,.int .i64 0] (0,0) _ rfl BF.out Try.underlying108 rfl (by kernel_rfl)) rfl ?_;exact ⟨zAct,_,by rw [HD.out];rfl,kAct_mk zAct (Nat.zero_le _) (C_nil _ _) (Nat.zero_le _) (C_nil _ _),HB.out,fun h=>absurd h (of_decide_eq_false HD.out)⟩
 ·have y0:(t.pc == (acts.length:Int))=false:=by simpa using he
  obtain ⟨kp,hkp⟩:=Int.eq_ofNat_of_zero_le hp0;have hkl:kp < acts.length:=by omega
  have v5:t.pc.toNat=kp:=by omega
  have HD:Aside0 (decide (t.pc < (actsAt p.bodies t.body.toNat).length)=true):=⟨decide_eq_true (by rw [HV.out,<-HACT.out];omega)⟩;have hpl:t.pc < (acts.length:Int):=by omega
  obtain ⟨ba,oa,cs,rfl,hcl,hK,hcc,-⟩:=C_field GA.out zAct kp hkl (by decide);obtain ⟨a,hax⟩:∃ x,x=actAt acts kp:=⟨_,rfl⟩;rw [show acts.getD kp zAct=a from hax.symm] at hK;have HK:=am hK;obtain ⟨Ad,cd,Ak,ck,rfl,-⟩:=kAct_open hK;have HAC:=am hcc;have AX:=am hax;have V5:=am v5;clear he hkp hcl hK hcc hax
  go_wp2_with (first
  |((with_reducible refine gate_dst (N:=2) rfl ?_);refine box_event rfl (N:=2) rfl (t:=48) (by go_simp<;>rfl) ?_;intro gp hg w2 hbox hb;have BP:=am hbox;clear hbox hg;have HB2:=am hb;clear hb;have HB:=HB2;clear HB2;have BPc:=zc8 BP.out)
  |((with_reducible refine gate_dst (N:=3) rfl ?_);refine box_event rfl (N:=3) rfl (t:=38) (by go_simp<;>rfl) ?_;intro gt hg w3 hbox hb;have BT:=am hbox;clear hbox hg;replace BP:=am (zb8 BP.out hb);replace HB:=am (below_step HB.out hb);clear hb BPc;have BPc:=zc8 BP.out;have BTc:=zc8 BT.out)
  |((with_reducible refine gate_dst (N:=4) rfl ?_);refine box_event rfl (N:=4) rfl (t:=108) (by go_simp<;>rfl) ?_;intro ga hg w4 hbox hb;have BA:=am hbox;have LG:=am (show w.heap.size<=ga from Nat.le_trans HB.out.size (Nat.le_of_eq hg.symm));clear hbox hg;replace BP:=am (zb8 BP.out hb);replace BT:=am (zb8 BT.out hb);replace HB:=am (below_step HB.out hb);clear hb BPc BTc;have BPc:=zc8 BP.out;have BTc:=zc8 BT.out;have BAc:=zc8 BA.out;have LA:=am (blk_lt BA.out);have p2:=cellB HB.out P2.out)
  |((with_reducible refine gate_dst (N:=23) rfl ?_);refine wpList_load_mid rfl 108 (.tmp 22) rfl ba (oa+kp*4) rfl _ _ (fun j u hu=>cellB HB.out (HAC.out j u hu)) Try.underlying108 rfl (by kernel_rfl) ?_)
  |((with_reducible refine gate_store (t:=108) (p:=4) rfl ?_);refine store_block rfl rfl 108 (.tmp 4) (.tmp 23) rfl rfl rfl BA.out rfl (by kernel_rfl) (aB rfl) ?_;intro wn hbox hg;have BF:=am hbox;replace HB:=am (pw_below_grown HB.out _ HB.out.size hg (fun z hz=>by cases hz;exact LG.out));clear BA BAc hbox hg))
  refine bodyPost_ret (results_ct Try.results104 _ wn ga 108 #[.int .i64 a.kind,.slice Ad a.deeds.length cd,.slice Ak a.kids.length ck,.int .i64 a.reg] (0,0) _ rfl BF.out Try.underlying108 rfl (by kernel_rfl)) rfl ?_;exact ⟨a,_,by rw [HD.out];rfl,kAct.K_below HB.out HK.out,HB.out,fun _=>by rw [AX.out,HACT.out,V5.out,HV.out]⟩
end Go.Proofs.Ytimamoimphjakaa.Eq



namespace Go.Proofs.Ytimamoimphjakaa.Rd
open Go.RowKit Go.Proofs.YtimamoimphjakaaW.PrintWords
open Go.Proofs.Ytimamoimphjakaa.Eq (Deed kDeed kAct)
theorem wrap_in {x:Int} (h0:0<=x) (h1:x<=1099511627776):wrap64 x=x:=by unfold wrap64;omega
end Go.Proofs.Ytimamoimphjakaa.Rd
namespace Go.Proofs.Ytimamoimphjakaa.Eq
open Go.RowKit Go.Proofs.YtimamoimphjakaaW.PrintWords Go.Proofs.YtimamoimphjakaaW.PrintLast Go.Proofs.YtimamoimphjakaaW.PrintMore
def placeB (x n:Int):Bool:=decide (0<=x) && decide (x < n)
def timedB (s:Sys) (t:Task):Bool:=decide (t.since < t.when_) && decide (t.when_<=s.clock)
def restB (s:Sys) (t:Task) (deeds:Int):Bool:=
 if t.stage=1 then decide (0<=t.at_) && decide (t.at_<=deeds) && (t.when_ == 0)
 else if t.stage=2 then placeB t.at_ t.puts.length && (t.when_ == 0)
 else if t.stage=3 then decide (0 < t.puts.length) && (t.at_ == 0) && (t.when_ == 0)
 else if t.stage=4 then decide (0 < t.puts.length) && decide (0<=t.at_) && decide (t.at_<=(t.reads.length:Int)) && timedB s t
 else if t.stage=5 then placeB t.at_ t.puts.length && timedB s t
 else false
def stageB (p:Prog) (s:Sys) (t:Task):Bool:=
 if t.stage=0 then (t.at_ == 0) && ((t.reads.length:Int) == 0) && ((t.puts.length:Int) == 0) && decide (0<=t.when_) && decide (t.when_<=s.clock+1)
 else !(t.way != 0) && decide (t.pc < (actsAt p.bodies t.body.toNat).length) && !((actAt (actsAt p.bodies t.body.toNat) t.pc.toNat).kind != 1) && restB s t (actAt (actsAt p.bodies t.body.toNat) t.pc.toNat).deeds.length
theorem stage0F {q:Prop} (h:q:=by
  go_wp2_with ((first|with_reducible refine gB ?_ | with_reducible refine gA ?_);refine oB rfl M.out ?_;clear M C;intro g W M C;simp only [Cl] at C)
  go_ret;rw [HU.out];exact ⟨rfl,M.out.below⟩):q:=h
theorem stageEF {q:Prop} (h:q:=by
  go_wp2;go_ret;rw [HU.out];exact ⟨rfl,M.out.below⟩):q:=h
theorem stage1F {q:Prop} (h:q:=by
  go_wp2_with (go_at_call 51;refine oEb (isPlace_calls _ _ _) ZP.out ?_)
  go_ret;rw [HU.out,RR.out];exact ⟨rfl,M.out.below⟩):q:=h
theorem stageOk_calls (p:Prog) (ps:List Value) (s:Sys) (ss:List Value) (t:Task) (ts:List Value) (w:World) (hp:kProg.K w p ps) (hs:kSys.K w s ss) (ht:kTask.K w t ts) (hz:ProgSz p) (hk:0<=s.clock/\s.clock<=200) (hbd:0<=t.body/\t.body < p.bodies.length) (hpc:0<=t.pc/\t.pc<=(actsAt p.bodies t.body.toNat).length):
  Calls Try.prog 64 #[.agg ps.toArray,.agg ss.toArray,.agg ts.toArray] w fun e w'=>e= .returned (.bool (stageB p s t))/\Below w.heap.size w w':=by
 have HPK:=am hp;have HTK:=am ht;have HPZ:=am hz;have HBD:=am hbd;have HPC:=am hpc;obtain ⟨Ac,cc,Ab,cb,rfl,-⟩:=kProg_open hp;obtain ⟨A0,c0,A1,c1,A3,c3,rfl,-⟩:=kSys_open hs;obtain ⟨B3,d3,B8,d8,B9,d9,B10,d10,rfl,-⟩:=kTask_open ht;have wc:wrap64 (s.clock+1)=s.clock+1:=Rd.wrap_in (by omega) (by omega);have M:=am (Own.nil w);have C:=M.out.cl;clear hp hs ht hz hbd hpc hk;by_cases h0:t.stage=0
 ·have ys:(t.stage == 0)=true:=by simp [h0]
  obtain ⟨b0,y0⟩:∃ b,(t.at_ == 0)=b:=⟨_,rfl⟩;obtain ⟨b1,y1⟩:∃ b,((t.reads.length:Int) == 0)=b:=⟨_,rfl⟩;obtain ⟨b2,y2⟩:∃ b,((t.puts.length:Int) == 0)=b:=⟨_,rfl⟩;obtain ⟨b3,y3⟩:∃ b,decide (0<=t.when_)=b:=⟨_,rfl⟩;have HU:Aside0 (stageB p s t=(b0 && b1 && b2 && b3 && decide (t.when_<=s.clock+1))):=⟨by unfold stageB;rw [if_pos h0,y0,y1,y2,y3]⟩;clear h0;go_enter Try.func64,Try.ntmps64;cases b0;exact stage0F;cases b1;exact stage0F;cases b2;exact stage0F;cases b3;exact stage0F;exact stage0F
 ·have ys:(t.stage == 0)=false:=by simpa using h0
  obtain ⟨bt,yt⟩:∃ b,decide (t.pc < (actsAt p.bodies t.body.toNat).length)=b:=⟨_,rfl⟩;have YT:=am yt;obtain ⟨a0,ha0⟩:∃ x,x=actAt (actsAt p.bodies t.body.toNat) t.pc.toNat:=⟨_,rfl⟩;have HA0:=am ha0;obtain ⟨b5,y5⟩:∃ b,decide (t.since < t.when_)=b:=⟨_,rfl⟩;obtain ⟨bw,yw⟩:∃ b,(t.way != 0)=b:=⟨_,rfl⟩;obtain ⟨bk,yk⟩:∃ b,(a0.kind != 1)=b:=⟨_,rfl⟩;have HU:Aside0 (stageB p s t=(!bw && bt && !bk && restB s t a0.deeds.length)):=⟨by unfold stageB;rw [if_neg h0,yw,yt,<-ha0,yk]⟩;have Y5:=am y5;clear h0 yt ha0;go_enter Try.func64,Try.ntmps64
  go_upto_region 4 with (first
  |((first|with_reducible refine gB ?_ | with_reducible refine gA ?_);refine oB rfl M.out ?_;clear M C;intro g W M C;simp only [Cl] at C)
  |((with_reducible refine gL ?_);refine oL rfl rfl M.out ?_)
  |((with_reducible refine gS ?_);refine oS rfl rfl rfl M.out ?_;clear M C;intro W M C;simp only [Cl] at C)
  |(go_at_call 104;refine (actAt_calls p _ t _ _ (kProg.K_below M.out.below HPK.out) (kTask.K_below M.out.below HTK.out) HPZ.out HBD.out.1 HBD.out.2 HPC.out.1 HPC.out.2).mono ?_;rintro e W ⟨a,vs,rfl,hk,hb,ha⟩;obtain ⟨Ad,cd,Ak,ck,rfl,-⟩:=kAct_open hk;rw [YT.out];replace M:=am (M.out.step hb);have HAA:=am ha;clear C hk hb ha;have C:=M.out.cl;simp only [Cl] at C))
  cases bw
  case true=>exact stageEF
  cases bt
  case false=>exact stageEF
  obtain rfl:a=a0:=(by rw [HA0.out];exact HAA.out (of_decide_eq_true YT.out));cases bk
  case true=>exact stageEF
  go_upto_region 6 with fail;cases b5
  all_goals
   refine dS M.out ?_;clear M C;intro W M;refine dN [0,1,2,3,4,5,6,7,8,9,10,11,12,13,14,15,16] M.out ?_;iterate 17 (first|refine sP rfl ?_ | refine sG rfl ?_ | refine sU rfl ?_)
   refine stillS_nil ?_;refine dD ?_;have C:=M.out.cl;simp only [Cl] at C;by_cases h1:t.stage=1
   ·obtain ⟨n0,zn0⟩:∃ b,decide (0<=t.at_)=b:=⟨_,rfl⟩
    obtain ⟨n1,zn1⟩:∃ b,decide (t.at_<=(a.deeds.length:Int))=b:=⟨_,rfl⟩;have RR:Aside0 (restB s t a.deeds.length=(n0 && n1 && (t.when_ == 0))):=⟨by unfold restB;rw [if_pos h1,zn0,zn1]⟩;have e1:(t.stage == 1)=true:=by simp [h1]
    clear h1;cases n0;exact stage1F;cases n1;exact stage1F;exact stage1F
   have e1:(t.stage == 1)=false:=by simpa using h1
   by_cases h2:t.stage=2
   ·obtain ⟨pl,zpl⟩:∃ b,placeB t.at_ t.puts.length=b:=⟨_,rfl⟩
    have RR:Aside0 (restB s t a.deeds.length=(pl && (t.when_ == 0))):=⟨by unfold restB;rw [if_neg h1,if_pos h2,zpl]⟩;have e2:(t.stage == 2)=true:=by simp [h2]
    have ZP:=am zpl;clear zpl;clear h2;cases pl;exact stage1F;exact stage1F
   have e2:(t.stage == 2)=false:=by simpa using h2
   by_cases h3:t.stage=3
   ·obtain ⟨n0,zn0⟩:∃ b,decide (0 < t.puts.length)=b:=⟨_,rfl⟩
    obtain ⟨n1,zn1⟩:∃ b,(t.at_ == 0)=b:=⟨_,rfl⟩;have RR:Aside0 (restB s t a.deeds.length=(n0 && n1 && (t.when_ == 0))):=⟨by unfold restB;rw [if_neg h1,if_neg h2,if_pos h3,zn0,zn1]⟩;have e3:(t.stage == 3)=true:=by simp [h3]
    clear h3;cases n0;exact stage1F;cases n1;exact stage1F;exact stage1F
   have e3:(t.stage == 3)=false:=by simpa using h3
   by_cases h4:t.stage=4
   ·obtain ⟨n0,zn0⟩:∃ b,decide (0 < t.puts.length)=b:=⟨_,rfl⟩
    obtain ⟨n1,zn1⟩:∃ b,decide (0<=t.at_)=b:=⟨_,rfl⟩;obtain ⟨n2,zn2⟩:∃ b,decide (t.at_<=(t.reads.length:Int))=b:=⟨_,rfl⟩;have RR:Aside0 (restB s t a.deeds.length=(n0 && n1 && n2 && (_ && decide (t.when_<=s.clock)))):=⟨by unfold restB;rw [if_neg h1,if_neg h2,if_neg h3,if_pos h4,zn0,zn1,zn2];unfold timedB;rw [Y5.out]⟩;have e4:(t.stage == 4)=true:=by simp [h4]
    clear h4;cases n0;exact stage1F;cases n1;exact stage1F;cases n2;exact stage1F;exact stage1F
   have e4:(t.stage == 4)=false:=by simpa using h4
   by_cases h5:t.stage=5
   ·obtain ⟨pl,zpl⟩:∃ b,placeB t.at_ t.puts.length=b:=⟨_,rfl⟩
    have RR:Aside0 (restB s t a.deeds.length=(pl && (_ && decide (t.when_<=s.clock)))):=⟨by unfold restB;rw [if_neg h1,if_neg h2,if_neg h3,if_neg h4,if_pos h5,zpl];unfold timedB;rw [Y5.out]⟩;have e5:(t.stage == 5)=true:=by simp [h5]
    have ZP:=am zpl;clear zpl;clear h5;cases pl;exact stage1F;exact stage1F
   have e5:(t.stage == 5)=false:=by simpa using h5
   have RR:Aside0 (restB s t a.deeds.length=false):=⟨by unfold restB;rw [if_neg h1,if_neg h2,if_neg h3,if_neg h4,if_neg h5]⟩;clear h1 h2 h3 h4 h5;exact stage1F
def formB (p:Prog) (s:Sys) (t:Task):Bool:=
 placeB t.body p.bodies.length && !decide (t.pc < 0) && !decide (((actsAt p.bodies t.body.toNat).length:Int) < t.pc) && !decide (t.way < 0) && !decide (4 < t.way) && numsOk t.regs 3 && numsOk t.old 3 &&
 !decide (t.since < 0) && !decide (s.clock < t.since) && !decide (t.from_ < 0) && !decide ((s.log.length:Int) < t.from_) && listOk t.reads s.cells.length && listOk t.puts s.cells.length
theorem formOk_calls (p:Prog) (ps:List Value) (s:Sys) (ss:List Value) (t:Task) (ts:List Value) (w:World) (hp:kProg.K w p ps) (hs:kSys.K w s ss) (ht:kTask.K w t ts) (hz:t.regs.length<=1048576/\t.old.length<=1048576/\t.reads.length<=1048576/\t.puts.length<=1048576):
  Calls Try.prog 63 #[.agg ps.toArray,.agg ss.toArray,.agg ts.toArray] w fun e w'=>e= .returned (.bool (formB p s t))/\Below w.heap.size w w':=by
 obtain ⟨Ac,cc,Ab,cb,rfl,-,-,-,gb⟩:=kProg_open hp;obtain ⟨A0,c0,A1,c1,A3,c3,rfl,-⟩:=kSys_open hs;obtain ⟨B3,d3,B8,d8,B9,d9,B10,d10,rfl,-,g3,-,g8,-,g9,-,g10⟩:=kTask_open ht;have G:=am (And.intro g3 (And.intro g8 (And.intro g9 (And.intro g10 hz))));obtain ⟨b1,y1⟩:∃ b,placeB t.body p.bodies.length=b:=⟨_,rfl⟩;obtain ⟨b2,y2⟩:∃ b,decide (t.pc < 0)=b:=⟨_,rfl⟩;obtain ⟨b3,y3⟩:∃ b,decide (((actsAt p.bodies t.body.toNat).length:Int) < t.pc)=b:=⟨_,rfl⟩;obtain ⟨b4,y4⟩:∃ b,decide (t.way < 0)=b:=⟨_,rfl⟩;obtain ⟨b5,y5⟩:∃ b,decide (4 < t.way)=b:=⟨_,rfl⟩;obtain ⟨b6,y6⟩:∃ b,numsOk t.regs 3=b:=⟨_,rfl⟩;obtain ⟨b7,y7⟩:∃ b,numsOk t.old 3=b:=⟨_,rfl⟩;obtain ⟨b8,y8⟩:∃ b,decide (t.since < 0)=b:=⟨_,rfl⟩;obtain ⟨b9,y9⟩:∃ b,decide (s.clock < t.since)=b:=⟨_,rfl⟩;obtain ⟨c1',z1⟩:∃ b,decide (t.from_ < 0)=b:=⟨_,rfl⟩;obtain ⟨c2',z2⟩:∃ b,decide ((s.log.length:Int) < t.from_)=b:=⟨_,rfl⟩;obtain ⟨c3',z3⟩:∃ b,listOk t.reads s.cells.length=b:=⟨_,rfl⟩;have HU:Aside0 (formB p s t=(b1 && !b2 && !b3 && !b4 && !b5 && b6 && b7 && !b8 && !b9 && !c1' && !c2' && c3' && listOk t.puts s.cells.length)):=⟨by unfold formB;rw [y1,y2,y3,y4,y5,y6,y7,y8,y9,z1,z2,z3]⟩;have Y1:=am y1;have Y6:=am y6;have Y7:=am y7;have Z3:=am z3;have M:=am (Own.nil w);have C:=M.out.cl;have GB:=am gb;clear hp hs ht g3 g8 g9 g10 hz y1 y6 y7 z3 gb
 cases b1 with
 | false=>
  clear y2 y3 y4 y5 y8 y9 z1 z2;go_enter Try.func63,Try.ntmps63;go_wp2_with (refine oB rfl M.out ?_;clear M C;intro g W M C;simp only [Cl] at C)
  refine dS M.out ?_;clear M C;intro W M;refine dN [0,1,2,3,4] M.out ?_;iterate 5 refine sP rfl ?_
  refine stillS_nil ?_;refine dC 5 rfl ?_;refine oEb (isPlace_calls _ _ _) Y1.out ?_;refine ⟨_,rfl,M,dA (dN [6,7,8,9,10,11,12,13,14,15,16,17,18,19,20,21,22,23] M.out ?_)⟩;iterate 18 (first|refine sP rfl ?_ | refine sG rfl ?_ | refine sU rfl ?_)
  refine stillS_nil (dD ?_);have C:=M.out.cl;simp only [Cl] at C
  go_wp2_with (first
  |(go_at_call 102;refine oEb (regsOk_calls _ _ _ _ (by first|exact Kd.C_below G.out.1 M.out.below | exact Kd.C_below G.out.2.1 M.out.below) (by first|exact G.out.2.2.2.2.1 | exact G.out.2.2.2.2.2.1)) (by first|exact Y6.out | exact Y7.out) ?_)
  |(go_at_call 103;refine oCb M.out (putsOk_calls _ _ _ _ _ (by first|exact Kd.C_below G.out.2.2.1 M.out.below | exact Kd.C_below G.out.2.2.2.1 M.out.below) (by first|exact G.out.2.2.2.2.2.2.1 | exact G.out.2.2.2.2.2.2.2)) (by first|exact Z3.out | rfl) ?_;clear M C;intro W M C;simp only [Cl] at C))
  go_ret;rw [HU.out]
  exact ⟨rfl,M.out.below⟩
 | true=>
  have hb:=(Bool.and_eq_true_iff).1 (show (decide (0<=t.body) && decide (t.body < (p.bodies.length:Int)))=true from Y1.out);have hb0:0<=t.body:=of_decide_eq_true hb.1;have hb1:t.body < p.bodies.length:=of_decide_eq_true hb.2;obtain ⟨kb,hkb0⟩:=Int.eq_ofNat_of_zero_le hb0;have hkb:kb < p.bodies.length:=by omega
  have v4:t.body.toNat=kb:=by omega
  obtain ⟨bb,ob,cs2,rfl,hcl2,hK2,hcc2,-⟩:=C_field GB.out ([]:List Act) kb hkb (by decide);obtain ⟨Aa,ca,rfl,la,-⟩:=hK2;have p2:=hcc2 0 _ rfl;simp only [show (Kd.slice 108 kAct).sz=1 from rfl,Nat.mul_one,Nat.add_zero] at p2;rw [v4] at y3;rw [show (p.bodies.getD kb []).length=(actsAt p.bodies kb).length from rfl] at p2;generalize (actsAt p.bodies kb).length=na at p2 y3;replace M:=am (M.out.far p2);clear C hcl2 hcc2 p2 la hkb0 hb hkb;have C:=M.out.cl;simp only [Cl] at C;cases b2;cases b3;cases b4;cases b5;cases b6;rotate_left;cases b7;rotate_left;cases b8;cases b9;cases c1';cases c2';cases c3';rotate_left
  all_goals
   go_enter Try.func63,Try.ntmps63;go_wp2_with (refine oB rfl M.out ?_;clear M C;intro g W M C;simp only [Cl] at C)
   refine dS M.out ?_;clear M C;intro W M;refine dN [0,1,2,3,4] M.out ?_;iterate 5 refine sP rfl ?_
   refine stillS_nil ?_;refine dC 5 rfl ?_;refine oEb (isPlace_calls _ _ _) Y1.out ?_;refine ⟨_,rfl,M,dA (dN [6,7,8,9,10,11,12,13,14,15,16,17,18,19,20,21,22,23] M.out ?_)⟩;iterate 18 (first|refine sP rfl ?_ | refine sG rfl ?_ | refine sU rfl ?_)
   refine stillS_nil (dD ?_);have C:=M.out.cl;simp only [Cl] at C
   go_wp2_with (first
   |(go_at_call 102;refine oEb (regsOk_calls _ _ _ _ (by first|exact Kd.C_below G.out.1 M.out.below | exact Kd.C_below G.out.2.1 M.out.below) (by first|exact G.out.2.2.2.2.1 | exact G.out.2.2.2.2.2.1)) (by first|exact Y6.out | exact Y7.out) ?_)
   |(go_at_call 103;refine oCb M.out (putsOk_calls _ _ _ _ _ (by first|exact Kd.C_below G.out.2.2.1 M.out.below | exact Kd.C_below G.out.2.2.2.1 M.out.below) (by first|exact G.out.2.2.2.2.2.2.1 | exact G.out.2.2.2.2.2.2.2)) (by first|exact Z3.out | rfl) ?_;clear M C;intro W M C;simp only [Cl] at C))
   go_ret;rw [HU.out];exact ⟨rfl,M.out.below⟩
end Go.Proofs.Ytimamoimphjakaa.Eq
namespace Go.Proofs.Ytimamoimphjakaa.Eq
theorem mem_pickTo {p:Nat->Bool} {k:Nat} {x:Int}:x ∈ pickTo p k ↔ ∃ i:Nat,i < k/\p i=true/\x=(i:Int):=by
 simp only [pickTo,List.mem_map,List.mem_filter,List.mem_range];constructor
 ·rintro ⟨i,⟨h1,h2⟩,rfl⟩;exact ⟨i,h1,h2,rfl⟩
 ·rintro ⟨i,h1,h2,rfl⟩;exact ⟨i,⟨h1,h2⟩,rfl⟩
theorem mem_kids {ts:List Task} {t x:Int}:x ∈ kids ts t ↔ ∃ i:Nat,i < ts.length/\0<=t/\(taskAt ts i).up=t/\t < (i:Int)/\x=(i:Int):=by
 simp only [kids,mem_pickTo,isKid,Bool.and_eq_true,decide_eq_true_eq];constructor
 ·rintro ⟨i,h1,⟨⟨h2,h3⟩,h4⟩,rfl⟩;exact ⟨i,h1,h2,h3,h4,rfl⟩
 ·rintro ⟨i,h1,h2,h3,h4,rfl⟩;exact ⟨i,h1,⟨⟨h2,h3⟩,h4⟩,rfl⟩
theorem nodup_flat {α:Type} {β:Type} {g:α->List β}:∀ {l:List α},(∀ x ∈ l,(g x).Nodup)->l.Pairwise (fun a b=>∀ x,x ∈ g a->x ∈ g b->False)->((l.map g).flatten).Nodup
 | [],_,_=>by simp
 | a :: l,h1,h2=>by
  rw [List.map_cons,List.flatten_cons,List.nodup_append];rw [List.pairwise_cons] at h2;refine ⟨h1 a List.mem_cons_self,nodup_flat (fun x hx=>h1 x (List.mem_cons_of_mem _ hx)) h2.2,fun x hx y hy he=> ?_⟩;subst he;obtain ⟨m,hm,hxm⟩:=List.mem_flatten.1 hy;obtain ⟨b,hb,rfl⟩:=List.mem_map.1 hm;exact h2.1 b hb x hx hxm
end Go.Proofs.Ytimamoimphjakaa.Eq
namespace Go.Proofs.Ytimamoimphjakaa.Eq
open Go.RowKit Go.Proofs.YtimamoimphjakaaW.PrintWords Go.Proofs.YtimamoimphjakaaW.PrintLast Go.Proofs.YtimamoimphjakaaW.PrintMore
def begunTo (s:Sys) (ks:List Int) (n:Nat):Nat:=cntTo (fun j=> !decide ((taskAt s.tasks (rd ks j).toNat).way=4)) n
def wayB (p:Prog) (s:Sys) (i:Nat):Bool:=
 let t:=taskAt s.tasks i
 let acts:=actsAt p.bodies t.body.toNat
 if t.way=1 then decide (t.pc < acts.length) && ((actAt acts t.pc.toNat).kind == 2) && decide ((actAt acts t.pc.toNat).kids.length<=begunTo s (kids s.tasks i) (kids s.tasks i).length)
 else if t.way=2 then !decide (t.pc < acts.length) else true
theorem rd_mem {ks:List Int} {k:Nat} (h:k < ks.length):rd ks (k:Int) ∈ ks:=by
 unfold rd;rw [Int.toNat_natCast,List.getD_eq_getElem?_getD,List.getElem?_eq_getElem h];exact List.getElem_mem h
theorem wayEF {q:Prop} (h:q:=by
  go_wp2;go_ret;rw [HU.out];exact ⟨rfl,M.out.below⟩):q:=h
theorem wayLF {q:Prop} (h:q:=by
  go_wp2;go_ret;rw [HU.out];exact ⟨rfl,below_step HB0.out M.out.below⟩):q:=h
theorem wayOk_calls (p:Prog) (ps:List Value) (s:Sys) (ss:List Value) (i:Nat) (w:World) (hp:kProg.K w p ps) (hs:kSys.K w s ss) (hz:ProgSz p) (hi:i < s.tasks.length) (hn:s.tasks.length<=1048576) (hbd:0<=(taskAt s.tasks i).body/\(taskAt s.tasks i).body < p.bodies.length) (hpc:0<=(taskAt s.tasks i).pc/\(taskAt s.tasks i).pc<=(actsAt p.bodies (taskAt s.tasks i).body.toNat).length):
  Calls Try.prog 66 #[.agg ps.toArray,.agg ss.toArray,.int .i64 i] w fun e w'=>e= .returned (.bool (wayB p s i))/\Below w.heap.size w w':=by
 have HPK:=am hp;have HSK:=am hs;have HPZ:=am hz;have HN:=am hn;obtain ⟨Ac,cc,Ab,cb,rfl,-⟩:=kProg_open hp;obtain ⟨A0,c0,A1,c1,A3,c3,rfl,-,-,-,g1,-⟩:=kSys_open hs;obtain ⟨b,o,cs,rfl,hcl,hK,hcc,-⟩:=C_field g1 zTask i hi (by decide);obtain ⟨t,ht⟩:∃ x,x=taskAt s.tasks i:=⟨_,rfl⟩;rw [<-ht] at hbd hpc;rw [show s.tasks.getD i zTask=t from ht.symm] at hK;have HTK:=am hK;obtain ⟨B3,d3,B8,d8,B9,d9,B10,d10,rfl,-⟩:=kTask_open hK;have HC:=am hcc;have G1:=am g1;have HBD:=am hbd;have HPC:=am hpc;obtain ⟨bt,yt⟩:∃ b,decide (t.pc < (actsAt p.bodies t.body.toNat).length)=b:=⟨_,rfl⟩;have YT:=am yt;obtain ⟨a0,ha0⟩:∃ x,x=actAt (actsAt p.bodies t.body.toNat) t.pc.toNat:=⟨_,rfl⟩;have HA0:=am ha0;obtain ⟨ks,hks⟩:∃ x,x=kids s.tasks i:=⟨_,rfl⟩;have HKS:=am hks;have HU:Aside0 (wayB p s i=if t.way=1 then bt && (a0.kind == 2) && decide (a0.kids.length<=begunTo s ks ks.length) else if t.way=2 then !bt else true):=⟨by rw [hks,ha0,<-yt,ht];rfl⟩;have q0:(0:Int)<=(i:Int):=by omega
 have q1:(i:Int) < (s.tasks.length:Int):=by omega
 have M:=am (Own.nil w);have C:=M.out.cl;clear hp hs hz hK hcc hcl yt ha0 hks g1 hbd hpc hi hn ht;go_enter Try.func66,Try.ntmps66
 go_upto_region 3 with (first
 |((first|with_reducible refine gB ?_ | with_reducible refine gA ?_);refine oB rfl M.out ?_;clear M C;intro g W M C;simp only [Cl] at C)
 |((with_reducible refine gL ?_);refine oR rfl rfl M.out HC.out ?_)
 |((with_reducible refine gL ?_);refine oL rfl rfl M.out ?_)
 |((with_reducible refine gS ?_);refine oS rfl rfl rfl M.out ?_;clear M C;intro W M C;simp only [Cl] at C)
 |(go_at_call 104;refine (actAt_calls p _ t _ _ (kProg.K_below M.out.below HPK.out) (kTask.K_below M.out.below HTK.out) HPZ.out HBD.out.1 HBD.out.2 HPC.out.1 HPC.out.2).mono ?_;rintro e W ⟨a,vs,rfl,hk,hb,ha⟩;obtain ⟨Ad,cd,Ak,ck,rfl,-⟩:=kAct_open hk;rw [YT.out];have HAA:=am ha;clear hk ha;replace M:=am (M.out.step hb);clear C;have C:=M.out.cl;simp only [Cl] at C;clear hb))
 by_cases h1:t.way=1
 ·have y1:(t.way == 1)=true:=by simp [h1]
  replace HU:=am (HU.out.trans (if_pos h1));clear h1
  go_wp2_with (first
  |((first|with_reducible refine gB ?_ | with_reducible refine gA ?_);refine oB rfl M.out ?_;clear M C;intro g W M C;simp only [Cl] at C)
  |((with_reducible refine gL ?_);refine oR rfl rfl M.out HC.out ?_)
  |((with_reducible refine gL ?_);refine oL rfl rfl M.out ?_)
  |((with_reducible refine gS ?_);refine oS rfl rfl rfl M.out ?_;clear M C;intro W M C;simp only [Cl] at C)
  |(go_at_call 31;refine (implKids_calls s _ _ _ (kSys.K_below M.out.below HSK.out) HN.out).mono ?_;rintro e W1 ⟨v,rfl,hv,hb⟩;obtain ⟨A,c,rfl,-,hcv⟩:=Kd.R_reads hv;have HB0:=am (below_step M.out.below hb);have KX:=am hcv;clear hv hcv;have M1:=am (M.out.step hb).rebase;simp only [List.map_cons,List.map_nil,En.old] at M1;clear M C hb;have M:=M1;clear M1;have C:=M.out.cl;simp only [Cl] at C))
  rw [<-HKS.out] at KX ⊢;obtain ⟨L,EL,ML⟩:=Own.named M;go_loopw [10,12,32] (fun bv _ j w'=>∃ k:Nat,k<=ks.length/\bv= .int .i64 (begunTo s ks k:Nat)/\j= .int .i64 k/\Aside0 (Own W1 w' L)) (fun _ _ j _=>ks.length - (intOf j).toNat)
  case atStart=>exact ⟨0,Nat.zero_le _,rfl,rfl,ML⟩
  case round=>
   obtain ⟨k,hk,rfl,rfl,M2⟩:=hrel;have e:=EL.out;subst e;clear M C ML EL;have M:=M2;clear M2;have C:=M.out.cl;simp only [Cl] at C;by_cases hlt:k < ks.length
   ·have s0:(0:Int)<=(k:Int):=by omega
    have s1:(k:Int) < (ks.length:Int):=by omega
    obtain ⟨ad,ed,hx⟩:=Kd.at_int KX.out (k:Int) s0 s1;cases ed;simp only [Int.toNat_natCast] at hx;obtain ⟨n,hn,-,-,-,hkn⟩:=mem_kids.1 (show rd ks (k:Int) ∈ kids s.tasks i by rw [<-HKS.out];exact rd_mem hlt);rw [hkn] at hx;obtain ⟨b',o',cs',eb,hcl',hK',hcc',-⟩:=C_field (Kd.C_below G1.out HB0.out) zTask n hn (by decide);cases eb;obtain ⟨B3',d3',B8',d8',B9',d9',B10',d10',rfl,-⟩:=kTask_open hK';have p4:=hcc' 4 _ rfl;rw [show s.tasks.getD n zTask=taskAt s.tasks n from rfl] at p4;simp only [show kTask.sz=13 from rfl] at p4;have HL:ks.length<=1048576:=by rw [HKS.out];exact Nat.le_trans (pickTo_length _ _) HN.out
    replace M:=am ((M.out.far hx).far p4);clear C;have C:=M.out.cl;simp only [Cl] at C;have n0:(0:Int)<=(n:Int):=by omega
    have n1:(n:Int) < (s.tasks.length:Int):=by omega
    have hb:begunTo s ks (k+1)=begunTo s ks k+if (!decide ((taskAt s.tasks n).way=4)) then 1 else 0:=by
     show begunTo s ks k+(if (!decide ((taskAt s.tasks (rd ks (k:Int)).toNat).way=4)) then 1 else 0)=_;rw [hkn,Int.toNat_natCast]
    have hle:begunTo s ks k<=k:=cntTo_le _ _;have HX:=am (And.intro hb hle);clear hx hK' hcc' hcl' p4 hkn hb hle;by_cases h4:(taskAt s.tasks n).way=4
    ·have y4:((taskAt s.tasks n).way != 4)=false:=by simp [h4]
     go_wp2;go_roundw
     case rel=>exact ⟨k+1,by omega,by rw [HX.out.1,decide_eq_true h4];rfl,by go_num,⟨M.out.pop.pop⟩⟩
     case measure=>simp [intOf];omega
    ·have y4:((taskAt s.tasks n).way != 4)=true:=by simp [h4]
     go_wp2;go_roundw
     case rel=>exact ⟨k+1,by omega,by rw [HX.out.1,decide_eq_false h4,Rd.wrap_in (by omega) (by have:=HX.out.2;omega)];rfl,by go_num,⟨M.out.pop.pop⟩⟩
     case measure=>simp [intOf];omega
   ·obtain rfl:k=ks.length:=by omega
    have s1:¬ (ks.length:Int) < (ks.length:Int):=by omega
    cases bt
    case false=>exact wayLF
    obtain rfl:a=a0:=(by rw [HA0.out];exact HAA.out (of_decide_eq_true YT.out));obtain ⟨bk,yk⟩:∃ b,(a.kind == 2)=b:=⟨_,rfl⟩;rw [yk] at HU;cases bk
    case false=>exact wayLF
    exact wayLF
 ·have y1:(t.way == 1)=false:=by simpa using h1
  have HU1:=am (HU.out.trans (if_neg h1));clear h1 HU;by_cases h2:t.way=2
  ·have y2:(t.way == 2)=true:=by simp [h2]
   have HU:=am (HU1.out.trans (if_pos h2));exact wayEF
  ·have y2:(t.way == 2)=false:=by simpa using h2
   have HU:=am (HU1.out.trans (if_neg h2));exact wayEF
end Go.Proofs.Ytimamoimphjakaa.Eq
namespace Go.Proofs.Ytimamoimphjakaa.Eq
def must (t:Task):List Put:=if t.stage=2 then t.puts.take t.at_.toNat else if t.stage=3\/t.stage=4 then t.puts else if t.stage=5 then t.puts.drop t.at_.toNat else []
theorem asc_one {l:List Put} (h:l.Pairwise fun x y=>x.cell < y.cell) {i j:Nat} (hi:i < l.length) (hj:j < l.length) (he:l[i].cell=l[j].cell):i=j:=by
 rw [List.pairwise_iff_getElem] at h;rcases Nat.lt_trichotomy i j with h1 | h1 | h1
 ·have:=h i j hi hj h1
  omega
 ·exact h1
 ·have:=h j i hj hi h1
  omega
theorem findP_no {l:List Put} {c:Int} (h:findP l c=none):∀ x ∈ l,x.cell ≠ c:=by
 unfold findP at h;rw [List.findIdx?_eq_none_iff] at h;intro x hx;simpa using h x hx
theorem findP_yes {l:List Put} {c:Int} {i:Nat} (h:findP l c=some i):∃ hi:i < l.length,l[i].cell=c:=by
 unfold findP at h;rw [List.findIdx?_eq_some_iff_getElem] at h;exact ⟨h.1,by simpa using h.2.1⟩
theorem holds_must {n:Nat} {t:Task} (h:PutsIn n t.puts) (h0:0<=t.at_) {c:Int}:holds t c=true ↔ ∃ x ∈ must t,x.cell=c:=by
 unfold holds must
 cases hf:findP t.puts c with
 | none=>
  have hn:=findP_no hf;constructor
  ·intro hh
   cases hh
  ·rintro ⟨x,hx,hc⟩
   exfalso;refine hn x ?_ hc;split at hx
   ·exact List.mem_of_mem_take hx
   ·split at hx
    ·exact hx
    ·split at hx
     ·exact List.mem_of_mem_drop hx
     ·simp at hx
 | some i=>
  obtain ⟨hi,hc⟩:=findP_yes hf;have hone:∀ j (hj:j < t.puts.length),t.puts[j].cell=c->j=i:=fun j hj hjc=>asc_one h.asc hj hi (hjc.trans hc.symm)
  show (if t.stage=2 then decide ((i:Int) < t.at_) else if t.stage=3\/t.stage=4 then true else if t.stage=5 then decide (t.at_<=i) else false)=true ↔ _;by_cases h2:t.stage=2
  ·rw [if_pos h2,if_pos h2,decide_eq_true_eq]
   constructor
   ·intro hlt
    exact ⟨t.puts[i],by rw [List.mem_take_iff_getElem];exact ⟨i,by omega,rfl⟩,hc⟩
   ·rintro ⟨x,hx,hxc⟩
    rw [List.mem_take_iff_getElem] at hx;obtain ⟨j,hj,rfl⟩:=hx;have:=hone j (by omega) hxc;omega
  ·rw [if_neg h2,if_neg h2]
   by_cases h3:t.stage=3\/t.stage=4
   ·rw [if_pos h3,if_pos h3]
    exact ⟨fun _=>⟨_,List.getElem_mem hi,hc⟩,fun _=>rfl⟩
   ·rw [if_neg h3,if_neg h3]
    by_cases h5:t.stage=5
    ·rw [if_pos h5,if_pos h5,decide_eq_true_eq]
     constructor
     ·intro hle
      refine ⟨t.puts[i], ?_,hc⟩;rw [List.mem_iff_getElem];exact ⟨i - t.at_.toNat,by rw [List.length_drop];omega,by rw [List.getElem_drop];congr 1;omega⟩
     ·rintro ⟨x,hx,hxc⟩
      rw [List.mem_iff_getElem] at hx;obtain ⟨j,hj,rfl⟩:=hx;rw [List.length_drop] at hj;rw [List.getElem_drop] at hxc;have:=hone _ (by omega) hxc;omega
    ·rw [if_neg h5,if_neg h5]
     constructor
     ·intro hh
      cases hh
     ·rintro ⟨x,hx,_⟩
      simp at hx
theorem must_asc {n:Nat} {t:Task} (h:PutsIn n t.puts):(must t).Pairwise (fun x y=>x.cell < y.cell)/\∀ x ∈ must t,0<=x.cell/\x.cell < n:=by
 unfold must;split
 ·exact ⟨h.asc.take,fun x hx=>h.cell x (List.mem_of_mem_take hx)⟩
 ·split
  ·exact ⟨h.asc,h.cell⟩
  ·split
   ·exact ⟨h.asc.drop,fun x hx=>h.cell x (List.mem_of_mem_drop hx)⟩
   ·exact ⟨List.Pairwise.nil,fun x hx=>by simp at hx⟩
def place:List (Nat × Nat)->List Int->Option (List Int)
 | [],h=>some h
 | q :: l,h=>if numAt h q.1= -1 then place l (h.set q.1 q.2) else none
theorem place_free:∀ {l:List (Nat × Nat)} {h h':List Int},place l h=some h'->(∀ q ∈ l,q.1 < h.length)->∀ q ∈ l,numAt h q.1= -1
 | [],h,h',_,_=>fun q hq=>by simp at hq
 | a :: l,h,h',hp,hl=>by
  unfold place at hp;split at hp
  ·rename_i ha
   intro q hq;rcases List.mem_cons.1 hq with rfl | hq
   ·exact ha
   ·have:=place_free hp (fun q hq=>by rw [List.length_set];exact hl q (by simp [hq])) q hq
    rw [numAt_set (hl a (by simp))] at this;split at this
    ·omega
    ·exact this
  ·cases hp
theorem place_some:∀ {l:List (Nat × Nat)} {h h':List Int},place l h=some h'->(∀ q ∈ l,q.1 < h.length)->h'.length=h.length/\(∀ q ∈ l,numAt h' q.1=q.2)/\∀ c,(∀ q ∈ l,q.1 ≠ c)->numAt h' c=numAt h c
 | [],h,h',hp,_=>by
  unfold place at hp;cases hp
  exact ⟨rfl,fun q hq=>by simp at hq,fun _ _=>rfl⟩
 | a :: l,h,h',hp,hl=>by
  unfold place at hp;split at hp
  ·rename_i ha
   have hl':∀ q ∈ l,q.1 < (h.set a.1 a.2).length:=fun q hq=>by rw [List.length_set];exact hl q (by simp [hq])
   obtain ⟨h1,h2,h3⟩:=place_some hp hl';have h4:=place_free hp hl';refine ⟨by rw [h1,List.length_set],fun q hq=> ?_,fun c hc=> ?_⟩
   ·rcases List.mem_cons.1 hq with rfl | hq
    ·rw [h3 q.1 (fun r hr he=> ?_),numAt_set (hl q (by simp)),if_pos rfl]
     have:=h4 r hr
     rw [he,numAt_set (hl q (by simp)),if_pos rfl] at this;omega
    ·exact h2 q hq
   ·rw [h3 c (fun q hq=>hc q (by simp [hq])),numAt_set (hl a (by simp)),if_neg (hc a (by simp))]
  ·cases hp
theorem place_can:∀ {l:List (Nat × Nat)} {h:List Int},(∀ q ∈ l,q.1 < h.length/\numAt h q.1= -1)->(l.map Prod.fst).Nodup->∃ h',place l h=some h'
 | [],h,_,_=>⟨h,rfl⟩
 | a :: l,h,hl,hn=>by
  rw [List.map_cons,List.nodup_cons] at hn;unfold place;rw [if_pos (hl a (by simp)).2];refine place_can (fun q hq=>⟨by rw [List.length_set];exact (hl q (by simp [hq])).1, ?_⟩) hn.2;rw [numAt_set (hl a (by simp)).1,if_neg]
  ·exact (hl q (by simp [hq])).2
  ·intro he
   exact hn.1 (he ▸ List.mem_map_of_mem hq)
def musts (s:Sys):List (Nat × Nat):=((List.range s.tasks.length).map fun k=>(must (taskAt s.tasks k)).map fun x=>(x.cell.toNat,k)).flatten
def locksOk (s:Sys):Bool:=
 match place (musts s) (List.replicate s.cells.length (-1)) with
 | none=>false
 | some h=>allB s.cells.length fun i=>decide ((cellAt s.cells i).lock=numAt h i)
theorem numAt_rep {n i:Nat} (h:i < n):numAt (List.replicate n (-1)) i= -1:=by simp [numAt,h]
theorem mem_musts {s:Sys} {c k:Nat} (hp:∀ i,i < s.tasks.length->PutsIn s.cells.length (taskAt s.tasks i).puts) (h0:∀ i,i < s.tasks.length->0<=(taskAt s.tasks i).at_):(c,k) ∈ musts s ↔ k < s.tasks.length/\holds (taskAt s.tasks k) c=true:=by
 unfold musts;rw [List.mem_flatten];constructor
 ·rintro ⟨l,hl,hq⟩
  obtain ⟨j,hj,rfl⟩:=List.mem_map.1 hl;rw [List.mem_range] at hj;obtain ⟨x,hx,he⟩:=List.mem_map.1 hq;injection he with he1 he2;subst he2;refine ⟨hj,(holds_must (hp j hj) (h0 j hj)).2 ⟨x,hx, ?_⟩⟩;have:=(must_asc (hp j hj)).2 x hx;omega
 ·rintro ⟨hk,hh⟩
  obtain ⟨x,hx,he⟩:=(holds_must (hp k hk) (h0 k hk)).1 hh;exact ⟨_,List.mem_map.2 ⟨k,List.mem_range.2 hk,rfl⟩,List.mem_map.2 ⟨x,hx,by rw [he];simp⟩⟩
theorem musts_lt {s:Sys} (hp:∀ i,i < s.tasks.length->PutsIn s.cells.length (taskAt s.tasks i).puts):∀ q ∈ musts s,q.1 < s.cells.length:=by
 intro q hq;unfold musts at hq;obtain ⟨l,hl,hq⟩:=List.mem_flatten.1 hq;obtain ⟨j,hj,rfl⟩:=List.mem_map.1 hl;rw [List.mem_range] at hj;obtain ⟨x,hx,rfl⟩:=List.mem_map.1 hq;have:=(must_asc (hp j hj)).2 x hx;show x.cell.toNat < _;omega
theorem locks_iff {s:Sys} (hp:∀ i,i < s.tasks.length->PutsIn s.cells.length (taskAt s.tasks i).puts) (h0:∀ i,i < s.tasks.length->0<=(taskAt s.tasks i).at_):
  locksOk s=true ↔ ∀ i,i < s.cells.length->(-1<=(cellAt s.cells i).lock/\(cellAt s.cells i).lock<=s.tasks.length - 1)/\∀ k,k < s.tasks.length->(holds (taskAt s.tasks k) i=true ↔ (cellAt s.cells i).lock=k):=by
 have hlt:∀ q ∈ musts s,q.1 < (List.replicate s.cells.length (-1:Int)).length:=fun q hq=>by rw [List.length_replicate];exact musts_lt hp q hq
 unfold locksOk;constructor
 ·intro h
  cases hpl:place (musts s) (List.replicate s.cells.length (-1)) with
  | none=>rw [hpl] at h;cases h
  | some g=>
   rw [hpl] at h;obtain ⟨_,g2,g3⟩:=place_some hpl hlt;intro i hi
   have hli:(cellAt s.cells i).lock=numAt g i:=by
    have:=allB_iff.1 h i hi
    simpa using this
   by_cases hex:∃ k,(i,k) ∈ musts s
   ·obtain ⟨k,hk⟩:=hex
    have hgk:=g2 _ hk;have hk':=(mem_musts hp h0).1 hk;rw [hli,show numAt g i=(k:Int) from hgk];refine ⟨by omega,fun j hj=>⟨fun hh=> ?_,fun he=> ?_⟩⟩
    ·have:=g2 _ ((mem_musts hp h0).2 ⟨hj,hh⟩)
     rw [<-this];exact hgk.symm
    ·have:k=j:=by omega
     rw [<-this];exact hk'.2
   ·have hg:numAt g i= -1:=by
     rw [g3 i (fun q hq he=>hex ⟨q.2,by rw [<-he];exact hq⟩),numAt_rep hi]
    rw [hli,hg];refine ⟨by omega,fun j hj=>⟨fun hh=>absurd ⟨j,(mem_musts hp h0).2 ⟨hj,hh⟩⟩ hex,fun he=>by omega⟩⟩
 ·intro h
  have hnd:((musts s).map Prod.fst).Nodup:=by
   have he:(musts s).map Prod.fst=((List.range s.tasks.length).map fun k=>(must (taskAt s.tasks k)).map fun x=>x.cell.toNat).flatten:=by
    unfold musts;rw [List.map_flatten,List.map_map];congr 1;refine List.map_congr_left fun k _=> ?_
    simp only [Function.comp,List.map_map];rfl
   rw [he];refine nodup_flat (fun k hk=> ?_) ?_
   ·rw [List.mem_range] at hk
    obtain ⟨h1,h2⟩:=must_asc (hp k hk);rw [List.Nodup,List.pairwise_map];refine List.Pairwise.imp_of_mem (fun {a b} ha hb hab=> ?_) h1;have:=h2 a ha;have:=h2 b hb;omega
   ·refine List.Pairwise.imp_of_mem (fun {a b} ha hb hab c hca hcb=> ?_) List.pairwise_lt_range
    rw [List.mem_range] at ha hb;obtain ⟨x,hx,rfl⟩:=List.mem_map.1 hca;obtain ⟨y,hy,hxy⟩:=List.mem_map.1 hcb;have hx2:=(must_asc (hp a ha)).2 x hx;have hy2:=(must_asc (hp b hb)).2 y hy;have hc:=(h x.cell.toNat (by omega)).2;have h1:=(hc a ha).1 ((holds_must (hp a ha) (h0 a ha)).2 ⟨x,hx,by omega⟩);have h2:=(hc b hb).1 ((holds_must (hp b hb) (h0 b hb)).2 ⟨y,hy,by omega⟩);omega
  obtain ⟨g,hg⟩:=place_can (h:=List.replicate s.cells.length (-1)) (fun q hq=>⟨hlt q hq,numAt_rep (musts_lt hp q hq)⟩) hnd;obtain ⟨_,g2,g3⟩:=place_some hg hlt;rw [hg];show allB _ _=true;rw [allB_iff];intro i hi;rw [decide_eq_true_eq];obtain ⟨h1,h2⟩:=h i hi;by_cases hex:∃ k,(i,k) ∈ musts s
  ·obtain ⟨k,hk⟩:=hex
   have hk':=(mem_musts hp h0).1 hk;rw [(h2 k hk'.1).1 hk'.2];exact (g2 _ hk).symm
  ·have hgi:numAt g i= -1:=by
    rw [g3 i (fun q hq he=>hex ⟨q.2,by rw [<-he];exact hq⟩),numAt_rep hi]
   rw [hgi];by_cases hl:(cellAt s.cells i).lock= -1
   ·exact hl
   ·exfalso
    have hk:(cellAt s.cells i).lock.toNat < s.tasks.length:=by omega
    have:=(h2 _ hk).2 (by omega)
    exact hex ⟨_,(mem_musts hp h0).2 ⟨hk,this⟩⟩
end Go.Proofs.Ytimamoimphjakaa.Eq
namespace Go.Proofs.Ytimamoimphjakaa.Eq
open Go.RowKit Go.Proofs.YtimamoimphjakaaW.PrintWords Go.Proofs.YtimamoimphjakaaW.PrintLast Go.Proofs.YtimamoimphjakaaW.PrintMore
def MustPost (t:Task) (ts:List Value) (w:World) (e:Ending) (w':World):Prop:=∃ A c,e= .returned (.slice A (must t).length c)/\(∀ V,kTask.K V t ts->kPut.C V A (must t).length (must t))/\Below w.heap.size w w'
theorem task_puts {V:World} {t:Task} {a0 a1 a2 a3 a4 a5 a6 a7 a8 a9 a11 a12:Value} {A:Option Addr} {n c:Nat} (h:kTask.K V t [a0,a1,a2,a3,a4,a5,a6,a7,a8,a9,.slice A n c,a11,a12]):kPut.C V A t.puts.length t.puts:=by
 obtain ⟨_,_,_,_,_,_,_,_,he,-,-,-,-,-,-,-,g10⟩:=kTask_open h;simp only [List.cons.injEq,Value.slice.injEq,true_and] at he;obtain ⟨-,-,-,-,-,-,-,-,-,-,⟨rfl,-,-⟩,-⟩:=he;exact g10
theorem mustHold_calls (t:Task) (ts:List Value) (w:World) (ht:kTask.K w t ts) (hz:t.puts.length<=1048576) (h25:t.stage=2\/t.stage=5->0<=t.at_/\t.at_<=t.puts.length):
  Calls Try.prog 105 #[.agg ts.toArray] w (MustPost t ts w):=by
 obtain ⟨B3,d3,B8,d8,B9,d9,B10,d10,rfl,-,-,-,-,-,-,l10,g10⟩:=kTask_open ht;obtain ⟨i0,hi0,_,hsz,_⟩:=info_parts info_put;have G:=am g10;have M:=am (Own.nil w);have C:=M.out.cl;clear ht g10;go_enter Try.func105,Try.ntmps105;by_cases h2:t.stage=2
 ·have y2:(t.stage == 2)=true:=by simp [h2]
  obtain ⟨p0,p1⟩:=h25 (Or.inl h2);have HM:Aside0 (must t=t.puts.take t.at_.toNat):=⟨by unfold must;rw [if_pos h2]⟩;have hl:(t.puts.take t.at_.toNat).length=t.at_.toNat:=by rw [List.length_take];omega
  have hcut:=cut_to (P:=Try.prog) 36 103 .i64 Try.underlying36 hi0 B10 t.puts.length d10 t.at_ p0 p1 l10;have HLE:t.at_.toNat<=t.puts.length:=by omega
  have HL:=am hl;have q0:(0<=t.at_)=True:=eq_true p0;have q1:(t.at_<=(t.puts.length:Int))=True:=eq_true p1;clear h2 hi0 hl p0 p1 l10 h25
  go_wp2_with (first
  |((first|with_reducible refine gB ?_ | with_reducible refine gA ?_);refine oB rfl M.out ?_;clear M C;intro g W M C;simp only [Cl] at C))
  go_ret;exact ⟨B10,d10,by rw [HM.out,HL.out];rfl,by rw [HM.out];exact fun V hV=>Kd.C_take (task_puts hV) (by omega),M.out.below⟩
 by_cases h34:t.stage=3\/t.stage=4
 ·have HM:Aside0 (must t=t.puts):=⟨by unfold must;rw [if_neg h2,if_pos h34]⟩
  have y2:(t.stage == 2)=false:=by simpa using h2
  clear h2 hi0 l10 h25 hsz;rcases h34 with h3 | h3
  all_goals
   obtain ⟨b3,y3⟩:∃ b,(t.stage == 3)=b:=⟨_,rfl⟩;obtain ⟨b4,y4⟩:∃ b,(t.stage == 4)=b:=⟨_,rfl⟩;rw [h3] at y3 y4;cases y3;cases y4;have y3:(t.stage == 3)=_:=congrArg (· == (3:Int)) h3;have y4:(t.stage == 4)=_:=congrArg (· == (4:Int)) h3;simp only [Int.reduceBEq] at y3 y4;clear h3
   go_wp2_with (first
   |((first|with_reducible refine gB ?_ | with_reducible refine gA ?_);refine oB rfl M.out ?_;clear M C;intro g W M C;simp only [Cl] at C))
   go_ret;exact ⟨B10,d10,by rw [HM.out];rfl,by rw [HM.out];exact fun V hV=>task_puts hV,M.out.below⟩
 have y2:(t.stage == 2)=false:=by simpa using h2
 have y3:(t.stage == 3)=false:=by simp;omega
 have y4:(t.stage == 4)=false:=by simp;omega
 by_cases h5:t.stage=5
 ·have y5:(t.stage == 5)=true:=by simp [h5]
  obtain ⟨p0,p1⟩:=h25 (Or.inr h5);have HM:Aside0 (must t=t.puts.drop t.at_.toNat):=⟨by unfold must;rw [if_neg h2,if_neg h34,if_pos h5]⟩;have hl:(t.puts.drop t.at_.toNat).length=t.puts.length - t.at_.toNat:=List.length_drop;have hcut:=cut_from (P:=Try.prog) 36 103 .i64 Try.underlying36 hi0 2 hsz B10 t.puts.length d10 t.at_ p0 p1;have HLE:t.at_.toNat<=t.puts.length:=by omega
  obtain ⟨A,hA⟩:∃ A,A=(if d10=t.at_.toNat then B10 else B10.map (·.add (t.at_.toNat*2))):=⟨_,rfl⟩;rw [<-hA] at hcut;have HA:=am hA;clear hA;have HL:=am hl;have q0:(0<=t.at_)=True:=eq_true p0;have q1:(t.at_<=(t.puts.length:Int))=True:=eq_true p1;clear h2 h34 h5 hi0 hl p0 p1 h25
  go_wp2_with (first
  |((first|with_reducible refine gB ?_ | with_reducible refine gA ?_);refine oB rfl M.out ?_;clear M C;intro g W M C;simp only [Cl] at C))
  go_ret;exact ⟨A,d10 - t.at_.toNat,by rw [HM.out,HL.out];rfl,by rw [HM.out,HA.out];exact fun V hV=>Kd.C_drop (task_puts hV) (by omega) l10,M.out.below⟩
 have y5:(t.stage == 5)=false:=by simpa using h5
 have HM:Aside0 (must t= []):=⟨by unfold must;rw [if_neg h2,if_neg h34,if_neg h5]⟩;clear h2 h34 h5 hi0 l10 h25
 go_wp2_with (first
 |((first|with_reducible refine gB ?_ | with_reducible refine gA ?_);refine oB rfl M.out ?_;clear M C;intro g W M C;simp only [Cl] at C))
 go_ret;exact ⟨none,0,by rw [HM.out];rfl,by rw [HM.out];exact fun V _=>C_nil _ _,M.out.below⟩
def mustsTo (s:Sys) (n:Nat):List (Nat × Nat):=((List.range n).map fun k=>(must (taskAt s.tasks k)).map fun x=>(x.cell.toNat,k)).flatten
theorem mustsTo_succ (s:Sys) (n:Nat):mustsTo s (n+1)=mustsTo s n ++ (must (taskAt s.tasks n)).map fun x=>(x.cell.toNat,n):=by simp [mustsTo,List.range_succ]
theorem place_app:∀ (a b:List (Nat × Nat)) (h:List Int),place (a ++ b) h=(place a h).bind (place b)
 | [],_,_=>rfl
 | q :: a,b,h=>by
  show (if numAt h q.1= -1 then place (a ++ b) (h.set q.1 q.2) else none)=(if numAt h q.1= -1 then place a (h.set q.1 q.2) else none).bind (place b);split
  ·exact place_app a b _
  ·rfl
theorem mustsTo_all {s:Sys}:∀ {n k:Nat},k < n->∃ b,mustsTo s n=mustsTo s k ++ ((must (taskAt s.tasks k)).map fun x=>(x.cell.toNat,k)) ++ b
 | n+1,k,h=>by
  rcases Nat.lt_or_ge k n with hk | hk
  ·obtain ⟨b,hb⟩:=mustsTo_all (s:=s) hk
   exact ⟨b ++ _,by rw [mustsTo_succ,hb,List.append_assoc]⟩
  ·obtain rfl:k=n:=by omega
   exact ⟨[],by rw [mustsTo_succ,List.append_nil]⟩
theorem locks_no {s:Sys} {k j:Nat} {hs:List Int} (hk:k < s.tasks.length) (hj:j < (must (taskAt s.tasks k)).length)
  (hp:place (mustsTo s k ++ ((must (taskAt s.tasks k)).take j).map fun x=>(x.cell.toNat,k)) (List.replicate s.cells.length (-1))=some hs) (hx:numAt hs (putAt (must (taskAt s.tasks k)) j).cell.toNat ≠ -1):locksOk s=false:=by
 obtain ⟨b,hb⟩:=mustsTo_all (s:=s) hk
 have hn:place (musts s) (List.replicate s.cells.length (-1))=none:=by
  show place (mustsTo s s.tasks.length) _=none;obtain ⟨m,hm⟩:∃ m,m=must (taskAt s.tasks k):=⟨_,rfl⟩;rw [<-hm] at hp hj hx hb
  have hd:m.map (fun x=>(x.cell.toNat,k))=(m.take j).map (fun x=>(x.cell.toNat,k)) ++ ((putAt m j).cell.toNat,k) :: (m.drop (j+1)).map (fun x=>(x.cell.toNat,k)):=by
   have h0:m=m.take j ++ putAt m j :: m.drop (j+1):=by
    conv=>(lhs;rw [<-List.take_append_drop j m,List.drop_eq_getElem_cons hj])
    simp [putAt,hj]
   conv=>(lhs;rw [h0])
   simp
  rw [hb,hd,<-List.append_assoc,List.append_assoc (mustsTo s k ++ _),place_app,hp];show place (_ :: _) hs=none;unfold place;rw [if_neg hx]
 unfold locksOk;rw [hn]
theorem locks_yes {s:Sys} {hs:List Int} (hp:place (mustsTo s s.tasks.length) (List.replicate s.cells.length (-1))=some hs):locksOk s=allB s.cells.length fun i=>decide ((cellAt s.cells i).lock=numAt hs i):=by
 unfold locksOk;rw [show place (musts s) (List.replicate s.cells.length (-1))=some hs from hp]
theorem must_len (t:Task):(must t).length<=t.puts.length:=by
 unfold must;repeat' split
 all_goals simp
 omega
def minus (n k:Nat):List Int:=List.replicate k (-1) ++ List.replicate (n - k) 0
theorem minus_len {n k:Nat} (h:k<=n):(minus n k).length=n:=by simp [minus];omega
theorem minus_set {n k:Nat} (h:k < n):(minus n k).set k (-1)=minus n (k+1):=by
 apply List.ext_getElem?;intro i;unfold minus;simp only [List.getElem?_set,List.getElem?_append,List.length_append,List.length_replicate,List.getElem?_replicate];repeat' split
 all_goals first | rfl|(exfalso;omega)
theorem locksOk_calls (s:Sys) (ss:List Value) (w:World) (hs:kSys.K w s ss) (hn:s.tasks.length<=1048576) (hm:s.cells.length<=1048576)
  (hf:∀ i,i < s.tasks.length->PutsIn s.cells.length (taskAt s.tasks i).puts/\(taskAt s.tasks i).puts.length<=1048576/\0<=(taskAt s.tasks i).at_/\((taskAt s.tasks i).stage=2\/(taskAt s.tasks i).stage=5->(taskAt s.tasks i).at_<=(taskAt s.tasks i).puts.length)):
  Calls Try.prog 67 #[.agg ss.toArray] w fun e w'=>e= .returned (.bool (locksOk s))/\Below w.heap.size w w':=by
 obtain ⟨A0,c0,A1,c1,A3,c3,rfl,-,g0,-,g1,-⟩:=kSys_open hs;have G0:=am g0;have G1:=am g1;have HF:=am hf;have HMC:=am hm;have M:=am (Own.nil w);have C:=M.out.cl;clear hs g0 g1 hf;go_enter Try.func67,Try.ntmps67
 go_wp2_with (first
 |((first|with_reducible refine gB ?_ | with_reducible refine gA ?_);refine oB rfl M.out ?_;clear M C;intro g W M C;simp only [Cl] at C)
 |(refine oM rfl rfl rfl Try.underlying29 info_int M.out HMC.out ?_;clear M C;intro gH W M C;simp only [Cl] at C))
 obtain ⟨L,EL,ML⟩:=Own.namedT M;go_loopw [4,17] (fun _ j w'=>∃ k:Nat,k<=s.cells.length/\j= .int .i64 k/\Aside0 (Own w w' (.b gH (nums .i64 (minus s.cells.length k)).toArray 3 :: L))) (fun _ j _=>s.cells.length - (intOf j).toNat)
 case atStart=>exact ⟨0,Nat.zero_le _,rfl,ML⟩
 case round=>
  obtain ⟨k,hk,rfl,M2⟩:=hrel;have eL:=EL.out;subst eL;clear M C ML EL;have M:=M2;clear M2;have C:=M.out.cl;simp only [Cl] at C;by_cases hlt:k < s.cells.length
  ·have q0:(0:Int)<=(k:Int):=by omega
   have q1:(k:Int) < (s.cells.length:Int):=by omega
   have HL:=am (show k < (minus s.cells.length k).length by rw [minus_len hk];exact hlt)
   go_wp2_with (first
   |((with_reducible refine gS ?_);refine oI (j:=k) rfl rfl rfl M.out (hs:=minus s.cells.length k) .here HL.out ?_;clear M C;intro W M C;simp only [Cl] at C))
   go_roundw
   case rel=>exact ⟨k+1,by omega,by go_num,by rw [<-minus_set hlt];exact M⟩
   case measure=>simp [intOf];omega
  ·obtain rfl:k=s.cells.length:=by omega
   have q1:¬ (s.cells.length:Int) < (s.cells.length:Int):=by omega
   go_wp2_with fail
   clear q1 hk;obtain ⟨L,EL,ML⟩:=Own.namedT M;go_loopw [5,6,8,27,33,34,35] (fun _ _ _ j _ _ _ w'=>∃ (k:Nat) (hs:List Int),k<=s.tasks.length/\j= .int .i64 k/\Aside0 (hs.length=s.cells.length/\place (mustsTo s k) (List.replicate s.cells.length (-1))=some hs)/\Aside0 (Own w w' (.b gH (nums .i64 hs).toArray 3 :: L))) (fun _ _ _ j _ _ _ _=>s.tasks.length - (intOf j).toNat)
   case atStart=>exact ⟨0,_,Nat.zero_le _,rfl,⟨minus_len (Nat.le_refl _),by simp [mustsTo,place,minus]⟩,ML⟩
   case round=>
    obtain ⟨k,hs,hk,rfl,HP,M2⟩:=hrel;have eL:=EL.out;subst eL;clear M C ML EL;have M:=M2;clear M2;have C:=M.out.cl;simp only [Cl] at C;by_cases hlt:k < s.tasks.length
    ·have q0:(0:Int)<=(k:Int):=by omega
     have q1:(k:Int) < (s.tasks.length:Int):=by omega
     obtain ⟨b,o,cs,rfl,hcl,hK,hcc,-⟩:=C_field G1.out zTask k hlt (by decide);obtain ⟨t,ht⟩:∃ x,x=taskAt s.tasks k:=⟨_,rfl⟩;rw [show s.tasks.getD k zTask=t from ht.symm] at hK;have HTK:=am hK;obtain ⟨B3,d3,B8,d8,B9,d9,B10,d10,rfl,-⟩:=kTask_open hK;have HC:=am hcc;have HT:=am ht;have HFk:=am (ht ▸ HF.out k hlt);clear hcl hK hcc ht
     go_wp2_with (first
     |((first|with_reducible refine gB ?_ | with_reducible refine gA ?_);refine oB rfl M.out ?_;clear M C;intro g W M C;simp only [Cl] at C)
     |((with_reducible refine gL ?_);refine oR rfl rfl M.out HC.out ?_)
     |((with_reducible refine gL ?_);refine oL rfl rfl M.out ?_)
     |((with_reducible refine gS ?_);refine oS rfl rfl rfl M.out ?_;clear M C;intro W M C;simp only [Cl] at C)
     |(go_at_call 105;refine (mustHold_calls t _ _ (kTask.K_below M.out.below HTK.out) HFk.out.2.1 (fun h=>⟨HFk.out.2.2.1,HFk.out.2.2.2 h⟩)).mono ?_;rintro e W ⟨Am,cm,rfl,hrow,hb⟩;have KX:=am (hrow w HTK.out);clear hrow;replace M:=am (M.out.step hb);clear C;have C:=M.out.cl;simp only [Cl] at C;clear hb))
     clear q0 q1;obtain ⟨E,L,EE,EL,ML⟩:=Own.namedX M;go_loopw [8,35] (fun _ i w'=>∃ (j:Nat) (hs2:List Int),j<=(must t).length/\i= .int .i64 j/\Aside0 (hs2.length=s.cells.length/\place (mustsTo s k ++ ((must t).take j).map fun x=>(x.cell.toNat,k)) (List.replicate s.cells.length (-1))=some hs2)/\Aside0 (Own w w' (E :: .b gH (nums .i64 hs2).toArray 3 :: L))) (fun _ i _=>(must t).length - (intOf i).toNat)
     case atStart=>exact ⟨0,hs,Nat.zero_le _,rfl,⟨HP.out.1,by rw [List.take_zero,List.map_nil,List.append_nil];exact HP.out.2⟩,ML⟩
     case round=>
      obtain ⟨j,hs2,hj,rfl,HP2,M2⟩:=hrel;have eE:=EE.out;subst eE;clear EE;have eL:=EL.out;subst eL;clear M C ML EL;have M:=M2;clear M2;have C:=M.out.cl;simp only [Cl] at C;have HML:(must t).length<=1048576:=Nat.le_trans (must_len t) HFk.out.2.1;by_cases hjt:j < (must t).length
      ·have s0:(0:Int)<=(j:Int):=by omega
       have s1:(j:Int) < ((must t).length:Int):=by omega
       obtain ⟨b2,o2,cs2,rfl,hcl2,hK2,hcc2,-⟩:=C_field KX.out zPut j hjt (by decide);obtain ⟨x,hx⟩:∃ x,x=putAt (must t) j:=⟨_,rfl⟩;rw [show (must t).getD j zPut=x from hx.symm] at hK2;have e2:=kPut_open hK2;subst e2;have HC2:=am hcc2;have hin:0<=x.cell/\x.cell < s.cells.length:=(must_asc HFk.out.1).2 x (by rw [hx];unfold putAt;rw [List.getD_eq_getElem?_getD,List.getElem?_eq_getElem hjt];exact List.getElem_mem hjt);obtain ⟨c,hc⟩:=Int.eq_ofNat_of_zero_le hin.1;have hcl:c < hs2.length:=by rw [HP2.out.1];omega
       have hget:(nums .i64 hs2)[c]? = some (.int .i64 (numAt hs2 c)):=by rw [<-List.getElem?_toArray];exact nums_get hcl
       have HX:=am hx;have HCC:=am hc;have HIN:=am hcl;have hcn:x.cell.toNat=c:=by omega
       have HCN:=am hcn;rw [hc] at HC2;have r0:(0:Int)<=(c:Int):=by omega
       have r1:(c:Int) < (s.cells.length:Int):=by have:=HP2.out.1;omega
       clear hcl2 hK2 hcc2 hx hc hin hcl hcn;by_cases hv:numAt hs2 c= -1
       ·have y1:(numAt hs2 c != -1)=false:=by simp [hv]
        have HV:=am hv;clear hv
        go_wp2_with (first
        |((first|with_reducible refine gB ?_ | with_reducible refine gA ?_);refine oB rfl M.out ?_;clear M C;intro g W M C;simp only [Cl] at C)
        |((with_reducible refine gL ?_);refine oR rfl rfl M.out HC2.out ?_)
        |((with_reducible refine gS ?_);refine oS rfl rfl rfl M.out ?_;clear M C;intro W M C;simp only [Cl] at C)
        |((with_reducible refine gS ?_);refine oI (j:=c) rfl rfl rfl M.out (.there (.there .here)) HIN.out ?_;clear M C;intro W M C;simp only [Cl] at C))
        go_roundw
        case rel=>exact ⟨j+1,hs2.set c k,by omega,by go_num,⟨by rw [List.length_set];exact HP2.out.1,by
         rw [List.take_succ_eq_append_getElem hjt,List.map_append,<-List.append_assoc,place_app,HP2.out.2,show (must t)[j]=x by rw [HX.out];simp [putAt,hjt]];show (if numAt hs2 x.cell.toNat= -1 then place [] (hs2.set x.cell.toNat (k:Int)) else none)=_;rw [HCN.out,if_pos HV.out];rfl⟩,⟨M.out.pop⟩⟩
        case measure=>simp [intOf];omega
       ·have y1:(numAt hs2 c != -1)=true:=by simp [hv]
        have HV:=am hv;clear hv
        go_wp2_with (first
        |((first|with_reducible refine gB ?_ | with_reducible refine gA ?_);refine oB rfl M.out ?_;clear M C;intro g W M C;simp only [Cl] at C)
        |((with_reducible refine gL ?_);refine oR rfl rfl M.out HC2.out ?_)
        |((with_reducible refine gS ?_);refine oS rfl rfl rfl M.out ?_;clear M C;intro W M C;simp only [Cl] at C))
        go_ret;rw [locks_no hlt (by rw [<-HT.out];exact hjt) (by rw [<-HT.out];exact HP2.out.2) (by rw [<-HT.out,<-HX.out,HCN.out];exact HV.out)];exact ⟨rfl,M.out.below⟩
      ·obtain rfl:j=(must t).length:=by omega
       have s1:¬ ((must t).length:Int) < ((must t).length:Int):=by omega
       go_wp2;go_roundw
       case rel=>exact ⟨k+1,hs2,by omega,by go_num,⟨HP2.out.1,by rw [mustsTo_succ,<-HT.out];have:=HP2.out.2;rwa [List.take_length] at this⟩,⟨M.out.pop⟩⟩
       case measure=>simp [intOf];omega
    ·obtain rfl:k=s.tasks.length:=by omega
     have q1:¬ (s.tasks.length:Int) < (s.tasks.length:Int):=by omega
     have HY:=am (locks_yes HP.out.2);go_wp2_with fail
     clear q1;obtain ⟨L,EL,ML⟩:=Own.namedT M;go_loopw [9,10,55] (fun _ _ j w'=>∃ k:Nat,k<=s.cells.length/\j= .int .i64 k/\Aside0 (∀ i,i < k->(cellAt s.cells i).lock=numAt hs i)/\Aside0 (Own w w' (.b gH (nums .i64 hs).toArray 3 :: L))) (fun _ _ j _=>s.cells.length - (intOf j).toNat)
     case atStart=>exact ⟨0,Nat.zero_le _,rfl,⟨fun i hi=>by omega⟩,ML⟩
     case round=>
      obtain ⟨k,hk,rfl,HJ,M2⟩:=hrel;have eL:=EL.out;subst eL;clear M C ML EL;have M:=M2;clear M2;have C:=M.out.cl;simp only [Cl] at C;by_cases hlt:k < s.cells.length
      ·have q0:(0:Int)<=(k:Int):=by omega
       have q1:(k:Int) < (s.cells.length:Int):=by omega
       obtain ⟨b,o,cs,rfl,hcl,hK,hcc,-⟩:=C_field G0.out zCell k hlt (by decide);obtain ⟨cc,hcx⟩:∃ x,x=cellAt s.cells k:=⟨_,rfl⟩;rw [show s.cells.getD k zCell=cc from hcx.symm] at hK;have e2:=kCell_open hK;subst e2;have HC:=am hcc;have HCX:=am hcx;have hget:(nums .i64 hs)[k]? = some (.int .i64 (numAt hs k)):=by rw [<-List.getElem?_toArray];exact nums_get (by rw [HP.out.1];exact hlt)
       have HLN:=am HP.out.1;clear hcl hK hcc hcx;by_cases hv:cc.lock=numAt hs k
       ·have y1:(cc.lock != numAt hs k)=false:=by simp [hv]
        have HV:=am hv;clear hv
        go_wp2_with (first
        |((first|with_reducible refine gB ?_ | with_reducible refine gA ?_);refine oB rfl M.out ?_;clear M C;intro g W M C;simp only [Cl] at C)
        |((with_reducible refine gL ?_);refine oR rfl rfl M.out HC.out ?_)
        |((with_reducible refine gS ?_);refine oS rfl rfl rfl M.out ?_;clear M C;intro W M C;simp only [Cl] at C))
        refine dS M.out ?_;clear M C;intro W M;refine dN [0,1,2,3,4,5,6] M.out ?_;iterate 7 (first|refine sP rfl ?_ | refine sG rfl ?_ | refine sU rfl ?_)
        refine stillS_nil ?_;refine dD ?_;have C:=M.out.cl;simp only [Cl] at C;go_wp2;go_roundw
        case rel=>exact ⟨k+1,by omega,by go_num,⟨fun i hi=>by rcases Nat.lt_or_ge i k with h | h;exact HJ.out i h;obtain rfl:i=k:=(by omega);rw [<-HCX.out];exact HV.out⟩,⟨M.out.pop⟩⟩
        case measure=>simp [intOf];omega
       ·have y1:(cc.lock != numAt hs k)=true:=by simp [hv]
        have HV:=am hv;clear hv
        go_wp2_with (first
        |((first|with_reducible refine gB ?_ | with_reducible refine gA ?_);refine oB rfl M.out ?_;clear M C;intro g W M C;simp only [Cl] at C)
        |((with_reducible refine gL ?_);refine oR rfl rfl M.out HC.out ?_)
        |((with_reducible refine gS ?_);refine oS rfl rfl rfl M.out ?_;clear M C;intro W M C;simp only [Cl] at C))
        refine dS M.out ?_;clear M C;intro W M;refine dN [0,1,2,3,4,5,6] M.out ?_;iterate 7 (first|refine sP rfl ?_ | refine sG rfl ?_ | refine sU rfl ?_)
        refine stillS_nil ?_;refine dD ?_;have C:=M.out.cl;simp only [Cl] at C;go_wp2;go_ret;rw [HY.out,show (allB s.cells.length fun i=>decide ((cellAt s.cells i).lock=numAt hs i))=false from allB_no hlt (decide_eq_false (by rw [<-HCX.out];exact HV.out))];exact ⟨rfl,M.out.below⟩
      ·obtain rfl:k=s.cells.length:=by omega
       have q1:¬ (s.cells.length:Int) < (s.cells.length:Int):=by omega
       go_wp2;go_ret;rw [HY.out,show (allB s.cells.length fun i=>decide ((cellAt s.cells i).lock=numAt hs i))=true from allB_iff.2 (fun i hi=>decide_eq_true (HJ.out i hi))];exact ⟨rfl,M.out.below⟩
def logAt (p:Prog) (s:Sys) (i:Nat):Bool:=
 let e:=entryAt s.log i
 placeB e.task s.tasks.length && placeB e.act (actsAt p.bodies (taskAt s.tasks e.task.toNat).body.toNat).length && !decide (e.when_ < 0) && !decide (s.clock < e.when_) && !decide (e.from_ < 0) && !decide ((i:Int) < e.from_) && listOk e.reads s.cells.length && listOk e.puts s.cells.length
def logB (p:Prog) (s:Sys):Bool:=allB s.log.length (logAt p s)
theorem logBad {q:Prop} (h:q:=by
  go_wp2_with (go_at_call 103;refine oCb M.out (putsOk_calls _ _ _ _ _ (by first|exact Kd.C_below R3.out M.out.below | exact Kd.C_below R4.out M.out.below) (by first|exact HZ.out.1 | exact HZ.out.2)) (by first|exact Y7.out | exact Y8.out) ?_;clear M C;intro W M C;simp only [Cl] at C)
  go_ret;rw [show logB p s=false from allB_no hlt (by rw [HU.out];try rfl)];exact ⟨rfl,M.out.below⟩):q:=h
theorem logOk_calls (p:Prog) (ps:List Value) (s:Sys) (ss:List Value) (w:World) (hp:kProg.K w p ps) (hs:kSys.K w s ss) (hl:s.log.length<=1048576)
  (hf:∀ i,i < s.tasks.length->0<=(taskAt s.tasks i).body/\(taskAt s.tasks i).body < p.bodies.length) (hz:∀ i,i < s.log.length->(entryAt s.log i).reads.length<=1048576/\(entryAt s.log i).puts.length<=1048576):
  Calls Try.prog 68 #[.agg ps.toArray,.agg ss.toArray] w fun e w'=>e= .returned (.bool (logB p s))/\Below w.heap.size w w':=by
 obtain ⟨Ac,cc,Ab,cb,rfl,-,-,-,gb⟩:=kProg_open hp;obtain ⟨A0,c0,A1,c1,A3,c3,rfl,-,-,-,g1,-,g3⟩:=kSys_open hs;have GB:=am gb;have G1:=am g1;have G3:=am g3;have HF:=am hf;have HZA:=am hz;have M:=am (Own.nil w);have C:=M.out.cl;clear hp hs gb g1 g3 hf hz;go_enter Try.func68,Try.ntmps68
 go_wp2_with (first
 |((first|with_reducible refine gB ?_ | with_reducible refine gA ?_);refine oB rfl M.out ?_;clear M C;intro g W M C;simp only [Cl] at C))
 obtain ⟨L,EL,ML⟩:=Own.named M;go_loopw [5,6,10] (fun _ _ j w'=>∃ k:Nat,k<=s.log.length/\j= .int .i64 k/\Aside0 (∀ i,i < k->logAt p s i=true)/\Aside0 (Own w w' L)) (fun _ _ j _=>s.log.length - (intOf j).toNat)
 case atStart=>exact ⟨0,Nat.zero_le _,rfl,⟨fun i hi=>by omega⟩,ML⟩
 case round=>
  obtain ⟨k,hk,rfl,HJ,M2⟩:=hrel;have eL:=EL.out;subst eL;clear M C ML EL;have M:=M2;clear M2;have C:=M.out.cl;simp only [Cl] at C;by_cases hlt:k < s.log.length
  ·have q0:(0:Int)<=(k:Int):=by omega
   have q1:(k:Int) < (s.log.length:Int):=by omega
   obtain ⟨b,o,cs,rfl,hcl,hK,hcc,-⟩:=C_field G3.out zEntry k hlt (by decide);obtain ⟨e,he⟩:∃ x,x=entryAt s.log k:=⟨_,rfl⟩;rw [show s.log.getD k zEntry=e from he.symm] at hK;obtain ⟨E3,f3,E4,f4,rfl,-,gr,-,gp⟩:=kEntry_open hK;have HC:=am hcc;have R3:=am gr;have R4:=am gp;have HZ:=am (he ▸ HZA.out k hlt);obtain ⟨b1,y1⟩:∃ b,placeB e.task s.tasks.length=b:=⟨_,rfl⟩;obtain ⟨b2,y2⟩:∃ b,placeB e.act (actsAt p.bodies (taskAt s.tasks e.task.toNat).body.toNat).length=b:=⟨_,rfl⟩;obtain ⟨b3,y3⟩:∃ b,decide (e.when_ < 0)=b:=⟨_,rfl⟩;obtain ⟨b4,y4⟩:∃ b,decide (s.clock < e.when_)=b:=⟨_,rfl⟩;obtain ⟨b5,y5⟩:∃ b,decide (e.from_ < 0)=b:=⟨_,rfl⟩;obtain ⟨b6,y6⟩:∃ b,decide ((k:Int) < e.from_)=b:=⟨_,rfl⟩;obtain ⟨b7,y7⟩:∃ b,listOk e.reads s.cells.length=b:=⟨_,rfl⟩;obtain ⟨b8,y8⟩:∃ b,listOk e.puts s.cells.length=b:=⟨_,rfl⟩;have HU:Aside0 (logAt p s k=(b1 && b2 && !b3 && !b4 && !b5 && !b6 && b7 && b8)):=⟨by rw [<-y1,<-y2,<-y3,<-y4,<-y5,<-y6,<-y7,<-y8,he];rfl⟩;have Y1:=am y1;have Y2:=am y2;have Y7:=am y7;have Y8:=am y8;clear hcl hK hcc gr gp he y1 y2 y7 y8
   go_wp2_with (first
   |((first|with_reducible refine gB ?_ | with_reducible refine gA ?_);refine oB rfl M.out ?_;clear M C;intro g W M C;simp only [Cl] at C)
   |((with_reducible refine gL ?_);refine oR rfl rfl M.out HC.out ?_)
   |((with_reducible refine gS ?_);refine oS rfl rfl rfl M.out ?_;clear M C;intro W M C;simp only [Cl] at C))
   cases b1
   case false=>
    clear Y2;refine dS M.out ?_;clear M C;intro W M;refine dN [0,1,2,3,4] M.out ?_;iterate 5 (first|refine sP rfl ?_ | refine sG rfl ?_ | refine sU rfl ?_)
    refine stillS_nil ?_;refine dC 5 rfl ?_;refine oEb (isPlace_calls _ _ _) Y1.out ?_;refine ⟨_,rfl,M,dA ?_⟩;refine dN [6,7,8,9,10,11,12,13,14,15,16,17,18,19,20,21] M.out ?_;iterate 16 (first|refine sP rfl ?_ | refine sG rfl ?_ | refine sU rfl ?_)
    refine stillS_nil ?_;refine dU 22 rfl rfl M.out (dA ?_);refine dN [23,24] M.out ?_;iterate 2 (first|refine sP rfl ?_ | refine sG rfl ?_ | refine sU rfl ?_)
    refine stillS_nil ?_;refine dD ?_;have C:=M.out.cl;simp only [Cl] at C;exact logBad
   have hb:=(Bool.and_eq_true_iff).1 (show (decide (0<=e.task) && decide (e.task < (s.tasks.length:Int)))=true from Y1.out);have hb0:0<=e.task:=of_decide_eq_true hb.1;have hb1:e.task < s.tasks.length:=of_decide_eq_true hb.2;obtain ⟨n,hn⟩:=Int.eq_ofNat_of_zero_le hb0;have hnl:n < s.tasks.length:=by omega
   have v4:e.task.toNat=n:=by omega
   obtain ⟨b9,o9,cs9,rfl,hcl,hK,hcc,-⟩:=C_field G1.out zTask n hnl (by decide);obtain ⟨B3,d3,B8,d8,B9,d9,B10,d10,rfl,-⟩:=kTask_open hK;have p0:=hcc 0 _ rfl;rw [show s.tasks.getD n zTask=taskAt s.tasks n from rfl] at p0;simp only [show kTask.sz=13 from rfl,Nat.add_zero] at p0;clear hcl hK hcc hb;obtain ⟨hb0',hb1'⟩:=HF.out n hnl;obtain ⟨kb,hkb0⟩:=Int.eq_ofNat_of_zero_le hb0';have hkb:kb < p.bodies.length:=by omega
   obtain ⟨bb,ob,cs2,rfl,hcl2,hK2,hcc2,-⟩:=C_field GB.out ([]:List Act) kb hkb (by decide);obtain ⟨Aa,ca,rfl,la,-⟩:=hK2;have p2:=hcc2 0 _ rfl;simp only [show (Kd.slice 108 kAct).sz=1 from rfl,Nat.mul_one,Nat.add_zero] at p2;rw [hkb0] at p0;have e2:(actsAt p.bodies (taskAt s.tasks e.task.toNat).body.toNat).length=(p.bodies.getD kb []).length:=by rw [v4,hkb0,Int.toNat_natCast];rfl
   rw [e2] at Y2;rw [hn] at Y1;replace M:=am ((M.out.far p2).far p0);have n0:(0:Int)<=(n:Int):=by omega
   have n1:(n:Int) < (s.tasks.length:Int):=by omega
   have k0:(0:Int)<=(kb:Int):=by omega
   have k1:(kb:Int) < (p.bodies.length:Int):=by omega
   clear C hcl2 hcc2 p2 p0 la hkb0 hkb e2 hb0' hb1';have C:=M.out.cl;simp only [Cl] at C;refine dS M.out ?_;clear M C;intro W M;refine dN [0,1,2,3,4] M.out ?_;iterate 5 (first|refine sP rfl ?_ | refine sG rfl ?_ | refine sU rfl ?_)
   refine stillS_nil ?_;refine dC 5 rfl ?_;refine oEb (isPlace_calls _ _ _) Y1.out ?_;refine ⟨_,rfl,M,dA ?_⟩;refine dN [6,7,8,9,10,11,12,13,14,15,16,17,18,19,20,21] M.out ?_;iterate 16 (first|refine sP rfl ?_ | refine sG rfl ?_ | refine sU rfl ?_)
   refine stillS_nil ?_;cases b2
   case false=>
    refine dC 22 rfl ?_;refine oEb (isPlace_calls _ _ _) Y2.out ?_;refine ⟨_,rfl,M,dA ?_⟩;refine dN [23,24] M.out ?_;iterate 2 (first|refine sP rfl ?_ | refine sG rfl ?_ | refine sU rfl ?_)
    refine stillS_nil ?_;refine dD ?_;have C:=M.out.cl;simp only [Cl] at C;exact logBad
   refine dC 22 rfl ?_;refine oEb (isPlace_calls _ _ _) Y2.out ?_;refine ⟨_,rfl,M,dA ?_⟩;refine dN [23,24] M.out ?_;iterate 2 (first|refine sP rfl ?_ | refine sG rfl ?_ | refine sU rfl ?_)
   refine stillS_nil ?_;refine dD ?_;have C:=M.out.cl;simp only [Cl] at C;cases b3
   case true=>exact logBad
   cases b4
   case true=>exact logBad
   cases b5
   case true=>exact logBad
   cases b6
   case true=>exact logBad
   cases b7
   case false=>exact logBad
   cases b8
   case false=>exact logBad
   go_wp2_with (first
   |(go_at_call 103;refine oCb M.out (putsOk_calls _ _ _ _ _ (by first|exact Kd.C_below R3.out M.out.below | exact Kd.C_below R4.out M.out.below) (by first|exact HZ.out.1 | exact HZ.out.2)) (by first|exact Y7.out | exact Y8.out) ?_;clear M C;intro W M C;simp only [Cl] at C))
   go_roundw
   case rel=>exact ⟨k+1,by omega,by go_num,⟨fun i hi=>by rcases Nat.lt_or_ge i k with h | h;exact HJ.out i h;obtain rfl:i=k:=(by omega);rw [HU.out];rfl⟩,⟨M.out.pop.pop.pop⟩⟩
   case measure=>simp [intOf];omega
  ·obtain rfl:k=s.log.length:=by omega
   have q1:¬ (s.log.length:Int) < (s.log.length:Int):=by omega
   go_wp2;go_ret;rw [show logB p s=true from allB_iff.2 HJ.out];exact ⟨rfl,M.out.below⟩
def partD (d:Deed):Value:=
 if d.kind=1 then .iface 193 (.agg #[.int .i64 d.a,.int .i64 d.b])
 else if d.kind=2 then .iface 195 (.agg #[.int .i64 d.a,.int .i64 d.b])
 else if d.kind=3 then .iface 197 (.agg #[.int .i64 d.a,.int .i64 d.b])
 else if d.kind=4 then .iface 199 (.agg #[.int .i64 d.a,.int .i64 d.b])
 else if d.kind=5 then (if d.b=0 then .iface 200 (.agg #[.int .i64 d.a]) else .nilIface)
 else .nilIface
theorem partF {q:Prop} (h:q:=by
  go_wp2_with ((first|with_reducible refine gB ?_ | with_reducible refine gA ?_);refine oB rfl M.out ?_;clear M C;intro g W M C;simp only [Cl] at C)
  go_ret;rw [HU.out];exact ⟨rfl,M.out.below⟩):q:=h
theorem partOfDeed_calls (d:Deed) (ds:List Value) (w:World) (hd:kDeed.K w d ds):
  Calls Try.prog 144 #[.agg ds.toArray] w fun e w'=>e= .returned (partD d)/\Below w.heap.size w w':=by
 obtain rfl:=kDeed_open hd;have M:=am (Own.nil w);have C:=M.out.cl;clear hd;go_enter Try.func144,Try.ntmps144;by_cases h1:d.kind=1
 ·have y1:(d.kind == 1)=true:=by simp [h1]
  have HU:Aside0 (partD d=_):=⟨by unfold partD;rw [if_pos h1]⟩;exact partF
 have y1:(d.kind == 1)=false:=by simpa using h1
 by_cases h2:d.kind=2
 ·have y2:(d.kind == 2)=true:=by simp [h2]
  have HU:Aside0 (partD d=_):=⟨by unfold partD;rw [if_neg h1,if_pos h2]⟩;exact partF
 have y2:(d.kind == 2)=false:=by simpa using h2
 by_cases h3:d.kind=3
 ·have y3:(d.kind == 3)=true:=by simp [h3]
  have HU:Aside0 (partD d=_):=⟨by unfold partD;rw [if_neg h1,if_neg h2,if_pos h3]⟩;exact partF
 have y3:(d.kind == 3)=false:=by simpa using h3
 by_cases h4:d.kind=4
 ·have y4:(d.kind == 4)=true:=by simp [h4]
  have HU:Aside0 (partD d=_):=⟨by unfold partD;rw [if_neg h1,if_neg h2,if_neg h3,if_pos h4]⟩;exact partF
 have y4:(d.kind == 4)=false:=by simpa using h4
 by_cases h5:d.kind=5
 ·have y5:(d.kind == 5)=true:=by simp [h5]
  by_cases hb:d.b=0
  ·have yb:(d.b == 0)=true:=by simp [hb]
   have HU:Aside0 (partD d=_):=⟨by unfold partD;rw [if_neg h1,if_neg h2,if_neg h3,if_neg h4,if_pos h5,if_pos hb]⟩;exact partF
  ·have yb:(d.b == 0)=false:=by simpa using hb
   have HU:Aside0 (partD d=_):=⟨by unfold partD;rw [if_neg h1,if_neg h2,if_neg h3,if_neg h4,if_pos h5,if_neg hb]⟩;exact partF
 have y5:(d.kind == 5)=false:=by simpa using h5
 have HU:Aside0 (partD d=_):=⟨by unfold partD;rw [if_neg h1,if_neg h2,if_neg h3,if_neg h4,if_neg h5]⟩;exact partF
theorem ta_run {P:Program} (T xT:TypeId) (z:Value) (hB:(match P.underlying T with | some (.interface _)=>false | some _=>true | none=>false)=true) (hz:((P.info? T).bind (·.zero))=some z):
  (∀ (t:TypeId) (v:Value) (W:World),(Instr.typeAssert (.iface t v) xT T true).run P W= .ok (if t=T then .tuple #[v,.bool true] else .tuple #[z,.bool false]) W)/\∀ W:World,(Instr.typeAssert .nilIface xT T true).run P W= .ok (.tuple #[z,.bool false]) W:=by
 obtain ⟨j,hj,hjz⟩:=Option.bind_eq_some_iff.1 hz
 cases hu:P.underlying T with
 | none=>rw [hu] at hB;cases hB
 | some d=>
  rw [hu] at hB;constructor
  ·intro t v W
   unfold Instr.typeAssert;simp only [Sem.run_bind,run_underlying hu,Result.andThen_ok];by_cases h:t=T
   ·cases d <;> first|(cases hB;done)|(dsimp only;simp [h,Result.andThen_ok])
   ·cases d <;> first|(cases hB;done)|(dsimp only;simp [h,zeroValue,typeInfo,hj,hjz,Result.andThen_ok])
  ·intro W
   unfold Instr.typeAssert;simp only [Sem.run_bind,run_underlying hu,Result.andThen_ok];cases d <;> first|(cases hB;done)|(dsimp only;simp [zeroValue,typeInfo,hj,hjz,Result.andThen_ok])
theorem inB_reg (x:Int):(decide (0<=x) && decide (x < 3))=inB x 0 2:=by rw [Bool.eq_iff_iff,inB_iff];simp;omega
theorem inB_place (x n:Int):(decide (0<=x) && decide (x < n))=inB x 0 (n - 1):=by rw [Bool.eq_iff_iff,inB_iff];simp;omega
theorem pdeedF {q:Prop} (h:q:=by
  go_wp2_with (first
  |((first|with_reducible refine gB ?_ | with_reducible refine gA ?_);refine oB rfl M.out ?_;clear M C;intro g W M C;simp only [Cl] at C)
  |((with_reducible refine gS ?_);refine oS rfl rfl rfl M.out ?_;clear M C;intro W M C;simp only [Cl] at C)
  |(go_at_call 128;refine oEb (isReg_calls _ _) (by first|exact Y1.out | exact Y2.out) ?_)
  |(go_at_call 101;refine oEb (isNum_calls _ _) Y2.out ?_)
  |(go_at_call 51;refine oEb (isPlace_calls _ _ _) (by first|exact Y1.out | exact Y2.out) ?_))
  go_ret;rw [HU.out];exact ⟨rfl,M.out.below⟩):q:=h
theorem deedOk_calls (d:Deed) (n:Int) (w:World):
  Calls Try.prog 143 #[partD d,.int .i64 n] w fun e w'=>e= .returned (.bool (deedOk d n))/\Below w.heap.size w w':=by
 have M:=am (Own.nil w);have C:=M.out.cl;have a_loadDeed:=ta_run (P:=Try.prog) 193 122 (.agg #[.int .i64 0,.int .i64 0]) (by kernel_rfl) (by kernel_rfl);have a_storeDeed:=ta_run (P:=Try.prog) 195 122 (.agg #[.int .i64 0,.int .i64 0]) (by kernel_rfl) (by kernel_rfl);have a_numDeed:=ta_run (P:=Try.prog) 197 122 (.agg #[.int .i64 0,.int .i64 0]) (by kernel_rfl) (by kernel_rfl);have a_addDeed:=ta_run (P:=Try.prog) 199 122 (.agg #[.int .i64 0,.int .i64 0]) (by kernel_rfl) (by kernel_rfl);have a_needDeed:=ta_run (P:=Try.prog) 200 122 (.agg #[.int .i64 0]) (by kernel_rfl) (by kernel_rfl);by_cases h1:d.kind=1
 ·have y1:(d.kind == 1)=true:=by simp [h1]
  obtain ⟨b1,y1⟩:∃ b,(decide (0<=d.a) && decide (d.a < 3))=b:=⟨_,rfl⟩;obtain ⟨b2,y2⟩:∃ b,(decide (0<=d.b) && decide (d.b < n))=b:=⟨_,rfl⟩;have HU:Aside0 (deedOk d n=(b1 && b2)):=⟨by unfold deedOk;rw [if_pos h1,<-y1,<-y2,inB_reg d.a,inB_place d.b n]⟩;rw [show partD d=_ from by unfold partD;rw [if_pos h1]];have Y1:=am y1;have Y2:=am y2;clear y1 y2;go_enter Try.func143,Try.ntmps143;cases b1;exact pdeedF;exact pdeedF
 have y1:(d.kind == 1)=false:=by simpa using h1
 by_cases h2:d.kind=2
 ·have y2:(d.kind == 2)=true:=by simp [h2]
  obtain ⟨b1,y1⟩:∃ b,(decide (0<=d.a) && decide (d.a < n))=b:=⟨_,rfl⟩;obtain ⟨b2,y2⟩:∃ b,(decide (0<=d.b) && decide (d.b < 3))=b:=⟨_,rfl⟩;have HU:Aside0 (deedOk d n=(b1 && b2)):=⟨by unfold deedOk;rw [if_neg h1,if_pos h2,<-y1,<-y2,inB_place d.a n,inB_reg d.b]⟩;rw [show partD d=_ from by unfold partD;rw [if_neg h1,if_pos h2]];have Y1:=am y1;have Y2:=am y2;clear y1 y2;go_enter Try.func143,Try.ntmps143;cases b1;exact pdeedF;exact pdeedF
 have y2:(d.kind == 2)=false:=by simpa using h2
 by_cases h3:d.kind=3
 ·have y3:(d.kind == 3)=true:=by simp [h3]
  obtain ⟨b1,y1⟩:∃ b,(decide (0<=d.a) && decide (d.a < 3))=b:=⟨_,rfl⟩;obtain ⟨b2,y2⟩:∃ b,(decide (0<=d.b) && decide (d.b < 100))=b:=⟨_,rfl⟩;have HU:Aside0 (deedOk d n=(b1 && b2)):=⟨by unfold deedOk;rw [if_neg h1,if_neg h2,if_pos h3,<-y1,<-y2,inB_reg d.a,num_in d.b]⟩;rw [show partD d=_ from by unfold partD;rw [if_neg h1,if_neg h2,if_pos h3]];have Y1:=am y1;have Y2:=am y2;clear y1 y2;go_enter Try.func143,Try.ntmps143;cases b1;exact pdeedF;exact pdeedF
 have y3:(d.kind == 3)=false:=by simpa using h3
 by_cases h4:d.kind=4
 ·have y4:(d.kind == 4)=true:=by simp [h4]
  obtain ⟨b1,y1⟩:∃ b,(decide (0<=d.a) && decide (d.a < 3))=b:=⟨_,rfl⟩;obtain ⟨b2,y2⟩:∃ b,(decide (0<=d.b) && decide (d.b < 3))=b:=⟨_,rfl⟩;have HU:Aside0 (deedOk d n=(b1 && b2)):=⟨by unfold deedOk;rw [if_neg h1,if_neg h2,if_neg h3,if_pos h4,<-y1,<-y2,inB_reg d.a,inB_reg d.b]⟩;rw [show partD d=_ from by unfold partD;rw [if_neg h1,if_neg h2,if_neg h3,if_pos h4]];have Y1:=am y1;have Y2:=am y2;clear y1 y2;go_enter Try.func143,Try.ntmps143;cases b1;exact pdeedF;exact pdeedF
 have y4:(d.kind == 4)=false:=by simpa using h4
 by_cases h5:d.kind=5
 ·have y5:(d.kind == 5)=true:=by simp [h5]
  by_cases hb:d.b=0
  ·rw [show partD d=_ from by unfold partD;rw [if_neg h1,if_neg h2,if_neg h3,if_neg h4,if_pos h5,if_pos hb]]
   have HU:Aside0 (deedOk d n=(decide (0<=d.a) && decide (d.a < 3))):=⟨by unfold deedOk;rw [if_neg h1,if_neg h2,if_neg h3,if_neg h4,if_pos h5,decide_eq_true hb,Bool.and_true,inB_reg]⟩;have Y1:Aside0 (True):=⟨trivial⟩;go_enter Try.func143,Try.ntmps143
   go_wp2_with (first
   |((first|with_reducible refine gB ?_ | with_reducible refine gA ?_);refine oB rfl M.out ?_;clear M C;intro g W M C;simp only [Cl] at C)
   |((with_reducible refine gS ?_);refine oS rfl rfl rfl M.out ?_;clear M C;intro W M C;simp only [Cl] at C)
   |(go_at_call 128;refine oEb (isReg_calls _ _) rfl ?_))
   go_ret;rw [HU.out];exact ⟨rfl,M.out.below⟩
  ·rw [show partD d=_ from by unfold partD;rw [if_neg h1,if_neg h2,if_neg h3,if_neg h4,if_pos h5,if_neg hb]]
   have HU:Aside0 (deedOk d n=false):=⟨by unfold deedOk;rw [if_neg h1,if_neg h2,if_neg h3,if_neg h4,if_pos h5,decide_eq_false hb,Bool.and_false]⟩;go_enter Try.func143,Try.ntmps143;exact stageEF
 have y5:(d.kind == 5)=false:=by simpa using h5
 rw [show partD d=_ from by unfold partD;rw [if_neg h1,if_neg h2,if_neg h3,if_neg h4,if_neg h5]];have HU:Aside0 (deedOk d n=false):=⟨by unfold deedOk;rw [if_neg h1,if_neg h2,if_neg h3,if_neg h4,if_neg h5]⟩;go_enter Try.func143,Try.ntmps143;exact stageEF
def changeB (ds:List Deed) (n:Int):Bool:= !decide (n < 0) && !decide (3 < n) && !decide ((5:Int) < ds.length) && deedsOk ds n
theorem chgEF {q:Prop} (h:q:=by
  go_wp2;go_ret;rw [HU.out];exact ⟨rfl,M.out.below⟩):q:=h
theorem changeOk_calls (A:Option Addr) (c:Nat) (ds:List Deed) (n:Int) (w:World) (hd:kDeed.C w A ds.length ds) (hz:ds.length<=1048576):
  Calls Try.prog 127 #[.slice A ds.length c,.int .i64 n] w fun e w'=>e= .returned (.bool (changeB ds n))/\Below w.heap.size w w':=by
 have HD:=am hd;obtain ⟨b1,y1⟩:∃ b,decide (n < 0)=b:=⟨_,rfl⟩;obtain ⟨b2,y2⟩:∃ b,decide (3 < n)=b:=⟨_,rfl⟩;obtain ⟨b3,y3⟩:∃ b,decide ((5:Int) < (ds.length:Int))=b:=⟨_,rfl⟩;have HU:Aside0 (changeB ds n=(!b1 && !b2 && !b3 && deedsOk ds n)):=⟨by rw [<-y1,<-y2,<-y3];rfl⟩;have M:=am (Own.nil w);have C:=M.out.cl;clear hd;go_enter Try.func127,Try.ntmps127;cases b1
 case true=>exact chgEF
 cases b2
 case true=>exact chgEF
 cases b3
 case true=>exact chgEF
 go_wp2_with fail
 go_loopw [6,20] (fun _ j w'=>∃ k:Nat,k<=ds.length/\j= .int .i64 k/\Aside0 (∀ i,i < k->deedOk (deedAt ds i) n=true)/\Aside0 (Own w w' [])) (fun _ j _=>ds.length - (intOf j).toNat)
 case atStart=>exact ⟨0,Nat.zero_le _,rfl,⟨fun i hi=>by omega⟩,M⟩
 case round=>
  obtain ⟨k,hk,rfl,HJ,M2⟩:=hrel;clear M C;have M:=M2;clear M2;have C:=M.out.cl;simp only [Cl] at C;by_cases hlt:k < ds.length
  ·have q0:(0:Int)<=(k:Int):=by omega
   have q1:(k:Int) < (ds.length:Int):=by omega
   obtain ⟨b,o,cs,rfl,hcl,hK,hcc,-⟩:=C_field HD.out zDeed k hlt (by decide);obtain ⟨d,hdx⟩:∃ x,x=deedAt ds k:=⟨_,rfl⟩;rw [show ds.getD k zDeed=d from hdx.symm] at hK;have HKD:=am hK;obtain rfl:=kDeed_open hK;have HC:=am hcc;have HDX:=am hdx;obtain ⟨bx,yx⟩:∃ b,deedOk d n=b:=⟨_,rfl⟩;have YX:=am yx;clear hcl hK hcc hdx yx
   go_upto_if 28 with (first
   |((first|with_reducible refine gB ?_ | with_reducible refine gA ?_);refine oB rfl M.out ?_;clear M C;intro g W M C;simp only [Cl] at C)
   |((with_reducible refine gL ?_);refine oR rfl rfl M.out HC.out ?_)
   |((with_reducible refine gS ?_);refine oS rfl rfl rfl M.out ?_;clear M C;intro W M C;simp only [Cl] at C)
   |((with_reducible refine gL ?_);refine oL rfl rfl M.out ?_)
   |(go_at_call 144;refine oC M.out (partOfDeed_calls d _ _ (kDeed.K_below M.out.below HKD.out)) ?_;clear M C;intro W M C;simp only [Cl] at C)
   |(go_at_call 143;refine oCb M.out (deedOk_calls d n _) YX.out ?_;clear M C;intro W M C;simp only [Cl] at C))
   cases bx
   ·go_wp2
    go_ret;rw [HU.out,show deedsOk ds n=false from allB_no hlt (by rw [<-HDX.out];exact YX.out)];exact ⟨rfl,M.out.below⟩
   ·go_wp2
    go_roundw
    case rel=>exact ⟨k+1,by omega,by go_num,⟨fun i hi=>by rcases Nat.lt_or_ge i k with h | h;exact HJ.out i h;obtain rfl:i=k:=(by omega);rw [<-HDX.out];exact YX.out⟩,⟨M.out.pop⟩⟩
    case measure=>simp [intOf];omega
  ·obtain rfl:k=ds.length:=by omega
   have q1:¬ (ds.length:Int) < (ds.length:Int):=by omega
   go_wp2;go_ret;rw [HU.out,show deedsOk ds n=true from allB_iff.2 HJ.out];exact ⟨rfl,M.out.below⟩
def partA (a:Act) (vd vk:Value):Value:=
 if a.kind=1 then (if ((a.kids.length:Int) == 0) && (a.reg == 0) then .iface 160 (.agg #[vd]) else .nilIface)
 else if a.kind=2 then (if ((a.deeds.length:Int) == 0) && (a.reg == 0) then .iface 163 (.agg #[vk]) else .nilIface)
 else if a.kind=3 then (if ((a.deeds.length:Int) == 0) && ((a.kids.length:Int) == 0) && (a.reg == 0) then .iface 165 (.agg #[]) else .nilIface)
 else if a.kind=4 then (if ((a.deeds.length:Int) == 0) && ((a.kids.length:Int) == 0) then .iface 167 (.agg #[.int .i64 a.reg]) else .nilIface)
 else .nilIface
theorem paF {q:Prop} (h:q:=by
  go_wp2;go_ret;rw [HU.out];exact ⟨rfl,M.out.below⟩):q:=h
theorem partOfAct_calls (a:Act) (Ad:Option Addr) (cd:Nat) (Ak:Option Addr) (ck:Nat) (w:World):
  Calls Try.prog 99 #[.agg #[.int .i64 a.kind,.slice Ad a.deeds.length cd,.slice Ak a.kids.length ck,.int .i64 a.reg]] w fun e w'=>e= .returned (partA a (.slice Ad a.deeds.length cd) (.slice Ak a.kids.length ck))/\Below w.heap.size w w':=by
 have M:=am (Own.nil w);have C:=M.out.cl;obtain ⟨nd,yd⟩:∃ b,((a.deeds.length:Int) == 0)=b:=⟨_,rfl⟩;obtain ⟨nk,yk⟩:∃ b,((a.kids.length:Int) == 0)=b:=⟨_,rfl⟩;obtain ⟨nr,yr⟩:∃ b,(a.reg == 0)=b:=⟨_,rfl⟩;have YS:=am (And.intro yd (And.intro yk yr));go_enter Try.func99,Try.ntmps99
 go_wp2_with (first
 |((first|with_reducible refine gB ?_ | with_reducible refine gA ?_);refine oB rfl M.out ?_;clear M C;intro g W M C;simp only [Cl] at C))
 refine dS M.out ?_;clear M C;intro W M;refine dN [0,1,2,3,4,5,6,7,8,9,10,11,12,13] M.out ?_;iterate 14 (first|refine sP rfl ?_ | refine sG rfl ?_ | refine sU rfl ?_)
 refine stillS_nil ?_;refine dD ?_;have C:=M.out.cl;simp only [Cl] at C;by_cases h1:a.kind=1
 ·have y1:(a.kind == 1)=true:=by simp [h1]
  have y2:(a.kind == 2)=false:=by simp [h1]
  have y3:(a.kind == 3)=false:=by simp [h1]
  have y4:(a.kind == 4)=false:=by simp [h1]
  have HU:=am (show partA a (.slice Ad a.deeds.length cd) (.slice Ak a.kids.length ck)=_ from by unfold partA;rw [if_pos h1,YS.out.2.1,YS.out.2.2]);cases nk;exact paF;cases nr;exact paF;exact paF
 have y1:(a.kind == 1)=false:=by simpa using h1
 by_cases h2:a.kind=2
 ·have y2:(a.kind == 2)=true:=by simp [h2]
  have y3:(a.kind == 3)=false:=by simp [h2]
  have y4:(a.kind == 4)=false:=by simp [h2]
  have HU:=am (show partA a (.slice Ad a.deeds.length cd) (.slice Ak a.kids.length ck)=_ from by unfold partA;rw [if_neg h1,if_pos h2,YS.out.1,YS.out.2.2]);cases nd;exact paF;cases nr;exact paF;exact paF
 have y2:(a.kind == 2)=false:=by simpa using h2
 by_cases h3:a.kind=3
 ·have y3:(a.kind == 3)=true:=by simp [h3]
  have y4:(a.kind == 4)=false:=by simp [h3]
  have HU:=am (show partA a (.slice Ad a.deeds.length cd) (.slice Ak a.kids.length ck)=_ from by unfold partA;rw [if_neg h1,if_neg h2,if_pos h3,YS.out.1,YS.out.2.1,YS.out.2.2]);cases nd;exact paF;cases nk;exact paF;cases nr;exact paF;exact paF
 have y3:(a.kind == 3)=false:=by simpa using h3
 by_cases h4:a.kind=4
 ·have y4:(a.kind == 4)=true:=by simp [h4]
  have HU:=am (show partA a (.slice Ad a.deeds.length cd) (.slice Ak a.kids.length ck)=_ from by unfold partA;rw [if_neg h1,if_neg h2,if_neg h3,if_pos h4,YS.out.1,YS.out.2.1]);cases nd;exact paF;cases nk;exact paF;exact paF
 have y4:(a.kind == 4)=false:=by simpa using h4
 have HU:Aside0 (partA a (.slice Ad a.deeds.length cd) (.slice Ak a.kids.length ck)=_):=⟨by unfold partA;rw [if_neg h1,if_neg h2,if_neg h3,if_neg h4]⟩;exact paF
end Go.Proofs.Ytimamoimphjakaa.Eq
