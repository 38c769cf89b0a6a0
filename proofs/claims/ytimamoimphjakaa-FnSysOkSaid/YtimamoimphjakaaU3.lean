import Derived.Test.YtimamoimphjakaaU2
set_option maxHeartbeats 8000000
set_option maxRecDepth 100000
set_option linter.unusedVariables false
set_option linter.unusedSimpArgs false
namespace Go.Proofs.Ytimamoimphjakaa.Eq
open Go.RowKit Go.Proofs.YtimamoimphjakaaW.PrintWords Go.Proofs.YtimamoimphjakaaW.PrintLast Go.Proofs.YtimamoimphjakaaW.PrintMore
section
variable {w0:World} {g:Nat} {own:Nat->Nat} {vp vb:Value} {p:Prog} {s:Sys} {vc vt vl:Value}
theorem end_calls (i:Nat) (when_:Int) (w:World) (h:St 152 w0 g own vp vb p s vc vt vl w) (hi:i < s.tasks.length) (hn:s.tasks.length<=1048576) (hr:(tk s i).reads.length<=1048576) (hp:(tk s i).puts.length<=1048576) (hlg:s.log.length<=1073741824) (hpc0:0<=(tk s i).pc) (hpc1:(tk s i).pc<=1048576):
  Calls Try.prog 160 #[.pointer (some ⟨g,0,none⟩),.int .i64 i,.int .i64 when_] w fun e w'=>e= .returned (.tuple #[])/\∃ own' vl',St 152 w0 g own' vp vb p (done s i when_) vc vt vl' w'/\Fr w.heap.size own own' w w':=by
 have H:=am h;clear h;obtain ⟨b,cap,rfl,hb3,hbg⟩:=H.out.tform (by omega);obtain ⟨A0,c0,rfl⟩:=H.out.cslice;obtain ⟨Al,cl,rfl⟩:=H.out.lslice;obtain ⟨v3,v8,v9,v10,hcc,hf,h3,h8,h9,h10⟩:=H.out.task hi;obtain ⟨A3,c3,rfl,l3,g3⟩:=Kd.R_reads h3;obtain ⟨A8,c8,rfl,l8,g8⟩:=Kd.R_reads h8;obtain ⟨A9,c9,rfl,l9,g9⟩:=Kd.R_reads h9;obtain ⟨A10,c10,rfl,l10,g10⟩:=Kd.R_reads h10;have HCC:=am hcc;have BKc:=zc8 H.out.blk;have C9:=am g9;have C10:=am g10;have q0:(0:Int)<=(i:Int):=by omega
 have q1:(i:Int) < (s.tasks.length:Int):=by omega
 clear hcc hf h3 h8 h9 h10 g3 g8 g9 g10 l3 l8 l9 l10;have N0:=am H.out.new0;have BW:=H.out.below.size;go_enter Try.func160,Try.ntmps160
 go_wp2_with (first
  |((with_reducible refine gate_dst (N:=14) rfl ?_);refine wpList_load_mid rfl 38 (.tmp 13) rfl b (i*13) rfl _ _ HCC.out Try.underlying38 rfl (by kernel_rfl) ?_)
  |((with_reducible refine gate_dst (N:=6) rfl ?_);refine box_event rfl (N:=6) rfl (t:=38) (by go_simp<;>rfl) ?_;intro gt hg w2 hbox hb;have BKt0:=am hbox;have GT:=am hg;have HB2:=am hb;clear hbox hb hg BKc)
  |((with_reducible refine gate_store (t:=38) (p:=6) rfl ?_);refine store_block rfl rfl 38 (.tmp 6) (.tmp 14) rfl rfl rfl BKt0.out rfl (by kernel_rfl) (aB rfl) ?_;intro w3 hbox hg;have BKt:=am hbox;have hbx:=pw_below_grown HB2.out _ HB2.out.size hg (fun z hz=>by cases hz;exact Nat.le_of_eq GT.out.symm);have OT:=am (show own gt=0 by rw [GT.out];exact H.out.new0 _ (Nat.le_refl _));replace H:=am (H.out.grow hbx);have F2:=am (Fr.below (own:=own) hbx);replace C9:=am (Kd.C_below C9.out hbx);replace C10:=am (Kd.C_below C10.out hbx);clear hbox hg BKt0 hbx HB2 HCC;have F:=F2;clear F2;have BKc:=zc8 H.out.blk;have BKtc:=zc8 BKt.out))
 refine st9 (n:=25) (S:=fun W=>W.heap[g]? = some (.cells #[vp,vb,.slice A0 s.cells.length c0,.slice (some ⟨b,0,none⟩) s.tasks.length cap,.int .i64 s.clock,.slice Al s.log.length cl] 152 (0,0))/\W.heap[gt]? = some (.cells #[.int .i64 (tk s i).body,.int .i64 (tk s i).pc,.int .i64 (tk s i).up,.slice A3 (tk s i).regs.length c3,.int .i64 (tk s i).way,.int .i64 (tk s i).stage,.int .i64 (tk s i).at_,.int .i64 (tk s i).since,.slice A8 (tk s i).old.length c8,.slice A9 (tk s i).reads.length c9,.slice A10 (tk s i).puts.length c10,.int .i64 (tk s i).when_,.int .i64 (tk s i).from_] 38 (0,0))) (ds:= [21,22,23,24]) (by kernel_rfl) rfl ⟨blk_drew H.out.blk,blk_drew BKt.out⟩ (fun hHeld=> ?_);have hb:=below_drew (Below.refl w3.heap.size w3);generalize w3.drew=w4 at hb hHeld ⊢;have H2:=am (H.out.grow hb);have F2:=am (F.out.trans (Fr.less (Fr.below hb) F.out.size));have D9:=am (Kd.C_below C9.out hb);have D10:=am (Kd.C_below C10.out hb);clear H F C9 C10 hb BKc BKtc BKt;refine ba9 (fuel:=9) (n:=16) [0,1,2,3,4,5,6,7,8,9,10,11,13,14,16,17] (by kernel_rfl) (fun N _ _ _ _ h=>by cases N <;> exact h) hHeld ?_
 iterate 16 (
  refine stillS_step (v:= ?_) (a':= ?_) rfl (Or.inl ⟨by rfl, ?_⟩) ?_ ?_;rotate_left
  ·rintro W ⟨s0,s2⟩
   have t0:=zc8 s0;have t2:=zc8 s2;clear s0 s2;go_simp;with_reducible rfl
  rotate_left
  ·simp only [Act.put,sA,sZ,sS,i64_w]
   rfl)
 refine stillS_nil ?_;refine on9 (i:=12) (N:=some 27) rfl rfl (by kernel_rfl) (by decide) (fun K hK=> ?_);refine goes_ Try.func120 (by kernel_rfl) rfl #[.slice A9 (tk s i).reads.length c9] (by rfl) rfl rfl (by (try simp only [List.map_toArray,List.map_cons,List.map_nil]);first | done | rfl) ?_;refine (l11Puts_calls A9 c9 _ _ D9.out hr).mono ?_;rintro e wn ⟨v9,rfl,hv,hb⟩;obtain ⟨B9,d9,rfl⟩:=Kd.R_slice hv;refine ⟨_,rfl, ?_⟩;refine hK.out _ _ ⟨zb8 hHeld.1 hb,zb8 hHeld.2 hb⟩ (fun hHeld=> ?_);clear hK K;refine norm_ (a':= ?_) ?_ ?_;rotate_left
 ·show Act.put _ (some 27) _=_
  simp only [Act.put,sA,sZ,sS,i64_w];rfl
 have hsz:=F2.out.size;have H3:=am (H2.out.grow hb);have F3:=am (F2.out.trans (Fr.less (Fr.below hb) F2.out.size));clear H2 F2;have H2:=H3;have F2:=F3;clear H3 F3;replace D10:=am (Kd.C_below D10.out hb);have V9:=am (show kPut.R 103 wn w.heap.size (fun _=>True) (.slice B9 (tk s i).reads.length d9) (tk s i).reads from Kd.R_lower hv hsz);clear hsz hv hb D9;refine on9 (i:=15) (N:=some 30) rfl rfl (by kernel_rfl) (by decide) (fun K hK=> ?_);refine goes_ Try.func120 (by kernel_rfl) rfl #[.slice A10 (tk s i).puts.length c10] (by rfl) rfl rfl (by (try simp only [List.map_toArray,List.map_cons,List.map_nil]);first | done | rfl) ?_;refine (l11Puts_calls A10 c10 _ _ D10.out hp).mono ?_;rintro e wn ⟨v10,rfl,hv,hb⟩;obtain ⟨B10,d10,rfl⟩:=Kd.R_slice hv;refine ⟨_,rfl, ?_⟩;refine hK.out _ _ ⟨zb8 hHeld.1 hb,zb8 hHeld.2 hb⟩ (fun hHeld=> ?_);clear hK K;refine norm_ (a':= ?_) ?_ ?_;rotate_left
 ·show Act.put _ (some 30) _=_
  simp only [Act.put,sA,sZ,sS,i64_w];rfl
 have hsz:=F2.out.size;have H3:=am (H2.out.grow hb);have F3:=am (F2.out.trans (Fr.less (Fr.below hb) F2.out.size));clear H2 F2;have H2:=H3;have F2:=F3;clear H3 F3;replace V9:=am (Kd.R_below V9.out hb);have V10:=am (show kPut.R 103 wn w.heap.size (fun _=>True) (.slice B10 (tk s i).puts.length d10) (tk s i).puts from Kd.R_lower hv hsz);clear hsz hv hb D10;refine ba9 (fuel:=6) (n:=1) [18] (by kernel_rfl) (fun N _ _ _ _ h=>by cases N <;> exact h) hHeld ?_
 iterate 1 (
  refine stillS_step (v:= ?_) (a':= ?_) rfl (Or.inl ⟨by rfl, ?_⟩) ?_ ?_;rotate_left
  ·intro W hW
   go_simp
   with_reducible rfl
  rotate_left
  ·simp only [Act.put,sA,sZ,sS,i64_w]
   rfl)
 refine stillS_nil ?_;refine on9 (i:=19) (N:=some 34) rfl rfl (by kernel_rfl) (by decide) (fun K hK=> ?_);refine value_ (v:=.slice (some ⟨wn.heap.size,0,none⟩) 1 1) (w1:=wn.alloc (.cells #[.int .i64 i,.int .i64 (tk s i).pc,.int .i64 when_,.slice B9 (tk s i).reads.length d9,.slice B10 (tk s i).puts.length d10,.int .i64 (tk s i).from_] 119 (0,0))) (by rfl) rfl (by go_simp<;>rfl) ?_;have hHeld0:=hHeld;refine hK.out _ _ ⟨blk_alloc hHeld.1 _,blk_alloc hHeld.2 _⟩ (fun hHeld=> ?_);clear hK K;refine norm_ (a':= ?_) ?_ ?_;rotate_left
 ·show Act.put _ (some 34) _=_
  simp only [Act.put,sA,sZ,sS,i64_w];rfl
 refine on9 (i:=20) (N:=some 35) rfl rfl (by kernel_rfl) (by decide) (fun K hK=> ?_)
 have hE:kEntry.M wn w0.heap.size (fun k=>own k=0/\w.heap.size<=k) (⟨i,(tk s i).pc,when_,(tk s i).reads,(tk s i).puts,(tk s i).from_⟩:Entry) [.int .i64 i,.int .i64 (tk s i).pc,.int .i64 when_,.slice B9 (tk s i).reads.length d9,.slice B10 (tk s i).puts.length d10,.int .i64 (tk s i).from_]:=
  kEntry_mkM (⟨i,(tk s i).pc,when_,(tk s i).reads,(tk s i).puts,(tk s i).from_⟩:Entry) (Kd.R_lower (Kd.R_mono (Kd.R_bound V9.out) (fun k hk=>⟨N0.out k hk.2.1,hk.2.1⟩)) BW) (Kd.R_lower (Kd.R_mono (Kd.R_bound V10.out) (fun k hk=>⟨N0.out k hk.2.1,hk.2.1⟩)) BW)
 refine Kd.R_append_step kEntry (w0:=w0) w0.heap.size (by rfl) (.tmp 20) (.tmp 34) 25 119 (.agg #[.int .i64 0,.int .i64 0,.int .i64 0,.slice none 0 0,.slice none 0 0,.int .i64 0]) 80 rfl Try.underlying25 (by kernel_rfl) rfl (by decide) (by decide) (.slice Al s.log.length cl) s.log _ _ (fun k=>own k=4\/(own k=0/\w.heap.size<=k)) (fun k=>own k=0/\w.heap.size<=k) rfl rfl hE (fun k hk=>⟨.inr hk,fun he=>by have:=H2.out.log.1 k he.symm;omega⟩) (fun k hk=> .inr ⟨H2.out.new0 k hk,Nat.le_trans F2.out.size hk⟩) (Kd.R_mono H2.out.log (fun k hk=> .inl hk)) H2.out.below H2.out.below.size (by omega) ?_;intro v1 w6 hv1 hb6 hg6 hat6;have hgl:some g ≠ (Value.slice Al s.log.length cl).ownBlock:=fun he=>by have h5:own g=4:=H2.out.log.1 g he.symm;rw [H2.out.gown] at h5;cases h5
 have hgtl:some gt ≠ (Value.slice Al s.log.length cl).ownBlock:=fun he=>by have h5:own gt=4:=H2.out.log.1 gt he.symm;rw [OT.out] at h5;cases h5
 refine hK.out _ _ ⟨blk_grown hHeld0.1 hg6 hgl,blk_grown hHeld0.2 hg6 hgtl⟩ (fun hHeld=> ?_);clear hK K;refine norm_ (a':= ?_) ?_ ?_;rotate_left
 ·show Act.put _ (some 35) _=_
  simp only [Act.put,sA,sZ,sS,i64_w];rfl
 refine tail_ (fuel:=4) 21 (by kernel_rfl) ?_;simp only [List.drop_succ_cons,List.drop_zero];have BKg:=am hHeld.1;have BKt6:=am hHeld.2;have hgg:gt ≠ g:=fun he=>by have h5:=OT.out;rw [he,H2.out.gown] at h5;cases h5
 have V:=am hv1;have HG6:=am hg6;have HB6:=am hb6;have F:=F2;have ownc:=own;clear hHeld hHeld0 hv1 hg6 hb6 hat6 hgl hgtl V9 V10 hE;have BKc:=zc8 BKg.out
 go_wp2_with (first
 |((with_reducible refine gate_store (t:=25) (p:=38) rfl ?_);refine set_ev (u:=v1) rfl rfl _ _ rfl rfl rfl (R_cells V.out) (R_oneCell V.out) (by kernel_rfl) ⟨⟨_,by rw [zc8 BKg.out];rfl⟩,blk_frozen BKg.out _⟩ ?_;intro w7 hwn;obtain ⟨k1,k2⟩:=H2.out.logSet (B:=w.heap.size) BW F2.out.size HB6.out HG6.out V.out;rw [<-hwn] at k1 k2;have bkt:=blk_far (p:=⟨g,5,none⟩) BKt6.out hgg v1;rw [<-hwn] at bkt;obtain ⟨ownc,H7,F7⟩:∃ o,Aside0 (St 152 w0 g o vp vb p {s with log:=s.log ++ [⟨i,(tk s i).pc,when_,(tk s i).reads,(tk s i).puts,(tk s i).from_⟩]} (.slice A0 s.cells.length c0) (.slice (some ⟨b,0,none⟩) s.tasks.length cap) v1 w7)/\Aside0 (Fr w.heap.size own o w w7):=⟨_,⟨k1⟩,⟨F2.out.trans k2⟩⟩;have BKt7:=am bkt;clear bkt k1 k2 hwn BKc BKg;have BKc:=zc8 H7.out.blk;have BKtc:=zc8 BKt7.out))
 refine wp_region_still_tail 9 (by kernel_rfl) (by kernel_rfl) ?_;simp only [List.take_succ_cons,List.take_zero,List.drop_succ_cons,List.drop_zero];iterate 9 still_step
 refine wpStill_nil ?_;rw [show IntKind.i64.wrap ((tk s i).pc+1)=(tk s i).pc+1 from by rw [i64_w];unfold wrap64;omega];have hb:=below_drew (Below.refl w7.heap.size w7);show wpList _ _ _ _ _ w7.drew;generalize w7.drew=w8 at hb ⊢;have H:=am (H7.out.grow hb);have F:=am (F7.out.trans (Fr.less (Fr.below hb) F7.out.size));clear H7 F7 BKc BKtc BKt7 hb V H2 F2 HB6 HG6 BKt6;obtain ⟨s1,hs1⟩:∃ x:Sys,x= {s with log:=s.log ++ [⟨i,(tk s i).pc,when_,(tk s i).reads,(tk s i).puts,(tk s i).from_⟩]}:=⟨_,rfl⟩;have hi1:i < s1.tasks.length:=by rw [hs1];exact hi
 have hn1:s1.tasks.length<=1048576:=by rw [hs1];exact hn
 have ht1:tk s1 i=tk s i:=by rw [hs1];rfl
 rw [<-hs1] at H;have BKc:=zc8 H.out.blk
 go_wp2_with (first
 |((with_reducible refine gate_store (t:=3) (p:=49) rfl ?_);refine set_ev (u:=.int .i64 ((tk s i).pc+1)) rfl rfl _ _ rfl rfl rfl rfl rfl (by kernel_rfl) (H.out.ready (i:=i) (by first|exact hi1 | exact hi|(rw [set_len];exact hi1)) 1 (by decide)) ?_;intro wn hwn;obtain ⟨k1,k2⟩:=H.out.setInt (B:=w.heap.size) (i:=i) (by first|exact hi1 | exact hi|(rw [set_len];exact hi1)) 1 (by decide) ((tk s i).pc+1) {tk s i with pc:=(tk s i).pc+1} (fun _ _ _ _=>by first|(rw [ht1];rfl)|(rw [tk_set (by assumption)];rfl)) (by first|(rw [ht1];exact ⟨rfl,rfl,rfl,rfl⟩)|(rw [tk_set (by assumption)];exact ⟨rfl,rfl,rfl,rfl⟩));rw [<-hwn] at k1 k2;replace F:=am (F.out.trans k2);(try rw [set_set] at k1);replace H:=am k1;clear BKc k1 k2 hwn;have BKc:=zc8 H.out.blk)
 |((with_reducible refine gate_dst (N:=56) rfl ?_);refine Kd.R_lit (w0:=w0) kPut w0.heap.size 103 rfl (N:=56) rfl (xs:=([]:List Put)) (inner:= []) (ok:=fun k=>ownc k=0/\w.heap.size<=k) (okp:=fun _=>False) (by go_simp<;>rfl) (Reps.none _ _) (fun _ hk=>hk.elim) ⟨H.out.new0 _ (Nat.le_refl _),F.out.size⟩ H.out.below H.out.below.size (by simp) ?_;intro v1 wn hv1 hb3 hg3 hat;have hb:=grown_below hg3;have V:=am hv1;replace H:=am (H.out.grow hb);replace F:=am (F.out.trans (Fr.less (Fr.below hb) F.out.size));clear BKc hb3 hg3 hat hb hv1;have BKc:=zc8 H.out.blk)
 |((with_reducible refine gate_store (t:=36) (p:=58) rfl ?_);refine set_ev (u:=v1) rfl rfl _ _ rfl rfl rfl (R_cells V.out) (R_oneCell V.out) (by kernel_rfl) (H.out.ready (i:=i) (by first|exact hi1 | exact hi|(rw [set_len];exact hi1)) 9 (by decide)) ?_;intro wn hwn;obtain ⟨ownc,k1,k2,-⟩:=H.out.setReadsE (B:=w.heap.size) (i:=i) (by first|exact hi1 | exact hi|(rw [set_len];exact hi1)) V.out;rw [<-hwn] at k1 k2;replace F:=am (F.out.trans k2);(try rw [set_set,tk_set hi1] at k1);replace H:=am k1;clear BKc V k1 k2 hwn;have BKc:=zc8 H.out.blk)
 |((with_reducible refine gate_dst (N:=65) rfl ?_);refine Kd.R_lit (w0:=w0) kPut w0.heap.size 103 rfl (N:=65) rfl (xs:=([]:List Put)) (inner:= []) (ok:=fun k=>ownc k=0/\w.heap.size<=k) (okp:=fun _=>False) (by go_simp<;>rfl) (Reps.none _ _) (fun _ hk=>hk.elim) ⟨H.out.new0 _ (Nat.le_refl _),F.out.size⟩ H.out.below H.out.below.size (by simp) ?_;intro v1 wn hv1 hb3 hg3 hat;have hb:=grown_below hg3;have V:=am hv1;replace H:=am (H.out.grow hb);replace F:=am (F.out.trans (Fr.less (Fr.below hb) F.out.size));clear BKc hb3 hg3 hat hb hv1;have BKc:=zc8 H.out.blk)
 |((with_reducible refine gate_store (t:=36) (p:=67) rfl ?_);refine set_ev (u:=v1) rfl rfl _ _ rfl rfl rfl (R_cells V.out) (R_oneCell V.out) (by kernel_rfl) (H.out.ready (i:=i) (by first|exact hi1 | exact hi|(rw [set_len];exact hi1)) 10 (by decide)) ?_;intro wn hwn;obtain ⟨ownc,k1,k2,-⟩:=H.out.setPutsE (B:=w.heap.size) (i:=i) (by first|exact hi1 | exact hi|(rw [set_len];exact hi1)) V.out;rw [<-hwn] at k1 k2;replace F:=am (F.out.trans k2);(try rw [set_set,tk_set hi1] at k1);replace H:=am k1;clear BKc V k1 k2 hwn;have BKc:=zc8 H.out.blk)
 |((with_reducible refine gate_store (t:=3) (p:=75) rfl ?_);refine set_ev (u:=.int .i64 0) rfl rfl _ _ rfl rfl rfl rfl rfl (by kernel_rfl) (H.out.ready (i:=i) (by first|exact hi1 | exact hi|(rw [set_len];exact hi1)) 7 (by decide)) ?_;intro wn hwn;obtain ⟨k1,k2⟩:=H.out.setInt (B:=w.heap.size) (i:=i) (by first|exact hi1 | exact hi|(rw [set_len];exact hi1)) 7 (by decide) 0 {tk s i with pc:=(tk s i).pc+1,reads:= [],puts:= [],since:=0} (fun _ _ _ _=>by first|rfl|(rw [tk_set (by assumption)];rfl)) (by first|exact ⟨rfl,rfl,rfl,rfl⟩|(rw [tk_set (by assumption)];exact ⟨rfl,rfl,rfl,rfl⟩));rw [<-hwn] at k1 k2;replace F:=am (F.out.trans k2);(try rw [set_set] at k1);replace H:=am k1;clear BKc k1 k2 hwn;have BKc:=zc8 H.out.blk)
 |((with_reducible refine gate_store (t:=3) (p:=83) rfl ?_);refine set_ev (u:=.int .i64 0) rfl rfl _ _ rfl rfl rfl rfl rfl (by kernel_rfl) (H.out.ready (i:=i) (by first|exact hi1 | exact hi|(rw [set_len];exact hi1)) 11 (by decide)) ?_;intro wn hwn;obtain ⟨k1,k2⟩:=H.out.setInt (B:=w.heap.size) (i:=i) (by first|exact hi1 | exact hi|(rw [set_len];exact hi1)) 11 (by decide) 0 {tk s i with pc:=(tk s i).pc+1,reads:= [],puts:= [],since:=0,when_:=0} (fun _ _ _ _=>by first|rfl|(rw [tk_set (by assumption)];rfl)) (by first|exact ⟨rfl,rfl,rfl,rfl⟩|(rw [tk_set (by assumption)];exact ⟨rfl,rfl,rfl,rfl⟩));rw [<-hwn] at k1 k2;replace F:=am (F.out.trans k2);(try rw [set_set] at k1);replace H:=am k1;clear BKc k1 k2 hwn;have BKc:=zc8 H.out.blk)
 |((with_reducible refine gate_store (t:=3) (p:=91) rfl ?_);refine set_ev (u:=.int .i64 0) rfl rfl _ _ rfl rfl rfl rfl rfl (by kernel_rfl) (H.out.ready (i:=i) (by first|exact hi1 | exact hi|(rw [set_len];exact hi1)) 12 (by decide)) ?_;intro wn hwn;obtain ⟨k1,k2⟩:=H.out.setInt (B:=w.heap.size) (i:=i) (by first|exact hi1 | exact hi|(rw [set_len];exact hi1)) 12 (by decide) 0 {tk s i with pc:=(tk s i).pc+1,reads:= [],puts:= [],since:=0,when_:=0,from_:=0} (fun _ _ _ _=>by first|rfl|(rw [tk_set (by assumption)];rfl)) (by first|exact ⟨rfl,rfl,rfl,rfl⟩|(rw [tk_set (by assumption)];exact ⟨rfl,rfl,rfl,rfl⟩));rw [<-hwn] at k1 k2;replace F:=am (F.out.trans k2);(try rw [set_set] at k1);replace H:=am k1;clear BKc k1 k2 hwn;have BKc:=zc8 H.out.blk)
 |(go_at_call 154;refine (stage_calls i 0 _ H.out (by rw [set_len];exact hi1) (by rw [set_len];exact hn1)).mono ?_;rintro e w9 ⟨rfl,h1,f1⟩;have H2:=am h1;have F2:=am (F.out.trans (Fr.less f1 F.out.size));clear H F BKc h1 f1))
 refine bodyPost_end (results_none rfl _ _ _) rfl ?_;have h:=H2.out;unfold toStage at h;rw [set_set,tk_set hi1,hs1] at h;exact ⟨rfl,ownc,_,h,F2.out⟩
end
section
variable {w0:World} {g:Nat} {own:Nat->Nat} {vp vb:Value} {p:Prog} {s:Sys} {vc vt vl:Value}
theorem write_calls (i:Nat) (w:World) (h:St 152 w0 g own vp vb p s vc vt vl w) (hi:i < s.tasks.length) (hn:s.tasks.length<=1048576) (hm:s.cells.length<=1048576) (hr:(tk s i).reads.length<=1048576) (hpn:(tk s i).puts.length<=1048576) (hlg:s.log.length<=1073741824) (hpc0:0<=(tk s i).pc) (hpc1:(tk s i).pc<=1048576) (ha:0<=(tk s i).at_) (ha1:(tk s i).at_ < (tk s i).puts.length) (hp:0<=(putAt (tk s i).puts (tk s i).at_.toNat).cell/\(putAt (tk s i).puts (tk s i).at_.toNat).cell < s.cells.length):
  Calls Try.prog 156 #[.pointer (some ⟨g,0,none⟩),.int .i64 i] w fun e w'=>e= .returned (.tuple #[])/\∃ own' vl',St 152 w0 g own' vp vb p (write s i) vc vt vl' w'/\Fr w.heap.size own own' w w':=by
 have H:=am h;clear h;obtain ⟨ka,hka⟩:=Int.eq_ofNat_of_zero_le ha;rw [hka,Int.toNat_natCast] at hp;obtain ⟨hp0,hp1⟩:=hp;obtain ⟨k,hkc⟩:=Int.eq_ofNat_of_zero_le hp0;have hk:k < s.cells.length:=by omega
 obtain ⟨b,cap,rfl,hb3,hbg⟩:=H.out.tform (by omega);obtain ⟨bc,c0,rfl,hb2,hbcg⟩:=H.out.cform (by omega);obtain ⟨Al,cl,rfl⟩:=H.out.lslice;obtain ⟨v3,v8,v9,v10,hcc,hf,h3,h8,h9,h10⟩:=H.out.task hi;obtain ⟨A3,c3,rfl,l3,g3⟩:=Kd.R_reads h3;obtain ⟨A8,c8,rfl,l8,g8⟩:=Kd.R_reads h8;obtain ⟨A9,c9,rfl,l9,g9⟩:=Kd.R_reads h9;obtain ⟨A10,c10,rfl,l10,g10⟩:=Kd.R_reads h10;have HCC:=am hcc;have BKc:=zc8 H.out.blk;have C9:=am g9;have C10:=am g10;have q0:(0:Int)<=(i:Int):=by omega
 have q1:(i:Int) < (s.tasks.length:Int):=by omega
 clear hcc hf h3 h8 h9 h10 g3 g8 g9 g10 l3 l8 l9 l10;have HKA:=am hka;have HKC:=am hkc;have q2:(0:Int)<=(tk s i).at_:=by omega
 have q3:(tk s i).at_ < ((tk s i).puts.length:Int):=by omega
 have q4:(tk s i).at_.toNat=ka:=by omega
 have q5:(0:Int)<=(k:Int):=by omega
 have q6:(k:Int) < (s.cells.length:Int):=by omega
 clear hka hkc hp0 hp1;go_enter Try.func156,Try.ntmps156
 go_wp2_with (first
  |((with_reducible refine gate_dst (N:=13) rfl ?_);refine wpList_load_mid rfl 38 (.tmp 12) rfl b (i*13) rfl _ _ HCC.out Try.underlying38 rfl (by kernel_rfl) ?_)
  |((with_reducible refine gate_dst (N:=4) rfl ?_);refine box_event rfl (N:=4) rfl (t:=38) (by go_simp<;>rfl) ?_;intro gt hg w2 hbox hb;have BKt0:=am hbox;have GT:=am hg;have HB2:=am hb;clear hbox hb hg BKc)
  |((with_reducible refine gate_store (t:=38) (p:=4) rfl ?_);refine store_block rfl rfl 38 (.tmp 4) (.tmp 13) rfl rfl rfl BKt0.out rfl (by kernel_rfl) (aB rfl) ?_;intro w3 hbox hg;have BKt:=am hbox;have hbx:=pw_below_grown HB2.out _ HB2.out.size hg (fun z hz=>by cases hz;exact Nat.le_of_eq GT.out.symm);have OT:=am (show own gt=0 by rw [GT.out];exact H.out.new0 _ (Nat.le_refl _));replace H:=am (H.out.grow hbx);have F2:=am (Fr.below (own:=own) hbx);replace C9:=am (Kd.C_below C9.out hbx);replace C10:=am (Kd.C_below C10.out hbx);clear hbox hg BKt0 hbx HB2 HCC;have F:=F2;clear F2;have BKc:=zc8 H.out.blk;have BKtc:=zc8 BKt.out;obtain ⟨b10,o10,cs10,rfl,hcl10,hK10,hcc10,-⟩:=C_field C10.out zPut ka (by omega) (by decide);have e10:=kPut_open hK10;subst e10;obtain ⟨x10,hx10⟩:∃ x,x=putAt (tk s i).puts ka:=⟨_,rfl⟩;rw [show List.getD (tk s i).puts ka zPut=x10 from hx10.symm] at hcc10;have X10:=am hx10;clear hx10;have p100:=hcc10 0 _ rfl;have p101:=hcc10 1 _ rfl;simp only [show kPut.sz=2 from rfl,Nat.add_zero] at p100 p101;clear hcc10 hK10 hcl10;rw [X10.out,HKC.out] at p100;obtain ⟨hcl,hclf⟩:=H.out.cell hk;have k0:=hcl 0 _ rfl;have k1c:=hcl 1 _ rfl;have k2:=hcl 2 _ rfl;rw [Nat.add_zero] at k0;have HCF:=am hclf;clear hcl hclf)
  |((with_reducible refine gate_dst (N:=5) rfl ?_);refine box_event rfl (N:=5) rfl (t:=103) (by go_simp<;>rfl) ?_;intro gx hg w4 hbox hb;have BKx0:=am hbox;have GX:=am hg;have HB4:=am hb;clear hbox hb hg)
  |((with_reducible refine gate_store (t:=103) (p:=5) rfl ?_);refine store_block rfl rfl 103 (.tmp 5) (.tmp 19) rfl rfl rfl BKx0.out rfl (by kernel_rfl) (aB rfl) ?_;intro w5 hbox hg;have BKx:=am hbox;have hb:=pw_below_grown HB4.out _ HB4.out.size hg (fun z hz=>by cases hz;exact Nat.le_of_eq GX.out.symm);have OX:=am (show own gx=0 by rw [GX.out];exact H.out.new0 _ (Nat.le_refl _));replace H:=am (H.out.grow hb);replace F:=am (F.out.trans (Fr.less (Fr.below hb) F.out.size));replace BKt:=am (zb8 BKt.out hb);clear BKc BKtc hb;have BKc:=zc8 H.out.blk;have BKtc:=zc8 BKt.out;clear hbox hg BKx0 HB4;have BKxc:=zc8 BKx.out))
 refine wp_region_still_tail 12 (by kernel_rfl) (by kernel_rfl) ?_;simp only [List.take_succ_cons,List.take_zero,List.drop_succ_cons,List.drop_zero];iterate 12 still_step
 refine wpStill_nil ?_;have hb:=below_drew (Below.refl w5.heap.size w5);show wpList _ _ _ _ _ w5.drew;generalize w5.drew=w6 at hb ⊢;replace H:=am (H.out.grow hb);replace F:=am (F.out.trans (Fr.less (Fr.below hb) F.out.size));replace BKt:=am (zb8 BKt.out hb);clear BKc BKtc hb;have BKc:=zc8 H.out.blk;have BKtc:=zc8 BKt.out;have HB2:=am hb2;have HB3:=am hb3;clear hb2 hb3 k0 k1c k2 HCF BKxc;obtain ⟨hcl,hclf⟩:=H.out.cell hk;have HCL:=am hcl;have HCF:=am hclf;clear hcl hclf
 go_wp2_with (first
 |((with_reducible refine gate_store (t:=53) (p:=32) rfl ?_);refine seg_ev rfl rfl _ _ rfl (g:=bc) (off:=k*3) rfl [.int .i64 x10.num,.int .i64 (tk s i).when_,.int .i64 (-1)] rfl (by kernel_rfl) (aB rfl) (fun j hj=>⟨by (have hj3:j < [Value.int .i64 (cellAt s.cells k).num,.int .i64 (cellAt s.cells k).time,.int .i64 (cellAt s.cells k).lock].length:=hj);rw [HCL.out j _ (List.getElem?_eq_getElem hj3)];rfl,HCF.out j⟩) ?_;intro w7 hwn;obtain ⟨k1,k3⟩:=H.out.cseg (B:=w.heap.size) hk (seg:= [.int .i64 x10.num,.int .i64 (tk s i).when_,.int .i64 (-1)]) (j:=0) (x':=⟨x10.num,(tk s i).when_,-1⟩) (Nat.le_refl 3) rfl;rw [Nat.add_zero] at k1 k3;replace H:=am (show St 152 w0 g own vp vb p (setCell s k ⟨x10.num,(tk s i).when_,-1⟩) (.slice (some ⟨bc,0,none⟩) s.cells.length c0) (.slice (some ⟨b,0,none⟩) s.tasks.length cap) (.slice Al s.log.length cl) w7 by rw [hwn];exact k1);replace F:=am (F.out.trans (show Fr w.heap.size own own w6 w7 by rw [hwn];exact k3));have bkt:w7.heap[gt]? = some (.cells #[.int .i64 (tk s i).body,.int .i64 (tk s i).pc,.int .i64 (tk s i).up,.slice A3 (tk s i).regs.length c3,.int .i64 (tk s i).way,.int .i64 (tk s i).stage,.int .i64 (tk s i).at_,.int .i64 (tk s i).since,.slice A8 (tk s i).old.length c8,.slice A9 (tk s i).reads.length c9,.slice (some ⟨b10,o10,none⟩) (tk s i).puts.length c10,.int .i64 (tk s i).when_,.int .i64 (tk s i).from_] 38 (0,0)):=(by rw [hwn,setCells_far _ _ gt (fun he=>by have h5:=OT.out;rw [show gt=bc from he,HB2.out] at h5;cases h5)];exact BKt.out);replace BKt:=am bkt;clear BKc BKtc k1 k3 hwn HCF HCL bkt;have BKc:=zc8 H.out.blk;have BKtc:=zc8 BKt.out))
 have hk2:(putAt (tk s i).puts (tk s i).at_.toNat).cell.toNat=k:=by rw [q4,HKC.out];rfl
 have hk3:(putAt (tk s i).puts (tk s i).at_.toNat).num=x10.num:=by rw [q4,<-X10.out]
 have HK2:=am hk2;have HK3:=am hk3;clear hk2 hk3
 cases hfin:((tk s i).at_+1 == ((tk s i).puts.length:Int)) with
 | true=>
  have HF:=am (of_decide_eq_true (by simpa using hfin):(tk s i).at_+1=((tk s i).puts.length:Int));refine wp_region_still_tail 9 (by kernel_rfl) (by kernel_rfl) ?_;simp only [List.take_succ_cons,List.take_zero,List.drop_succ_cons,List.drop_zero];iterate 9 still_step
  refine wpStill_nil ?_;rw [show IntKind.i64.wrap ((tk s i).at_+1)=(tk s i).at_+1 from by rw [i64_w];unfold wrap64;omega];have hb:=below_drew (Below.refl w7.heap.size w7);show wpList _ _ _ _ _ w7.drew;generalize w7.drew=w8 at hb ⊢;replace H:=am (H.out.grow hb);replace F:=am (F.out.trans (Fr.less (Fr.below hb) F.out.size));replace BKt:=am (zb8 BKt.out hb);clear BKc BKtc hb;have BKc:=zc8 H.out.blk;have BKtc:=zc8 BKt.out;obtain ⟨s1,hs1⟩:∃ x:Sys,x=setCell s k ⟨x10.num,(tk s i).when_,-1⟩:=⟨_,rfl⟩;have hi1:i < s1.tasks.length:=by rw [hs1];exact hi
  have hn1:s1.tasks.length<=1048576:=by rw [hs1];exact hn
  have ht1:tk s1 i=tk s i:=by rw [hs1];rfl
  rw [<-hs1] at H BKc
  go_wp2_with (first
  |((with_reducible refine gate_store (t:=3) (p:=43) rfl ?_);refine set_ev (u:=.int .i64 ((tk s i).at_+1)) rfl rfl _ _ rfl rfl rfl rfl rfl (by kernel_rfl) (H.out.ready (i:=i) (by first|exact hi1 | exact hi|(rw [set_len];exact hi1)) 6 (by decide)) ?_;intro wn hwn;obtain ⟨k1,k2⟩:=H.out.setInt (B:=w.heap.size) (i:=i) (by first|exact hi1 | exact hi|(rw [set_len];exact hi1)) 6 (by decide) ((tk s i).at_+1) {tk s i with at_:=(tk s i).at_+1} (fun _ _ _ _=>by first|(rw [ht1];rfl)|(rw [tk_set (by assumption)];rfl)) (by first|(rw [ht1];exact ⟨rfl,rfl,rfl,rfl⟩)|(rw [tk_set (by assumption)];exact ⟨rfl,rfl,rfl,rfl⟩));rw [<-hwn] at k1 k2;replace F:=am (F.out.trans k2);(try rw [set_set] at k1);replace H:=am k1;have bkt:=blk_far (p:=⟨b,i*13+6,none⟩) BKt.out (fun he=>by have h5:=OT.out;rw [show gt=b from he,HB3.out] at h5;cases h5) (Value.int .i64 ((tk s i).at_+1));rw [<-hwn] at bkt;have BKt3:=am bkt;clear BKc k1 k2 hwn bkt BKt BKtc;have BKtc:=zc8 BKt3.out;have BKc:=zc8 H.out.blk)
  |(go_at_call 160;refine (end_calls i _ _ H.out (by rw [set_len];exact hi1) (by rw [set_len];exact hn1) (by rw [tk_set hi1];exact hr) (by rw [tk_set hi1];exact hpn) (by rw [show (setTask s1 i _).log=s1.log from rfl,hs1];exact hlg) (by rw [tk_set hi1];exact hpc0) (by rw [tk_set hi1];exact hpc1)).mono ?_;rintro e w9 ⟨rfl,ownc,vlc,h1,f1⟩;have H2:=am h1;have F2:=am (F.out.trans (Fr.less f1 F.out.size));clear H F BKc h1 f1))
  refine bodyPost_end (results_none rfl _ _ _) rfl ?_;have h:=H2.out;refine ⟨rfl,ownc,vlc, ?_,F2.out⟩;unfold write;simp only [HK2.out,HK3.out,if_pos HF.out];rw [hs1] at h
  exact h
 | false=>
  have HF:=am (of_decide_eq_false (by simpa using hfin):¬ (tk s i).at_+1=((tk s i).puts.length:Int));refine wp_region_still_tail 9 (by kernel_rfl) (by kernel_rfl) ?_;simp only [List.take_succ_cons,List.take_zero,List.drop_succ_cons,List.drop_zero];iterate 9 still_step
  refine wpStill_nil ?_;rw [show IntKind.i64.wrap ((tk s i).at_+1)=(tk s i).at_+1 from by rw [i64_w];unfold wrap64;omega];have hb:=below_drew (Below.refl w7.heap.size w7);show wpList _ _ _ _ _ w7.drew;generalize w7.drew=w8 at hb ⊢;replace H:=am (H.out.grow hb);replace F:=am (F.out.trans (Fr.less (Fr.below hb) F.out.size));replace BKt:=am (zb8 BKt.out hb);clear BKc BKtc hb;have BKc:=zc8 H.out.blk;have BKtc:=zc8 BKt.out;obtain ⟨s1,hs1⟩:∃ x:Sys,x=setCell s k ⟨x10.num,(tk s i).when_,-1⟩:=⟨_,rfl⟩;have hi1:i < s1.tasks.length:=by rw [hs1];exact hi
  have hn1:s1.tasks.length<=1048576:=by rw [hs1];exact hn
  have ht1:tk s1 i=tk s i:=by rw [hs1];rfl
  rw [<-hs1] at H BKc
  go_wp2_with (first
  |((with_reducible refine gate_store (t:=3) (p:=43) rfl ?_);refine set_ev (u:=.int .i64 ((tk s i).at_+1)) rfl rfl _ _ rfl rfl rfl rfl rfl (by kernel_rfl) (H.out.ready (i:=i) (by first|exact hi1 | exact hi|(rw [set_len];exact hi1)) 6 (by decide)) ?_;intro wn hwn;obtain ⟨k1,k2⟩:=H.out.setInt (B:=w.heap.size) (i:=i) (by first|exact hi1 | exact hi|(rw [set_len];exact hi1)) 6 (by decide) ((tk s i).at_+1) {tk s i with at_:=(tk s i).at_+1} (fun _ _ _ _=>by first|(rw [ht1];rfl)|(rw [tk_set (by assumption)];rfl)) (by first|(rw [ht1];exact ⟨rfl,rfl,rfl,rfl⟩)|(rw [tk_set (by assumption)];exact ⟨rfl,rfl,rfl,rfl⟩));rw [<-hwn] at k1 k2;replace F:=am (F.out.trans k2);(try rw [set_set] at k1);replace H:=am k1;have bkt:=blk_far (p:=⟨b,i*13+6,none⟩) BKt.out (fun he=>by have h5:=OT.out;rw [show gt=b from he,HB3.out] at h5;cases h5) (Value.int .i64 ((tk s i).at_+1));rw [<-hwn] at bkt;have BKt3:=am bkt;clear BKc k1 k2 hwn bkt BKt BKtc;have BKtc:=zc8 BKt3.out;have BKc:=zc8 H.out.blk))
  refine bodyPost_end (results_none rfl _ _ _) rfl ?_;have h:=H.out;rw [hs1] at h;refine ⟨rfl,own,⟨Value.slice Al s.log.length cl, ?_⟩,F.out⟩;unfold write;simp only [HK2.out,HK3.out,if_neg HF.out];exact h
end
def regWorld (w1:World) (gr:Nat) (regs:List Int) (d:Deed):World:=
 if d.kind=3 then w1.setCell ⟨gr,d.a.toNat,none⟩ (.int .i64 d.b) else if d.kind=4 then w1.setCell ⟨gr,d.a.toNat,none⟩ (.int .i64 ((numAt regs d.a.toNat+numAt regs d.b.toNat) % 100)) else w1
theorem l2Reg_calls (gr n c base:Nat) (ok:Nat->Prop) (regs:List Int) (kind a b:Int) (w:World) (hr:(Kd.int .i64).R 3 w base ok (.slice (some ⟨gr,0,none⟩) n c) regs) (hn:n<=1048576)
  (ha:0<=a/\a < n) (hb:kind=4->0<=b/\b < n) (hnum:∀ k,k < regs.length->0<=numAt regs k/\numAt regs k<=99):
  Calls Try.prog 163 #[.slice (some ⟨gr,0,none⟩) n c,.agg #[.int .i64 kind,.int .i64 a,.int .i64 b]] w fun e w'=>e= .returned (.tuple #[])/\∃ w1,Below w.heap.size w w1/\
   w'=regWorld w1 gr regs ⟨kind,a,b⟩:=by
 obtain ⟨ka,rfl⟩:=Int.eq_ofNat_of_zero_le ha.1;obtain ⟨ha0,ha1⟩:=ha;obtain ⟨ea,he1,hM1,he2,hf1⟩:=Kd.R_elem hr 0 (ka:Int) ha0 (by omega);have hea:ea= [Value.int .i64 (rd regs ka)]:=hM1;subst hea;have c_a:=he2 0 _ rfl;have f_a:=hf1 0;simp only [Int.toNat_natCast,show (Kd.int .i64).sz=1 from rfl,Nat.mul_one,Nat.add_zero] at c_a f_a;have hlt:gr < w.heap.size:=World.block_lt_of_cell? _ _ c_a;by_cases h3:kind=3
 ·subst h3
  go_enter Try.func163,Try.ntmps163;go_wp2_with ((with_reducible refine gate_dst (N:=3) rfl ?_);refine box_event rfl (N:=3) rfl (t:=111) (by go_simp<;>rfl) ?_;intro gx hg w1 hbox hb;have BKx:=am hbox;have GX:=am hg;have HB:=am hb;have BKxc:=zc8 hbox;rw [<-(bcell hb).1 _ _ hlt] at c_a;rw [<-(bcell hb).2 _ _ hlt] at f_a;clear hbox hb hg)
  refine bodyPost_end (results_none rfl _ _ _) rfl ?_;exact ⟨rfl,w1,HB.out,by unfold regWorld;simp⟩
 ·have y3:(kind == 3)=false:=by simp [h3]
  by_cases h4:kind=4
  ·subst h4
   obtain ⟨hb0,hb1⟩:=hb rfl;obtain ⟨kb,rfl⟩:=Int.eq_ofNat_of_zero_le hb0;obtain ⟨eb,hb2,hM2,hb3,_⟩:=Kd.R_elem hr 0 (kb:Int) hb0 (by omega);have heb:eb= [Value.int .i64 (rd regs kb)]:=hM2;subst heb;have c_b:=hb3 0 _ rfl;simp only [Int.toNat_natCast,show (Kd.int .i64).sz=1 from rfl,Nat.mul_one,Nat.add_zero] at c_b;go_enter Try.func163,Try.ntmps163;go_wp2_with ((with_reducible refine gate_dst (N:=3) rfl ?_);refine box_event rfl (N:=3) rfl (t:=111) (by go_simp<;>rfl) ?_;intro gx hg w1 hbox hb;have BKx:=am hbox;have GX:=am hg;have HB:=am hb;have BKxc:=zc8 hbox;rw [<-(bcell hb).1 _ _ hlt] at c_a;rw [<-(bcell hb).2 _ _ hlt] at f_a;rw [<-(bcell hb).1 _ _ hlt] at c_b;clear hbox hb hg)
   refine wp_region_still_tail 15 (by kernel_rfl) (by kernel_rfl) ?_;simp only [List.take_succ_cons,List.take_zero,List.drop_succ_cons,List.drop_zero];iterate 15 still_step
   refine wpStill_nil ?_;have hs0:=hnum ka (by have:=(Kd.R_reads' hr).1;omega);have hs1:=hnum kb (by have:=(Kd.R_reads' hr).1;omega);have e0:rd regs (ka:Int)=numAt regs ka:=rfl;have e1:rd regs (kb:Int)=numAt regs kb:=rfl;rw [e0,e1,show (IntKind.i64.wrap (numAt regs ka+numAt regs kb)).tmod 100=(numAt regs ka+numAt regs kb) % 100 from by rw [i64_w];unfold wrap64;rw [Int.tmod_eq_emod_of_nonneg (by omega)];omega];show wpList _ _ _ _ _ w1.drew;have hb:=below_drew (Below.refl w1.heap.size w1);have hlt1:gr < w1.heap.size:=Nat.lt_of_lt_of_le hlt HB.out.size;rw [e0,<-(bcell hb).1 _ _ hlt1] at c_a;rw [<-(bcell hb).2 _ _ hlt1] at f_a;have HB2:=am (below_step HB.out hb);clear BKxc hb HB;generalize w1.drew=w2 at c_a f_a HB2 ⊢;go_wp2;refine bodyPost_end (results_none rfl _ _ _) rfl ?_;exact ⟨rfl,w2,HB2.out,by unfold regWorld;simp⟩
  ·have y4:(kind == 4)=false:=by simp [h4]
   have H3:=am h3;have H4:=am h4;clear h3 h4;go_enter Try.func163,Try.ntmps163;go_wp2_with ((with_reducible refine gate_dst (N:=3) rfl ?_);refine box_event rfl (N:=3) rfl (t:=111) (by go_simp<;>rfl) ?_;intro gx hg w1 hbox hb;have BKx:=am hbox;have GX:=am hg;have HB:=am hb;have BKxc:=zc8 hbox;rw [<-(bcell hb).1 _ _ hlt] at c_a;rw [<-(bcell hb).2 _ _ hlt] at f_a;clear hbox hb hg)
   refine bodyPost_end (results_none rfl _ _ _) rfl ?_;exact ⟨rfl,_,HB.out,by unfold regWorld;rw [if_neg H3.out,if_neg H4.out]⟩
section
variable {w0:World} {g:Nat} {own:Nat->Nat} {vp vb:Value} {p:Prog} {s:Sys} {vc vt vl:Value}
theorem St.regDo {T B b cap n n' c gr:Nat} {W W1:World} (h:St T w0 g own vp vb p s vc (.slice (some ⟨b,0,none⟩) n cap) vl W) {i:Nat} (hi:i < s.tasks.length) (hB:B<=W.heap.size) (hb:Below W.heap.size W W1)
  (hc:W.cell? ⟨b,i*13+3,none⟩=some (.slice (some ⟨gr,0,none⟩) n' c)) (d:Deed) (ha:d.a.toNat < (tk s i).regs.length):
  St T w0 g own vp vb p (setTask s i {tk s i with regs:=regDo (tk s i).regs d}) vc (.slice (some ⟨b,0,none⟩) n cap) vl (regWorld W1 gr (tk s i).regs d)/\Fr B own own W (regWorld W1 gr (tk s i).regs d):=by
 have h1:=h.grow hb;have hc1:W1.cell? ⟨b,i*13+3,none⟩=some (.slice (some ⟨gr,0,none⟩) n' c):=cellB hb hc;have f0:Fr B own own W W1:=Fr.less (Fr.below hb) hB;unfold Eq.regDo regWorld;by_cases h3:d.kind=3
 ·rw [if_pos h3,if_pos h3]
  obtain ⟨k1,k2⟩:=h1.regSet (B:=B) hi hc1 d.a.toNat ha d.b;exact ⟨k1,f0.trans k2⟩
 ·rw [if_neg h3,if_neg h3]
  by_cases h4:d.kind=4
  ·rw [if_pos h4,if_pos h4]
   obtain ⟨k1,k2⟩:=h1.regSet (B:=B) hi hc1 d.a.toNat ha ((numAt (tk s i).regs d.a.toNat+numAt (tk s i).regs d.b.toNat) % 100);exact ⟨k1,f0.trans k2⟩
  ·rw [if_neg h4,if_neg h4]
   refine ⟨?_,f0⟩
   have:setTask s i {tk s i with regs:=(tk s i).regs} = s:=set_same hi
   rw [this];exact h1
theorem regWorld_far {W1:World} {gr k:Nat} (hk:k ≠ gr) (regs:List Int) (d:Deed):(regWorld W1 gr regs d).heap[k]? = W1.heap[k]? :=by
 unfold regWorld;split
 ·exact Below.heap_setCell W1 _ _ k hk
 ·split
  ·exact Below.heap_setCell W1 _ _ k hk
  ·rfl
theorem deed_kinds {d:Deed} {cells:Int} (h:deedOk d cells=true):(d.kind=1->(0<=d.a/\d.a<=2)/\0<=d.b/\d.b < cells)/\(d.kind=2->(0<=d.a/\d.a < cells)/\0<=d.b/\d.b<=2)/\(d.kind ≠ 1->d.kind ≠ 2->0<=d.a/\d.a<=2)/\(d.kind=4->0<=d.b/\d.b<=2):=by
 unfold deedOk at h;refine ⟨fun k=> ?_,fun k=> ?_,fun k1 k2=> ?_,fun k=> ?_⟩
 ·rw [if_pos k] at h
  simp only [Bool.and_eq_true,inB_iff] at h;omega
 ·rw [if_neg (by omega),if_pos k] at h
  simp only [Bool.and_eq_true,inB_iff] at h;omega
 ·rw [if_neg k1,if_neg k2] at h
  repeat' split at h
  all_goals simp only [Bool.and_eq_true,inB_iff,Bool.false_eq_true] at h
  all_goals omega
 ·rw [if_neg (by omega),if_neg (by omega),if_neg (by omega),if_pos k] at h
  simp only [Bool.and_eq_true,inB_iff] at h;omega
theorem deed_calls {N:Nat} (i:Nat) (Ad:Option Addr) (cd:Nat) (ds:List Deed) (w:World) (h:St 152 w0 g own vp vb p s vc vt vl w) (hinv:Inv p s N) (hN:N<=1048576) (hi:i < s.tasks.length) (hds:kDeed.C w Ad ds.length ds) (hdl:ds.length<=1048576) (hok:∀ k,k < ds.length->deedOk (deedAt ds k) s.cells.length=true):
  Calls Try.prog 152 #[.pointer (some ⟨g,0,none⟩),.int .i64 i,.slice Ad ds.length cd] w fun e w'=>e= .returned (.tuple #[])/\∃ own' vl',St 152 w0 g own' vp vb p (deed s i ds) vc vt vl' w'/\Fr w.heap.size own own' w w':=by
 have H:=am h;clear h;have t:=hinv.task i hi;have hn:s.tasks.length<=1048576:=Nat.le_trans hinv.many hN;have hm:s.cells.length<=1048576:=Nat.le_trans hinv.cn (by decide);have ho:(tk s i).old.length<=1048576:=by rw [t.old.len];decide
 have hrn:(tk s i).reads.length<=1048576:=Nat.le_trans (hinv.reads hi) (by decide);have hpn:(tk s i).puts.length<=1048576:=Nat.le_trans (hinv.puts hi) (by decide);have HR3:=am t.regs.len;have hat0:=t.at0;have hlg:s.log.length<=1073741824:=by have:=hinv.room;omega
 have hpc0:=t.pc0;have hpc1:(tk s i).pc<=1048576:=Int.le_trans (hinv.pc hi) (by decide);have hs0:=t.since0;have hs1:(tk s i).since<=200:=Int.le_trans t.since1 hinv.clock1;have NUMS:=am t.regs.num;have h3:0 < (tk s i).regs.length:=by rw [t.regs.len];decide
 clear t;by_cases hlt:(tk s i).at_ < (ds.length:Int)
 ·obtain ⟨ka,hka⟩:=Int.eq_ofNat_of_zero_le hat0
  have hkl:ka < ds.length:=by omega
  obtain ⟨bd,od,cs,rfl,hcl,hK,hcc,-⟩:=C_field hds zDeed ka hkl (by decide);obtain ⟨d,hd⟩:∃ d,d=deedAt ds ka:=⟨_,rfl⟩;rw [show ds.getD ka zDeed=d from hd.symm] at hK;have e:=kDeed_open hK;subst e;have HCD:=am hcc;have DK:Aside0 _:=⟨deed_kinds (show deedOk d s.cells.length=true by rw [hd];exact hok ka hkl)⟩;have hat1:(tk s i).at_<=1048576:=by omega
  have q4:(tk s i).at_.toNat=ka:=by omega
  have q5:(0:Int)<=(tk s i).at_:=hat0;have q6:(tk s i).at_ < (ds.length:Int):=hlt
  have HDE:Aside0 (deed s i ds=if d.kind=1 then load s i d else if d.kind=2 then setTask s i {tk s i with puts:=addPut (tk s i).puts ⟨d.a,numAt (tk s i).regs d.b.toNat⟩,at_:=(tk s i).at_+1} else if d.kind=5/\numAt (tk s i).regs d.a.toNat=0 then setTask (again s i) i {tk (again s i) i with when_:=(tk s i).since+1} else setTask s i {tk s i with regs:=regDo (tk s i).regs d,at_:=(tk s i).at_+1}):=⟨by
   unfold deed;rw [if_neg (show ¬ (ds.length:Int)<=(tk s i).at_ by omega),hd,<-q4]⟩
  have y0:decide ((ds.length:Int)<=(tk s i).at_)=false:=decide_eq_false (by omega);clear hcc hK hcl hd hok hds hka;obtain ⟨b,cap,rfl,hb3,hbg⟩:=H.out.tform (by omega);obtain ⟨A0,c0,rfl⟩:=H.out.cslice;obtain ⟨Al,cl,rfl⟩:=H.out.lslice;obtain ⟨v3,v8,v9,v10,hcc,hf,h3,h8,h9,h10⟩:=H.out.task hi;obtain ⟨gr,c3,rfl,ho3,-⟩:=R_form h3 (by omega);obtain ⟨A8,c8,rfl,-,-⟩:=Kd.R_reads h8;obtain ⟨A9,c9,rfl,-,-⟩:=Kd.R_reads h9;obtain ⟨A10,c10,rfl,-,g10⟩:=Kd.R_reads h10;have HCC:=am hcc;have R3:=am h3;have R9:=am h9;have C10:=am g10;have O3:=am ho3;have HB3:=am hb3;have BKc:=zc8 H.out.blk;have q0:(0:Int)<=(i:Int):=by omega
  have q1:(i:Int) < (s.tasks.length:Int):=by omega
  clear hcc hf h3 h8 h9 h10 g10 ho3 hb3;go_enter Try.func152,Try.ntmps152;by_cases h1k:d.kind=1
  ·have y1:(d.kind == 1)=true:=by simp [h1k]
   have K1:=am h1k;clear hs1 hs0 h1k
   go_wp2_with (first
   |((with_reducible refine gate_dst (N:=16) rfl ?_);refine wpList_load_mid rfl 38 (.tmp 15) rfl b (i*13) rfl _ _ HCC.out Try.underlying38 rfl (by kernel_rfl) ?_)|((with_reducible refine gate_dst (N:=6) rfl ?_);refine box_event rfl (N:=6) rfl (t:=38) (by go_simp<;>rfl) ?_;intro gt hg w2 hbox hb;have BKt0:=am hbox;have GT:=am hg;have GTW:=am (show w.heap.size<=gt from Nat.le_of_eq hg.symm);have HBT:=am hb;clear hbox hb hg)|((with_reducible refine gate_store (t:=38) (p:=6) rfl ?_);refine store_block rfl rfl 38 (.tmp 6) (.tmp 16) rfl rfl rfl BKt0.out rfl (by kernel_rfl) (aB rfl) ?_;intro w3 hbox hg;have BKt:=am hbox;have hbx:=pw_below_grown HBT.out _ HBT.out.size hg (fun z hz=>by cases hz;exact Nat.le_of_eq GT.out.symm);have HB2:=am (hbx);clear hbox hg BKt0 HBT hbx;have HB:=HB2;clear HB2;have BKc:=zc8 (H.out.grow HB.out).blk;have BKtc:=zc8 BKt.out)
   |((with_reducible refine gate_dst (N:=38) rfl ?_);refine wpList_load_mid rfl 111 (.tmp 37) rfl bd (od+ka*3) rfl _ _ (fun j u hu=>cellB HB.out (HCD.out j u hu)) Try.underlying111 rfl (by kernel_rfl) ?_)|((with_reducible refine gate_dst (N:=7) rfl ?_);refine box_event rfl (N:=7) rfl (t:=111) (by go_simp<;>rfl) ?_;intro gd hgd w5 hbox hb;have BKd0:=am hbox;have GD:=am hgd;have GDW:=am (show w.heap.size<=gd from Nat.le_trans HB.out.size (Nat.le_of_eq hgd.symm));have HBD:=am hb;clear hbox hb hgd)|((with_reducible refine gate_store (t:=111) (p:=7) rfl ?_);refine store_block rfl rfl 111 (.tmp 7) (.tmp 38) rfl rfl rfl BKd0.out rfl (by kernel_rfl) (aB rfl) ?_;intro w4 hbox hg;have BKd:=am hbox;have hbx:=pw_below_grown HBD.out _ HBD.out.size hg (fun z hz=>by cases hz;exact Nat.le_of_eq GD.out.symm);replace HB:=am (below_step HB.out hbx);replace BKt:=am (zb8 BKt.out hbx);clear hbox hg BKd0 HBD hbx BKc BKtc;have BKc:=zc8 (H.out.grow HB.out).blk;have BKtc:=zc8 BKt.out;have BKdc:=zc8 BKd.out)
   |(go_at_call 161;refine (load_calls i d _ (H.out.grow HB.out) hi hn hm ho hrn hpn HR3.out hat0 hat1 (DK.out.1 K1.out).1 (DK.out.1 K1.out).2).mono ?_;rintro e w9 ⟨rfl,ownc,h1,f1⟩;have H2:=am h1;have F2:=am ((Fr.below (own:=own) HB.out).trans (Fr.less f1 HB.out.size));clear H HB BKc BKt BKtc BKd BKdc h1 f1))
   refine bodyPost_ret (results_none rfl _ _ _) rfl ?_;first | exact ⟨rfl,ownc,.slice Al s.log.length cl,(by rw [HDE.out,if_pos K1.out];exact H2.out),F2.out⟩ | exact ⟨rfl,ownc,⟨.slice Al s.log.length cl,(by rw [HDE.out,if_pos K1.out];exact H2.out)⟩,F2.out⟩
  ·have y1:(d.kind == 1)=false:=by simp [h1k]
   have K1:=am h1k;clear h1k;by_cases k2:d.kind=2
   ·clear hs1 hs0
    obtain ⟨kb,hkb⟩:=Int.eq_ofNat_of_zero_le (DK.out.2.1 k2).2.1;have qb0:(0:Int)<=d.b:=by omega
    have qb1:d.b < ((tk s i).regs.length:Int):=by have:=HR3.out;have:=(DK.out.2.1 k2).2.2;omega
    have qb4:d.b.toNat=kb:=by omega
    obtain ⟨rc,-⟩:=Kd.R_celln 0 R3.out d.b qb0 qb1;obtain ⟨num,hnum⟩:∃ x,x=numAt (tk s i).regs kb:=⟨_,rfl⟩;rw [show rdOf 0 (tk s i).regs d.b=num from by rw [hnum,<-qb4];rfl,qb4] at rc;have RC:=am rc;have HNUM:=am hnum;have y2:(d.kind == 2)=true:=by simp [k2]
    have K2:=am k2;clear rc hnum hkb k2
    go_wp2_with (first
    |((with_reducible refine gate_dst (N:=16) rfl ?_);refine wpList_load_mid rfl 38 (.tmp 15) rfl b (i*13) rfl _ _ HCC.out Try.underlying38 rfl (by kernel_rfl) ?_)|((with_reducible refine gate_dst (N:=6) rfl ?_);refine box_event rfl (N:=6) rfl (t:=38) (by go_simp<;>rfl) ?_;intro gt hg w2 hbox hb;have BKt0:=am hbox;have GT:=am hg;have GTW:=am (show w.heap.size<=gt from Nat.le_of_eq hg.symm);have HBT:=am hb;clear hbox hb hg)|((with_reducible refine gate_store (t:=38) (p:=6) rfl ?_);refine store_block rfl rfl 38 (.tmp 6) (.tmp 16) rfl rfl rfl BKt0.out rfl (by kernel_rfl) (aB rfl) ?_;intro w3 hbox hg;have BKt:=am hbox;have hbx:=pw_below_grown HBT.out _ HBT.out.size hg (fun z hz=>by cases hz;exact Nat.le_of_eq GT.out.symm);have HB2:=am (hbx);clear hbox hg BKt0 HBT hbx;have HB:=HB2;clear HB2;have BKc:=zc8 (H.out.grow HB.out).blk;have BKtc:=zc8 BKt.out)
    |((with_reducible refine gate_dst (N:=38) rfl ?_);refine wpList_load_mid rfl 111 (.tmp 37) rfl bd (od+ka*3) rfl _ _ (fun j u hu=>cellB HB.out (HCD.out j u hu)) Try.underlying111 rfl (by kernel_rfl) ?_)|((with_reducible refine gate_dst (N:=7) rfl ?_);refine box_event rfl (N:=7) rfl (t:=111) (by go_simp<;>rfl) ?_;intro gd hgd w5 hbox hb;have BKd0:=am hbox;have GD:=am hgd;have GDW:=am (show w.heap.size<=gd from Nat.le_trans HB.out.size (Nat.le_of_eq hgd.symm));have HBD:=am hb;clear hbox hb hgd)|((with_reducible refine gate_store (t:=111) (p:=7) rfl ?_);refine store_block rfl rfl 111 (.tmp 7) (.tmp 38) rfl rfl rfl BKd0.out rfl (by kernel_rfl) (aB rfl) ?_;intro w4 hbox hg;have BKd:=am hbox;have hbx:=pw_below_grown HBD.out _ HBD.out.size hg (fun z hz=>by cases hz;exact Nat.le_of_eq GD.out.symm);replace HB:=am (below_step HB.out hbx);replace BKt:=am (zb8 BKt.out hbx);clear hbox hg BKd0 HBD hbx BKc BKtc;have BKc:=zc8 (H.out.grow HB.out).blk;have BKtc:=zc8 BKt.out;have BKdc:=zc8 BKd.out))
    refine st9 (n:=21) (S:=fun W=>W.heap[g]? = some (.cells #[vp,vb,.slice A0 s.cells.length c0,.slice (some ⟨b,0,none⟩) s.tasks.length cap,.int .i64 s.clock,.slice Al s.log.length cl] 152 (0,0))/\W.heap[gt]? = some (.cells #[.int .i64 (tk s i).body,.int .i64 (tk s i).pc,.int .i64 (tk s i).up,.slice (some ⟨gr,0,none⟩) (tk s i).regs.length c3,.int .i64 (tk s i).way,.int .i64 (tk s i).stage,.int .i64 (tk s i).at_,.int .i64 (tk s i).since,.slice A8 (tk s i).old.length c8,.slice A9 (tk s i).reads.length c9,.slice A10 (tk s i).puts.length c10,.int .i64 (tk s i).when_,.int .i64 (tk s i).from_] 38 (0,0))/\W.heap[gd]? = some (.cells #[.int .i64 d.kind,.int .i64 d.a,.int .i64 d.b] 111 (0,0))/\W.cell? ⟨gr,kb,none⟩=some (.int .i64 num)) (ds:= [18,19,20]) (by kernel_rfl) rfl ⟨blk_drew (H.out.grow HB.out).blk,blk_drew BKt.out,blk_drew BKd.out,(show w4.cell? ⟨gr,kb,none⟩=_ from cellB HB.out RC.out)⟩ (fun hHeld=> ?_);have hb:=below_drew (Below.refl w4.heap.size w4);generalize w4.drew=w7 at hb hHeld ⊢;have HB7:=am (below_step HB.out hb);have H7:=am (H.out.grow HB7.out);have F7:=am (Fr.below (own:=own) HB7.out);have D10:=am (Kd.C_below C10.out HB7.out);have OT:=am (H.out.new0 gt GTW.out);clear hb BKc BKtc BKdc BKt BKd HB;refine ba9 (fuel:=4) (n:=17) [0,1,2,3,4,5,6,7,8,9,10,11,12,13,14,15,16] (by kernel_rfl) (fun N _ _ _ _ h=>by cases N <;> exact h) hHeld ?_
    iterate 17 (
     refine stillS_step (v:= ?_) (a':= ?_) rfl (Or.inl ⟨by rfl, ?_⟩) ?_ ?_;rotate_left
     ·rintro W ⟨s0,s2,s3,s4⟩
      have t0:=zc8 s0;have t2:=zc8 s2;have t3:=zc8 s3;clear s0 s2 s3;go_simp;with_reducible rfl
     rotate_left
     ·simp only [Act.put,sA,sZ,sS,i64_w]
      rfl)
    refine stillS_nil ?_;refine on9 (i:=17) (N:=some 77) rfl rfl (by kernel_rfl) (by decide) (fun K hK=> ?_);refine goes_ Try.func162 (by kernel_rfl) rfl #[.slice A10 (tk s i).puts.length c10,.agg #[.int .i64 d.a,.int .i64 num]] (by rfl) rfl rfl (by (try simp only [List.map_toArray,List.map_cons,List.map_nil]);first | done | rfl) ?_;refine (l11Add_calls A10 c10 (tk s i).puts ⟨d.a,num⟩ _ D10.out hpn).mono ?_;rintro e wn ⟨v9,rfl,hv9,hb⟩;obtain ⟨B9,d9,e9⟩:=Kd.R_slice hv9;subst e9;refine ⟨_,rfl, ?_⟩;refine hK.out _ _ ⟨zb8 hHeld.1 hb,zb8 hHeld.2.1 hb,zb8 hHeld.2.2.1 hb,cellB hb hHeld.2.2.2⟩ (fun hHeld=> ?_);clear hK K;refine norm_ (a':= ?_) ?_ ?_;rotate_left
    ·show Act.put _ (some 77) _=_
     simp only [Act.put,sA,sZ,sS,i64_w];rfl
    have V:Aside0 (kPut.R 103 wn w0.heap.size (fun k=>own k=0/\w.heap.size<=k) (.slice B9 (addPut (tk s i).puts ⟨d.a,num⟩).length d9) (addPut (tk s i).puts ⟨d.a,num⟩)):=⟨Kd.R_lower (Kd.R_mono (Kd.R_bound hv9) (fun k hk=>⟨H7.out.new0 k hk.2.1,Nat.le_trans F7.out.size hk.2.1⟩)) H7.out.below.size⟩;have Hn:=am (H7.out.grow hb);have Fn:=am (F7.out.trans (Fr.less (Fr.below hb) F7.out.size));have BKt7:=am hHeld.2.1;clear H7 F7 D10 hv9 hb hHeld HB7;have BKc:=zc8 Hn.out.blk;refine tail_ (fuel:=3) 18 (by kernel_rfl) ?_;simp only [List.drop_succ_cons,List.drop_zero]
    go_wp2_with (first
    |((with_reducible refine gate_store (t:=36) (p:=79) rfl ?_);refine set_ev (u:=.slice B9 (addPut (tk s i).puts ⟨d.a,num⟩).length d9) rfl rfl _ _ rfl rfl rfl rfl rfl (by kernel_rfl) (Hn.out.ready (i:=i) hi 10 (by decide)) ?_;intro w6b hwn;obtain ⟨ownc,k1,k2,-⟩:=Hn.out.setPutsE (B:=w.heap.size) (i:=i) hi V.out;rw [<-hwn] at k1 k2;have H6b:=am k1;have F6b:=am (Fn.out.trans k2);have bt:=blk_far (p:=⟨b,i*13+10,none⟩) BKt7.out (fun he=>by have h5:=OT.out;rw [show gt=b from he,HB3.out] at h5;cases h5) (.slice B9 (addPut (tk s i).puts ⟨d.a,num⟩).length d9);rw [<-hwn] at bt;have BKt6b:=am bt;clear Hn Fn V BKt7 k1 k2 bt hwn BKc;have BKc:=zc8 H6b.out.blk;have BKtc:=zc8 BKt6b.out))
    obtain ⟨s1,hs1⟩:∃ x:Sys,x=setTask s i {tk s i with puts:=addPut (tk s i).puts ⟨d.a,num⟩}:=⟨_,rfl⟩;have hi1:i < s1.tasks.length:=by rw [hs1];simpa [set_len] using hi
    have ha1:(tk s1 i).at_=(tk s i).at_:=by rw [hs1];simp [tk_set,set_len,hi]
    rw [<-hs1] at H6b;refine wp_region_still_tail 11 (by kernel_rfl) (by kernel_rfl) ?_;simp only [List.take_succ_cons,List.take_zero,List.drop_succ_cons,List.drop_zero];iterate 11 still_step
    refine wpStill_nil ?_;rw [show IntKind.i64.wrap ((tk s i).at_+1)=(tk s i).at_+1 from by rw [i64_w];unfold wrap64;omega];have hb:=below_drew (Below.refl w6b.heap.size w6b);show wpList _ _ _ _ _ w6b.drew;generalize w6b.drew=w8 at hb ⊢;have H8:=am (H6b.out.grow hb);have F8:=am (F6b.out.trans (Fr.less (Fr.below hb) F6b.out.size));clear H6b F6b BKc BKtc hb;have BKc:=zc8 H8.out.blk
    go_wp2_with (first
    |((with_reducible refine gate_store (t:=3) (p:=114) rfl ?_);refine set_ev (u:=.int .i64 ((tk s i).at_+1)) rfl rfl _ _ rfl rfl rfl rfl rfl (by kernel_rfl) (H8.out.ready (i:=i) hi1 6 (by decide)) ?_;intro w9 hwn;obtain ⟨k1,k2⟩:=H8.out.setInt (B:=w.heap.size) (i:=i) hi1 6 (by decide) ((tk s i).at_+1) {tk s1 i with at_:=(tk s i).at_+1} (fun _ _ _ _=>rfl) ⟨rfl,rfl,rfl,rfl⟩;rw [<-hwn] at k1 k2;have H9:=am k1;have F9:=am (F8.out.trans k2);clear H8 F8 BKc k1 k2 hwn))
    refine bodyPost_end (results_none rfl _ _ _) rfl ?_;have h:=H9.out;rw [hs1,set_set,tk_set hi] at h;first | exact ⟨rfl,ownc,.slice Al s.log.length cl,(by rw [HDE.out,if_neg K1.out,if_pos K2.out,qb4,<-HNUM.out];exact h),F9.out⟩ | exact ⟨rfl,ownc,⟨.slice Al s.log.length cl,(by rw [HDE.out,if_neg K1.out,if_pos K2.out,qb4,<-HNUM.out];exact h)⟩,F9.out⟩
   ·by_cases k5:d.kind=5
    ·have HS1:=am hs1
     have HS0:=am hs0
     skip
     have y2:(d.kind == 2)=false:=by simp [k2]
     have y3:(d.kind == 5)=true:=by simp [k5]
     have qa0:(0:Int)<=d.a:=(DK.out.2.2.1 K1.out k2).1;have qa1:d.a < ((tk s i).regs.length:Int):=by have:=HR3.out;have:=(DK.out.2.2.1 K1.out k2).2;omega
     obtain ⟨kd,hkd⟩:=Int.eq_ofNat_of_zero_le qa0;have qa4:d.a.toNat=kd:=by omega
     obtain ⟨rc,-⟩:=Kd.R_celln 0 R3.out d.a qa0 qa1;obtain ⟨num,hnum⟩:∃ x,x=numAt (tk s i).regs kd:=⟨_,rfl⟩;rw [show rdOf 0 (tk s i).regs d.a=num from by rw [hnum,<-qa4];rfl,qa4] at rc;have RC:=am rc;have HNUM:=am hnum;have K2:=am k2;have K5:=am k5;clear rc hnum hkd k2 k5;by_cases hz:num=0
     ·have y4:(num == 0)=true:=by simp [hz]
      have HZ:=am hz;have hw:wrap64 ((tk s i).since+1)=(tk s i).since+1:=by have:=HS1.out;have:=HS0.out;unfold wrap64;omega
      clear hz;obtain ⟨sa,hsa⟩:∃ x:Sys,x=again s i:=⟨_,rfl⟩;have hia:i < sa.tasks.length:=by rw [hsa,again_len];exact hi
      have HSA:=am hsa;clear hsa
      go_wp2_with (first
      |((with_reducible refine gate_dst (N:=16) rfl ?_);refine wpList_load_mid rfl 38 (.tmp 15) rfl b (i*13) rfl _ _ HCC.out Try.underlying38 rfl (by kernel_rfl) ?_)|((with_reducible refine gate_dst (N:=6) rfl ?_);refine box_event rfl (N:=6) rfl (t:=38) (by go_simp<;>rfl) ?_;intro gt hg w2 hbox hb;have BKt0:=am hbox;have GT:=am hg;have GTW:=am (show w.heap.size<=gt from Nat.le_of_eq hg.symm);have HBT:=am hb;clear hbox hb hg)|((with_reducible refine gate_store (t:=38) (p:=6) rfl ?_);refine store_block rfl rfl 38 (.tmp 6) (.tmp 16) rfl rfl rfl BKt0.out rfl (by kernel_rfl) (aB rfl) ?_;intro w3 hbox hg;have BKt:=am hbox;have hbx:=pw_below_grown HBT.out _ HBT.out.size hg (fun z hz=>by cases hz;exact Nat.le_of_eq GT.out.symm);have HB2:=am (hbx);clear hbox hg BKt0 HBT hbx;have HB:=HB2;clear HB2;have BKc:=zc8 (H.out.grow HB.out).blk;have BKtc:=zc8 BKt.out)
      |((with_reducible refine gate_dst (N:=38) rfl ?_);refine wpList_load_mid rfl 111 (.tmp 37) rfl bd (od+ka*3) rfl _ _ (fun j u hu=>cellB HB.out (HCD.out j u hu)) Try.underlying111 rfl (by kernel_rfl) ?_)|((with_reducible refine gate_dst (N:=7) rfl ?_);refine box_event rfl (N:=7) rfl (t:=111) (by go_simp<;>rfl) ?_;intro gd hgd w5 hbox hb;have BKd0:=am hbox;have GD:=am hgd;have GDW:=am (show w.heap.size<=gd from Nat.le_trans HB.out.size (Nat.le_of_eq hgd.symm));have HBD:=am hb;clear hbox hb hgd)|((with_reducible refine gate_store (t:=111) (p:=7) rfl ?_);refine store_block rfl rfl 111 (.tmp 7) (.tmp 38) rfl rfl rfl BKd0.out rfl (by kernel_rfl) (aB rfl) ?_;intro w4 hbox hg;have BKd:=am hbox;have hbx:=pw_below_grown HBD.out _ HBD.out.size hg (fun z hz=>by cases hz;exact Nat.le_of_eq GD.out.symm);replace HB:=am (below_step HB.out hbx);replace BKt:=am (zb8 BKt.out hbx);clear hbox hg BKd0 HBD hbx BKc BKtc;have BKc:=zc8 (H.out.grow HB.out).blk;have BKtc:=zc8 BKt.out;have BKdc:=zc8 BKd.out;have rc:=cellB HB.out RC.out)
      |(go_at_call 159;refine (again_calls i _ (H.out.grow HB.out) hi hn hm ho).mono ?_;rintro e w9 ⟨rfl,ownc,h1,f1⟩;rw [<-HSA.out] at h1;have H2:=am h1;have F2:=am ((Fr.below (own:=own) HB.out).trans (Fr.less f1 HB.out.size));clear rc H HB BKc BKt BKtc BKd BKdc h1 f1;have BKc:=zc8 H2.out.blk)
      |((with_reducible refine gate_store (t:=3) (p:=103) rfl ?_);refine set_ev (u:=.int .i64 ((tk s i).since+1)) rfl rfl _ _ rfl rfl rfl rfl rfl (by kernel_rfl) (H2.out.ready (i:=i) hia 11 (by decide)) ?_;intro wz hwn;obtain ⟨k1,k2⟩:=H2.out.setInt (B:=w.heap.size) (i:=i) hia 11 (by decide) ((tk s i).since+1) {tk sa i with when_:=(tk s i).since+1} (fun _ _ _ _=>rfl) ⟨rfl,rfl,rfl,rfl⟩;rw [<-hwn] at k1 k2;have H9:=am k1;have F9:=am (F2.out.trans k2);clear H2 F2 BKc k1 k2 hwn))
      refine bodyPost_ret (results_none rfl _ _ _) rfl ?_;have h:=H9.out;rw [HSA.out] at h;first | exact ⟨rfl,ownc,.slice Al s.log.length cl,(by rw [HDE.out,if_neg K1.out,if_neg K2.out,if_pos ⟨K5.out,by rw [qa4,<-HNUM.out];exact HZ.out⟩];exact h),F9.out⟩ | exact ⟨rfl,ownc,⟨.slice Al s.log.length cl,(by rw [HDE.out,if_neg K1.out,if_neg K2.out,if_pos ⟨K5.out,by rw [qa4,<-HNUM.out];exact HZ.out⟩];exact h)⟩,F9.out⟩
     ·have y4:(num == 0)=false:=by simp [hz]
      have HZ:=am hz;clear hz
      go_wp2_with (first
      |((with_reducible refine gate_dst (N:=16) rfl ?_);refine wpList_load_mid rfl 38 (.tmp 15) rfl b (i*13) rfl _ _ HCC.out Try.underlying38 rfl (by kernel_rfl) ?_)|((with_reducible refine gate_dst (N:=6) rfl ?_);refine box_event rfl (N:=6) rfl (t:=38) (by go_simp<;>rfl) ?_;intro gt hg w2 hbox hb;have BKt0:=am hbox;have GT:=am hg;have GTW:=am (show w.heap.size<=gt from Nat.le_of_eq hg.symm);have HBT:=am hb;clear hbox hb hg)|((with_reducible refine gate_store (t:=38) (p:=6) rfl ?_);refine store_block rfl rfl 38 (.tmp 6) (.tmp 16) rfl rfl rfl BKt0.out rfl (by kernel_rfl) (aB rfl) ?_;intro w3 hbox hg;have BKt:=am hbox;have hbx:=pw_below_grown HBT.out _ HBT.out.size hg (fun z hz=>by cases hz;exact Nat.le_of_eq GT.out.symm);have HB2:=am (hbx);clear hbox hg BKt0 HBT hbx;have HB:=HB2;clear HB2;have BKc:=zc8 (H.out.grow HB.out).blk;have BKtc:=zc8 BKt.out)
      |((with_reducible refine gate_dst (N:=38) rfl ?_);refine wpList_load_mid rfl 111 (.tmp 37) rfl bd (od+ka*3) rfl _ _ (fun j u hu=>cellB HB.out (HCD.out j u hu)) Try.underlying111 rfl (by kernel_rfl) ?_)|((with_reducible refine gate_dst (N:=7) rfl ?_);refine box_event rfl (N:=7) rfl (t:=111) (by go_simp<;>rfl) ?_;intro gd hgd w5 hbox hb;have BKd0:=am hbox;have GD:=am hgd;have GDW:=am (show w.heap.size<=gd from Nat.le_trans HB.out.size (Nat.le_of_eq hgd.symm));have HBD:=am hb;clear hbox hb hgd)|((with_reducible refine gate_store (t:=111) (p:=7) rfl ?_);refine store_block rfl rfl 111 (.tmp 7) (.tmp 38) rfl rfl rfl BKd0.out rfl (by kernel_rfl) (aB rfl) ?_;intro w4 hbox hg;have BKd:=am hbox;have hbx:=pw_below_grown HBD.out _ HBD.out.size hg (fun z hz=>by cases hz;exact Nat.le_of_eq GD.out.symm);replace HB:=am (below_step HB.out hbx);replace BKt:=am (zb8 BKt.out hbx);clear hbox hg BKd0 HBD hbx BKc BKtc;have BKc:=zc8 (H.out.grow HB.out).blk;have BKtc:=zc8 BKt.out;have BKdc:=zc8 BKd.out;have rc:=cellB HB.out RC.out))
      clear rc;have H6:=am (H.out.grow HB.out);have F6:=am (Fr.below (own:=own) HB.out);obtain ⟨s1,hs1⟩:∃ x:Sys,x=s:=⟨_,rfl⟩;have hi1:i < s1.tasks.length:=by rw [hs1];exact hi
      have ha1:(tk s1 i).at_=(tk s i).at_:=by rw [hs1]
      rw [<-hs1] at H6;refine wp_region_still_tail 11 (by kernel_rfl) (by kernel_rfl) ?_;simp only [List.take_succ_cons,List.take_zero,List.drop_succ_cons,List.drop_zero];iterate 11 still_step
      refine wpStill_nil ?_;rw [show IntKind.i64.wrap ((tk s i).at_+1)=(tk s i).at_+1 from by rw [i64_w];unfold wrap64;omega];have hb:=below_drew (Below.refl w4.heap.size w4);show wpList _ _ _ _ _ w4.drew;generalize w4.drew=w8 at hb ⊢;have H8:=am (H6.out.grow hb);have F8:=am (F6.out.trans (Fr.less (Fr.below hb) F6.out.size));clear H6 F6 BKc BKtc hb;have BKc:=zc8 H8.out.blk
      go_wp2_with (first
      |((with_reducible refine gate_store (t:=3) (p:=114) rfl ?_);refine set_ev (u:=.int .i64 ((tk s i).at_+1)) rfl rfl _ _ rfl rfl rfl rfl rfl (by kernel_rfl) (H8.out.ready (i:=i) hi1 6 (by decide)) ?_;intro w9 hwn;obtain ⟨k1,k2⟩:=H8.out.setInt (B:=w.heap.size) (i:=i) hi1 6 (by decide) ((tk s i).at_+1) {tk s1 i with at_:=(tk s i).at_+1} (fun _ _ _ _=>rfl) ⟨rfl,rfl,rfl,rfl⟩;rw [<-hwn] at k1 k2;have H9:=am k1;have F9:=am (F8.out.trans k2);clear H8 F8 BKc k1 k2 hwn))
      refine bodyPost_end (results_none rfl _ _ _) rfl ?_;have h:=H9.out;rw [hs1] at h
      have hr:regDo (tk s i).regs d=(tk s i).regs:=by
       unfold regDo;rw [if_neg (by have:=K5.out;omega),if_neg (by have:=K5.out;omega)]
      first | exact ⟨rfl,own,.slice Al s.log.length cl,(by rw [HDE.out,if_neg K1.out,if_neg K2.out,if_neg (fun hh=>HZ.out (by rw [HNUM.out,<-qa4];exact hh.2)),hr];exact h),F9.out⟩ | exact ⟨rfl,own,⟨.slice Al s.log.length cl,(by rw [HDE.out,if_neg K1.out,if_neg K2.out,if_neg (fun hh=>HZ.out (by rw [HNUM.out,<-qa4];exact hh.2)),hr];exact h)⟩,F9.out⟩
    ·clear hs1 hs0
     have y2:(d.kind == 2)=false:=by simp [k2]
     have y3:(d.kind == 5)=false:=by simp [k5]
     have qa0:(0:Int)<=d.a:=(DK.out.2.2.1 K1.out k2).1;have qa1:d.a < ((tk s i).regs.length:Int):=by have:=HR3.out;have:=(DK.out.2.2.1 K1.out k2).2;omega
     have K2:=am k2;have K5:=am k5;clear k2 k5
     go_wp2_with (first
     |((with_reducible refine gate_dst (N:=16) rfl ?_);refine wpList_load_mid rfl 38 (.tmp 15) rfl b (i*13) rfl _ _ HCC.out Try.underlying38 rfl (by kernel_rfl) ?_)|((with_reducible refine gate_dst (N:=6) rfl ?_);refine box_event rfl (N:=6) rfl (t:=38) (by go_simp<;>rfl) ?_;intro gt hg w2 hbox hb;have BKt0:=am hbox;have GT:=am hg;have GTW:=am (show w.heap.size<=gt from Nat.le_of_eq hg.symm);have HBT:=am hb;clear hbox hb hg)|((with_reducible refine gate_store (t:=38) (p:=6) rfl ?_);refine store_block rfl rfl 38 (.tmp 6) (.tmp 16) rfl rfl rfl BKt0.out rfl (by kernel_rfl) (aB rfl) ?_;intro w3 hbox hg;have BKt:=am hbox;have hbx:=pw_below_grown HBT.out _ HBT.out.size hg (fun z hz=>by cases hz;exact Nat.le_of_eq GT.out.symm);have HB2:=am (hbx);clear hbox hg BKt0 HBT hbx;have HB:=HB2;clear HB2;have BKc:=zc8 (H.out.grow HB.out).blk;have BKtc:=zc8 BKt.out)
     |((with_reducible refine gate_dst (N:=38) rfl ?_);refine wpList_load_mid rfl 111 (.tmp 37) rfl bd (od+ka*3) rfl _ _ (fun j u hu=>cellB HB.out (HCD.out j u hu)) Try.underlying111 rfl (by kernel_rfl) ?_)|((with_reducible refine gate_dst (N:=7) rfl ?_);refine box_event rfl (N:=7) rfl (t:=111) (by go_simp<;>rfl) ?_;intro gd hgd w5 hbox hb;have BKd0:=am hbox;have GD:=am hgd;have GDW:=am (show w.heap.size<=gd from Nat.le_trans HB.out.size (Nat.le_of_eq hgd.symm));have HBD:=am hb;clear hbox hb hgd)|((with_reducible refine gate_store (t:=111) (p:=7) rfl ?_);refine store_block rfl rfl 111 (.tmp 7) (.tmp 38) rfl rfl rfl BKd0.out rfl (by kernel_rfl) (aB rfl) ?_;intro w4 hbox hg;have BKd:=am hbox;have hbx:=pw_below_grown HBD.out _ HBD.out.size hg (fun z hz=>by cases hz;exact Nat.le_of_eq GD.out.symm);replace HB:=am (below_step HB.out hbx);replace BKt:=am (zb8 BKt.out hbx);clear hbox hg BKd0 HBD hbx BKc BKtc;have BKc:=zc8 (H.out.grow HB.out).blk;have BKtc:=zc8 BKt.out;have BKdc:=zc8 BKd.out))
     have c_regs:=cellB HB.out (HCC.out 3 _ rfl);refine wp_region_still_tail 10 (by kernel_rfl) (by kernel_rfl) ?_;simp only [List.take_succ_cons,List.take_zero,List.drop_succ_cons,List.drop_zero];iterate 10 still_step
     refine wpStill_nil ?_;clear c_regs;have hb:=below_drew (Below.refl w4.heap.size w4);show wpList _ _ _ _ _ w4.drew;generalize w4.drew=w5 at hb ⊢;have HB5:=am (below_step HB.out hb);have BKt5:=am (zb8 BKt.out hb);have OT:=am (H.out.new0 gt GTW.out);clear hb HB BKc BKtc BKdc BKt BKd
     go_wp2_with (first
     |(go_at_call 163;refine (l2Reg_calls gr (tk s i).regs.length c3 w0.heap.size (fun k=>own k=8+8*i) (tk s i).regs d.kind d.a d.b _ (Kd.R_below R3.out HB5.out) (by have:=HR3.out;omega) ⟨qa0,qa1⟩ (fun h4=>by have:=DK.out.2.2.2 h4;have:=HR3.out;omega) (fun k hk=>NUMS.out k (by have:=HR3.out;omega))).mono ?_;rintro e w6 ⟨rfl,w7,hb7,he⟩;obtain ⟨k1,k2⟩:=(H.out.grow HB5.out).regDo (B:=w.heap.size) hi HB5.out.size hb7 (cellB HB5.out (HCC.out 3 _ rfl)) d (by omega);have bt:=(regWorld_far (W1:=w7) (show gt ≠ gr from fun hg=>by have h5:=OT.out;rw [hg,O3.out] at h5;omega) (tk s i).regs d).trans (zb8 BKt5.out hb7);rw [<-show w6=regWorld w7 gr (tk s i).regs d from he] at k1 k2 bt;have H6:=am k1;have F6:=am ((Fr.below (own:=own) HB5.out).trans k2);have BKt6:=am bt;clear k1 k2 bt he BKt5 HB5 hb7;have BKc:=zc8 H6.out.blk;have BKtc:=zc8 BKt6.out))
     obtain ⟨s1,hs1⟩:∃ x:Sys,x=setTask s i {tk s i with regs:=regDo (tk s i).regs d}:=⟨_,rfl⟩;have hi1:i < s1.tasks.length:=by rw [hs1];simpa [set_len] using hi
     have ha1:(tk s1 i).at_=(tk s i).at_:=by rw [hs1];simp [tk_set,set_len,hi]
     rw [<-hs1] at H6;refine wp_region_still_tail 11 (by kernel_rfl) (by kernel_rfl) ?_;simp only [List.take_succ_cons,List.take_zero,List.drop_succ_cons,List.drop_zero];iterate 11 still_step
     refine wpStill_nil ?_;rw [show IntKind.i64.wrap ((tk s i).at_+1)=(tk s i).at_+1 from by rw [i64_w];unfold wrap64;omega];have hb:=below_drew (Below.refl w6.heap.size w6);show wpList _ _ _ _ _ w6.drew;generalize w6.drew=w8 at hb ⊢;have H8:=am (H6.out.grow hb);have F8:=am (F6.out.trans (Fr.less (Fr.below hb) F6.out.size));clear H6 F6 BKc BKtc hb;have BKc:=zc8 H8.out.blk
     go_wp2_with (first
     |((with_reducible refine gate_store (t:=3) (p:=114) rfl ?_);refine set_ev (u:=.int .i64 ((tk s i).at_+1)) rfl rfl _ _ rfl rfl rfl rfl rfl (by kernel_rfl) (H8.out.ready (i:=i) hi1 6 (by decide)) ?_;intro w9 hwn;obtain ⟨k1,k2⟩:=H8.out.setInt (B:=w.heap.size) (i:=i) hi1 6 (by decide) ((tk s i).at_+1) {tk s1 i with at_:=(tk s i).at_+1} (fun _ _ _ _=>rfl) ⟨rfl,rfl,rfl,rfl⟩;rw [<-hwn] at k1 k2;have H9:=am k1;have F9:=am (F8.out.trans k2);clear H8 F8 BKc k1 k2 hwn))
     refine bodyPost_end (results_none rfl _ _ _) rfl ?_;have h:=H9.out;rw [hs1,set_set,tk_set hi] at h;first | exact ⟨rfl,own,.slice Al s.log.length cl,(by rw [HDE.out,if_neg K1.out,if_neg K2.out,if_neg (fun hh=>K5.out hh.1)];exact h),F9.out⟩ | exact ⟨rfl,own,⟨.slice Al s.log.length cl,(by rw [HDE.out,if_neg K1.out,if_neg K2.out,if_neg (fun hh=>K5.out hh.1)];exact h)⟩,F9.out⟩
 ·have y0:decide ((ds.length:Int)<=(tk s i).at_)=true:=decide_eq_true (by omega)
  have HDE:Aside0 (deed s i ds=if (tk s i).puts= [] then done s i (tk s i).since else toStage s i 2):=⟨by
   unfold deed;rw [if_pos (show (ds.length:Int)<=(tk s i).at_ by omega)]⟩
  clear hok hds hs1 hs0;obtain ⟨b,cap,rfl,hb3,hbg⟩:=H.out.tform (by omega);obtain ⟨A0,c0,rfl⟩:=H.out.cslice;obtain ⟨Al,cl,rfl⟩:=H.out.lslice;obtain ⟨v3,v8,v9,v10,hcc,hf,h3,h8,h9,h10⟩:=H.out.task hi;obtain ⟨gr,c3,rfl,ho3,-⟩:=R_form h3 (by omega);obtain ⟨A8,c8,rfl,-,-⟩:=Kd.R_reads h8;obtain ⟨A9,c9,rfl,-,-⟩:=Kd.R_reads h9;obtain ⟨A10,c10,rfl,-,g10⟩:=Kd.R_reads h10;have HCC:=am hcc;have R3:=am h3;have R9:=am h9;have C10:=am g10;have O3:=am ho3;have HB3:=am hb3;have BKc:=zc8 H.out.blk;have q0:(0:Int)<=(i:Int):=by omega
  have q1:(i:Int) < (s.tasks.length:Int):=by omega
  clear hcc hf h3 h8 h9 h10 g10 ho3 hb3;go_enter Try.func152,Try.ntmps152;by_cases hp:(tk s i).puts= []
  ·have y1:(((tk s i).puts.length:Int) == 0)=true:=by rw [hp];rfl
   have y1':((tk s i).puts.length == 0)=true:=by rw [hp];rfl
   have HP:=am hp;clear hp
   go_wp2_with (first
   |((with_reducible refine gate_dst (N:=16) rfl ?_);refine wpList_load_mid rfl 38 (.tmp 15) rfl b (i*13) rfl _ _ HCC.out Try.underlying38 rfl (by kernel_rfl) ?_)|((with_reducible refine gate_dst (N:=6) rfl ?_);refine box_event rfl (N:=6) rfl (t:=38) (by go_simp<;>rfl) ?_;intro gt hg w2 hbox hb;have BKt0:=am hbox;have GT:=am hg;have GTW:=am (show w.heap.size<=gt from Nat.le_of_eq hg.symm);have HBT:=am hb;clear hbox hb hg)|((with_reducible refine gate_store (t:=38) (p:=6) rfl ?_);refine store_block rfl rfl 38 (.tmp 6) (.tmp 16) rfl rfl rfl BKt0.out rfl (by kernel_rfl) (aB rfl) ?_;intro w3 hbox hg;have BKt:=am hbox;have hbx:=pw_below_grown HBT.out _ HBT.out.size hg (fun z hz=>by cases hz;exact Nat.le_of_eq GT.out.symm);have HB2:=am (hbx);clear hbox hg BKt0 HBT hbx;have HB:=HB2;clear HB2;have BKc:=zc8 (H.out.grow HB.out).blk;have BKtc:=zc8 BKt.out)
   |(go_at_call 160;refine (end_calls i _ _ (H.out.grow HB.out) hi hn hrn hpn hlg hpc0 hpc1).mono ?_;rintro e w9 ⟨rfl,ownc,vlc,h1,f1⟩;have H2:=am h1;have F2:=am ((Fr.below (own:=own) HB.out).trans (Fr.less f1 HB.out.size));clear H HB BKc BKt BKtc h1 f1))
   refine bodyPost_ret (results_none rfl _ _ _) rfl ?_;refine ⟨rfl,ownc,vlc, ?_,F2.out⟩;rw [HDE.out,if_pos HP.out];exact H2.out
  ·have y1:(((tk s i).puts.length:Int) == 0)=false:=by
    have:=List.length_pos_iff.2 hp
    simp only [beq_eq_false_iff_ne];omega
   have HP:=am hp;clear hp
   go_wp2_with (first
   |((with_reducible refine gate_dst (N:=16) rfl ?_);refine wpList_load_mid rfl 38 (.tmp 15) rfl b (i*13) rfl _ _ HCC.out Try.underlying38 rfl (by kernel_rfl) ?_)|((with_reducible refine gate_dst (N:=6) rfl ?_);refine box_event rfl (N:=6) rfl (t:=38) (by go_simp<;>rfl) ?_;intro gt hg w2 hbox hb;have BKt0:=am hbox;have GT:=am hg;have GTW:=am (show w.heap.size<=gt from Nat.le_of_eq hg.symm);have HBT:=am hb;clear hbox hb hg)|((with_reducible refine gate_store (t:=38) (p:=6) rfl ?_);refine store_block rfl rfl 38 (.tmp 6) (.tmp 16) rfl rfl rfl BKt0.out rfl (by kernel_rfl) (aB rfl) ?_;intro w3 hbox hg;have BKt:=am hbox;have hbx:=pw_below_grown HBT.out _ HBT.out.size hg (fun z hz=>by cases hz;exact Nat.le_of_eq GT.out.symm);have HB2:=am (hbx);clear hbox hg BKt0 HBT hbx;have HB:=HB2;clear HB2;have BKc:=zc8 (H.out.grow HB.out).blk;have BKtc:=zc8 BKt.out)
   |(go_at_call 154;refine (stage_calls i 2 _ (H.out.grow HB.out) hi hn).mono ?_;rintro e w9 ⟨rfl,h1,f1⟩;have H2:=am h1;have F2:=am ((Fr.below (own:=own) HB.out).trans (Fr.less f1 HB.out.size));clear H HB BKc BKt BKtc h1 f1))
   refine bodyPost_ret (results_none rfl _ _ _) rfl ?_;first | exact ⟨rfl,own,.slice Al s.log.length cl,(by rw [HDE.out,if_neg HP.out];exact H2.out),F2.out⟩ | exact ⟨rfl,own,⟨.slice Al s.log.length cl,(by rw [HDE.out,if_neg HP.out];exact H2.out)⟩,F2.out⟩
end
section
variable {w0:World} {g:Nat} {own:Nat->Nat} {vp vb:Value} {p:Prog} {s:Sys} {vc vt vl:Value}
theorem try_calls {N:Nat} (i:Nat) (Ad:Option Addr) (cd:Nat) (ds:List Deed) (w:World) (h:St 152 w0 g own vp vb p s vc vt vl w) (hinv:Inv p s N) (hN:N<=1048576) (hi:i < s.tasks.length) (hds:kDeed.C w Ad ds.length ds) (hdl:ds.length<=1048576) (hok:∀ k,k < ds.length->deedOk (deedAt ds k) s.cells.length=true):
  Calls Try.prog 138 #[.pointer (some ⟨g,0,none⟩),.int .i64 i,.slice Ad ds.length cd] w fun e w'=>e= .returned (.tuple #[])/\∃ own' vl',St 152 w0 g own' vp vb p (try_ s i ds) vc vt vl' w'/\Fr w.heap.size own own' w w':=by
 have H:=am h;clear h;have t:=hinv.task i hi;have hn:s.tasks.length<=1048576:=Nat.le_trans hinv.many hN;have hm:s.cells.length<=1048576:=Nat.le_trans hinv.cn (by decide);have ho:(tk s i).old.length<=1048576:=by rw [t.old.len];decide
 have hr3:(tk s i).regs.length<=1048576:=by rw [t.regs.len];decide
 have hrn:(tk s i).reads.length<=1048576:=Nat.le_trans (hinv.reads hi) (by decide);have hpn:(tk s i).puts.length<=1048576:=Nat.le_trans (hinv.puts hi) (by decide);have hat0:=t.at0;have hlg:s.log.length<=1073741824:=by have:=hinv.room;omega
 have hpc0:=t.pc0;have hpc1:(tk s i).pc<=1048576:=Int.le_trans (hinv.pc hi) (by decide);obtain ⟨b,cap,rfl,hb3,hbg⟩:=H.out.tform (by omega);obtain ⟨A0,c0,rfl⟩:=H.out.cslice;obtain ⟨Al,cl,rfl⟩:=H.out.lslice;obtain ⟨v3,v8,v9,v10,hcc,-⟩:=H.out.task hi;have HCC:=am hcc;have BKc:=zc8 H.out.blk;have q0:(0:Int)<=(i:Int):=by omega
 have q1:(i:Int) < (s.tasks.length:Int):=by omega
 have c_st:=hcc 5 _ rfl;have C5:=c_st;clear hcc;have TI:=am t;have QC:=am hinv.cells;have HDS:=am hds;have HOK:=am hok;have CK:=am (And.intro hinv.clock0 hinv.clock1);clear t C5 hds hok;go_enter Try.func138,Try.ntmps138;by_cases s0:(tk s i).stage=0
 ·have y0:((tk s i).stage == 0)=true:=by simp [s0]
  have HT:Aside0 (try_ s i ds=begin_ s i):=⟨by unfold try_;rw [if_pos s0]⟩;clear s0
  go_wp2_with (first
  |(go_at_call 151;refine (begin_calls i _ H.out hi hn hr3 hlg).mono ?_;rintro e w9 ⟨rfl,ownc,h1,f1⟩;have H2:=am h1;have F2:=am f1;clear H HCC BKc h1 f1))
  refine bodyPost_end (results_none rfl _ _ _) rfl ?_;first | exact ⟨rfl,ownc,(.slice Al s.log.length cl),(by rw [HT.out];exact H2.out),F2.out⟩ | exact ⟨rfl,ownc,⟨(.slice Al s.log.length cl),(by rw [HT.out];exact H2.out)⟩,F2.out⟩ | exact ⟨rfl,⟨ownc,(by rw [HT.out];exact H2.out),F2.out⟩⟩
 ·have y0:((tk s i).stage == 0)=false:=by simp [s0]
  by_cases s1:(tk s i).stage=1
  ·have y1:((tk s i).stage == 1)=true:=by simp [s1]
   have HT:Aside0 (try_ s i ds=deed s i ds):=⟨by unfold try_;rw [if_neg s0,if_pos s1]⟩;clear s0 s1
   go_wp2_with (first
   |(go_at_call 152;refine (deed_calls i Ad cd ds _ H.out hinv hN hi HDS.out hdl HOK.out).mono ?_;rintro e w9 ⟨rfl,ownc,vlc,h1,f1⟩;have H2:=am h1;have F2:=am f1;clear H HCC BKc h1 f1))
   refine bodyPost_end (results_none rfl _ _ _) rfl ?_;first | exact ⟨rfl,ownc,vlc,(by rw [HT.out];exact H2.out),F2.out⟩ | exact ⟨rfl,ownc,⟨vlc,(by rw [HT.out];exact H2.out)⟩,F2.out⟩ | exact ⟨rfl,⟨ownc,(by rw [HT.out];exact H2.out),F2.out⟩⟩
  ·have y1:((tk s i).stage == 1)=false:=by simp [s1]
   by_cases s2:(tk s i).stage=2
   ·have y2:((tk s i).stage == 2)=true:=by simp [s2]
    have HT:Aside0 (try_ s i ds=lock s i):=⟨by unfold try_;rw [if_neg s0,if_neg s1,if_pos s2]⟩;have A1:=am (TI.out.at1 (.inl s2));have PA:=am (TI.out.puts.at (k:=(tk s i).at_.toNat) (by have:=A1.out;omega)).1;clear s0 s1 s2
    go_wp2_with (first
    |(go_at_call 153;refine (lock_calls i _ H.out hi hn hm ho hpn hat0 A1.out (by rw [QC.out];exact PA.out)).mono ?_;rintro e w9 ⟨rfl,ownc,h1,f1⟩;have H2:=am h1;have F2:=am f1;clear H HCC BKc h1 f1))
    refine bodyPost_end (results_none rfl _ _ _) rfl ?_;first | exact ⟨rfl,ownc,(.slice Al s.log.length cl),(by rw [HT.out];exact H2.out),F2.out⟩ | exact ⟨rfl,ownc,⟨(.slice Al s.log.length cl),(by rw [HT.out];exact H2.out)⟩,F2.out⟩ | exact ⟨rfl,⟨ownc,(by rw [HT.out];exact H2.out),F2.out⟩⟩
   ·have y2:((tk s i).stage == 2)=false:=by simp [s2]
    by_cases s3:(tk s i).stage=3
    ·have y3:((tk s i).stage == 3)=true:=by simp [s3]
     have HT:Aside0 (try_ s i ds=time s i):=⟨by unfold try_;rw [if_neg s0,if_neg s1,if_neg s2,if_pos s3]⟩;clear s0 s1 s2 s3;have cl0:=CK.out.1;have cl1:=CK.out.2
     go_wp2_with (first
     |((with_reducible refine gate_store (t:=3) (p:=45) rfl ?_);refine set_ev (u:=.int .i64 (s.clock+1)) rfl rfl _ _ rfl (g:=g) (off:=4) rfl rfl rfl rfl (by kernel_rfl) ⟨⟨_,by rw [zc8 H.out.blk];rfl⟩,blk_frozen H.out.blk _⟩ ?_;intro w5 hwn;obtain ⟨k1,k2⟩:=H.out.clockSet (B:=w.heap.size) (s.clock+1);rw [<-hwn] at k1 k2;have H5:=am k1;have F5:=am k2;clear H HCC BKc k1 k2 hwn c_st;have BKc:=zc8 H5.out.blk))
     refine wp_region_still_tail 13 (by kernel_rfl) (by kernel_rfl) ?_;simp only [List.take_succ_cons,List.take_zero,List.drop_succ_cons,List.drop_zero];iterate 13 still_step
     refine wpStill_nil ?_;have hb:=below_drew (Below.refl w5.heap.size w5);show wpList _ _ _ _ _ w5.drew;generalize w5.drew=w6 at hb ⊢;have H6:=am (H5.out.grow hb);have F6:=am (F5.out.trans (Fr.less (Fr.below hb) F5.out.size));clear H5 F5 BKc hb;have BKc:=zc8 H6.out.blk
     go_wp2_with (first
     |((with_reducible refine gate_store (t:=3) (p:=58) rfl ?_);refine set_ev (u:=.int .i64 (s.clock+1)) rfl rfl _ _ rfl rfl rfl rfl rfl (by kernel_rfl) (H6.out.ready (i:=i) hi 11 (by decide)) ?_;intro w7 hwn;obtain ⟨k1,k2⟩:=H6.out.setInt (B:=w.heap.size) (i:=i) hi 11 (by decide) (s.clock+1) {tk s i with when_:=s.clock+1} (fun _ _ _ _=>rfl) ⟨rfl,rfl,rfl,rfl⟩;rw [<-hwn] at k1 k2;have H7:=am k1;have F7:=am (F6.out.trans k2);clear H6 F6 BKc k1 k2 hwn;have BKc:=zc8 H7.out.blk)
     |(go_at_call 154;refine (stage_calls i 4 _ H7.out (by rw [set_len];exact hi) (by rw [set_len];exact hn)).mono ?_;rintro e w9 ⟨rfl,h1,f1⟩;have H2:=am h1;have F2:=am (F7.out.trans (Fr.less f1 F7.out.size));clear H7 F7 BKc h1 f1))
     refine bodyPost_end (results_none rfl _ _ _) rfl ?_;have h:=H2.out;unfold toStage at h;rw [set_set,tk_set (s:={s with clock:=s.clock+1}) hi] at h;first | exact ⟨rfl,own,(.slice Al s.log.length cl),(by rw [HT.out];exact h),F2.out⟩ | exact ⟨rfl,own,⟨(.slice Al s.log.length cl),(by rw [HT.out];exact h)⟩,F2.out⟩ | exact ⟨rfl,⟨own,(by rw [HT.out];exact h),F2.out⟩⟩
    ·have y3:((tk s i).stage == 3)=false:=by simp [s3]
     by_cases s4:(tk s i).stage=4
     ·have y4:((tk s i).stage == 4)=true:=by simp [s4]
      have HT:Aside0 (try_ s i ds=check s i):=⟨by unfold try_;rw [if_neg s0,if_neg s1,if_neg s2,if_neg s3,if_pos s4]⟩;clear s0 s1 s2 s3 s4
      go_wp2_with (first
      |(go_at_call 155;refine (check_calls i _ H.out hi hn hm ho hrn hat0 (fun k hk=>by rw [QC.out];exact (TI.out.reads.at hk).1)).mono ?_;rintro e w9 ⟨rfl,ownc,h1,f1⟩;have H2:=am h1;have F2:=am f1;clear H HCC BKc h1 f1))
      refine bodyPost_end (results_none rfl _ _ _) rfl ?_;first | exact ⟨rfl,ownc,(.slice Al s.log.length cl),(by rw [HT.out];exact H2.out),F2.out⟩ | exact ⟨rfl,ownc,⟨(.slice Al s.log.length cl),(by rw [HT.out];exact H2.out)⟩,F2.out⟩ | exact ⟨rfl,⟨ownc,(by rw [HT.out];exact H2.out),F2.out⟩⟩
     ·have y4:((tk s i).stage == 4)=false:=by simp [s4]
      have HT:Aside0 (try_ s i ds=write s i):=⟨by unfold try_;rw [if_neg s0,if_neg s1,if_neg s2,if_neg s3,if_neg s4]⟩;have A1:=am (TI.out.at1 (.inr (by have:=TI.out.stages;omega)));have PA:=am (TI.out.puts.at (k:=(tk s i).at_.toNat) (by have:=A1.out;omega)).1;clear s0 s1 s2 s3 s4
      go_wp2_with (first
      |(go_at_call 156;refine (write_calls i _ H.out hi hn hm hrn hpn hlg hpc0 hpc1 hat0 A1.out (by rw [QC.out];exact PA.out)).mono ?_;rintro e w9 ⟨rfl,ownc,vlc,h1,f1⟩;have H2:=am h1;have F2:=am f1;clear H HCC BKc h1 f1))
      refine bodyPost_end (results_none rfl _ _ _) rfl ?_;first | exact ⟨rfl,ownc,vlc,(by rw [HT.out];exact H2.out),F2.out⟩ | exact ⟨rfl,ownc,⟨vlc,(by rw [HT.out];exact H2.out)⟩,F2.out⟩ | exact ⟨rfl,⟨ownc,(by rw [HT.out];exact H2.out),F2.out⟩⟩
end
def leftW (W:World) (b i P:Nat):Nat:=
 match W.cell? ⟨b,i*13+5,none⟩,W.cell? ⟨b,i*13+6,none⟩ with
 | some (.int _ st),some (.int _ a)=>if st=5 then ((P:Int) - a).toNat+1 else 0
 | _,_=>0
theorem leftW_is {W:World} {b i P:Nat} {st a:Int} (h5:W.cell? ⟨b,i*13+5,none⟩=some (.int .i64 st)) (h6:W.cell? ⟨b,i*13+6,none⟩=some (.int .i64 a)):leftW W b i P=if st=5 then ((P:Int) - a).toNat+1 else 0:=by
 unfold leftW;rw [h5,h6]
theorem writes_stop {i:Nat} {s:Sys} (h:(tk s i).stage ≠ 5):∀ r,writes i r s=s
 | 0=>rfl
 | r+1=>by unfold writes;rw [if_neg h]
theorem writes_go {i:Nat} {s:Sys} (h:(tk s i).stage=5) (r:Nat):writes i (r+1) s=writes i r (write s i):=by
 rw [writes,if_pos h]
theorem write_tk {p:Prog} {s:Sys} {N i:Nat} (h:Inv p s N) (hi:i < s.tasks.length) (hs:(tk s i).stage=5):(tk (write s i) i).stage=0\/((tk (write s i) i).stage=5/\(tk (write s i) i).at_=(tk s i).at_+1/\(tk (write s i) i).puts=(tk s i).puts):=by
 unfold write;simp only [];split
 ·left
  unfold done;show (tk (setTask _ i _) i).stage=0;rw [tk_set (by simpa [set_len,setCell] using hi)]
 ·right
  rw [tk_set (by simpa [setCell] using hi)];exact ⟨hs,rfl,rfl⟩
section
variable {w0:World} {g:Nat} {own:Nat->Nat} {vp vb:Value} {p:Prog} {s:Sys} {vc vt vl:Value}
theorem off_calls {N:Nat} (hN:N<=1048576):∀ (n:Nat) (i:Nat) (s:Sys) (own:Nat->Nat) (vl:Value) (w:World),St 152 w0 g own vp vb p s vc vt vl w->Inv p s N->i < s.tasks.length->s.tasks.length - i<=n->
  Calls Try.prog 150 #[.pointer (some ⟨g,0,none⟩),.int .i64 i] w fun e w'=>e= .returned (.tuple #[])/\∃ own' vl',St 152 w0 g own' vp vb p (off s i) vc vt vl' w'/\Fr w.heap.size own own' w w':=by
 intro n
 induction n with
 | zero=>intro i s own vl w _ _ hi hn;omega
 | succ n ih=>
 intro i s own vl w h hinv hi hin;have H:=am h;clear h;have hn:s.tasks.length<=1048576:=Nat.le_trans hinv.many hN;obtain ⟨b,cap,rfl,hb3,hbg⟩:=H.out.tform (by omega);have IH:=am ih;have HOFF:=am (off_eq hinv hi);clear ih;go_enter Try.func150,Try.ntmps150;go_wp2;go_loopw [4] (fun k w'=>∃ kk:Nat,kk<=s.tasks.length/\k= .int .i64 kk/\∃ own' vl',Aside0 (St 152 w0 g own' vp vb p (offsTo s i kk) vc (.slice (some ⟨b,0,none⟩) s.tasks.length cap) vl' w')/\Aside0 (Fr w.heap.size own own' w w')) (fun k _=>s.tasks.length - (intOf k).toNat)
 case atStart=>exact ⟨0,Nat.zero_le _,rfl,own,vl,H,⟨Fr.refl _ _ _⟩⟩
 case round=>
  clear H;obtain ⟨k,hk,rfl,ownk,vlk,HK,FK⟩:=hrel;obtain ⟨sk,hsk⟩:∃ x:Sys,x=offsTo s i k:=⟨_,rfl⟩;have hlk:sk.tasks.length=s.tasks.length:=by rw [hsk,offsTo_len]
  have hinvk:Inv p sk N:=by rw [hsk];exact (hinv.offsTo hk).1
  rw [<-hsk] at HK;have HSK:=am hsk;clear hsk;obtain ⟨A0,c0,hc0⟩:=HK.out.cslice;obtain ⟨Al,cl,rfl⟩:=HK.out.lslice;have BKc:=zc8 HK.out.blk;by_cases hlt:k < s.tasks.length
  ·have hkk:k < sk.tasks.length:=by omega
   obtain ⟨v3,v8,v9,v10,hcc,-⟩:=HK.out.task hkk;have c_up:=hcc 2 _ rfl;have q0:(0:Int)<=(k:Int):=by omega
   have q1:(k:Int) < (s.tasks.length:Int):=by omega
   clear hcc hc0;by_cases hu:(tk sk k).up=(i:Int)
   ·have y0:((tk sk k).up == (i:Int))=true:=by simp [hu]
    have hup:=(hinvk.task k hkk).up1;have hik:i < k:=by omega
    have HU:=am hu;clear hu hup c_up;have c_up:wr.cell? ⟨b,k*13+2,none⟩=some (.int .i64 (tk sk k).up):=(by obtain ⟨_,_,_,_,hcc,-⟩:=HK.out.task hkk;exact hcc 2 _ rfl)
    go_wp2_with (first
    |(go_at_call 150;refine (IH.out k sk ownk _ _ HK.out hinvk hkk (by omega)).mono ?_;rintro e w9 ⟨rfl,ownc,vlc,h1,f1⟩;have H2:=am h1;have F2:=am (FK.out.trans (Fr.less f1 FK.out.size));clear HK FK BKc c_up h1 f1))
    go_roundw
    case rel=>exact ⟨k+1,by omega,by go_num,ownc,vlc,⟨by rw [offsTo_next,<-HSK.out,if_pos HU.out];exact H2.out⟩,F2⟩
    case measure=>simp [intOf];omega
   ·have y0:((tk sk k).up == (i:Int))=false:=by simp [hu]
    have HU:=am hu;clear hu;go_wp2;go_roundw
    case rel=>exact ⟨k+1,by omega,by go_num,ownk,_,⟨by rw [offsTo_next,<-HSK.out,if_neg HU.out];exact HK.out⟩,FK⟩
    case measure=>simp [intOf];omega
  ·obtain rfl:k=s.tasks.length:=by omega
   have hsk:sk=offs s i:=HSK.out;have hik:i < sk.tasks.length:=by omega
   have hinv1:Inv p sk N:=hinvk;obtain ⟨v3,v8,v9,v10,hcc,-⟩:=HK.out.task hik;have c_way:=hcc 4 _ rfl;have c_stage:=hcc 5 _ rfl;have q0:(0:Int)<=(i:Int):=by omega
   have q1:(i:Int) < (s.tasks.length:Int):=by omega
   clear hcc hc0
   cases hlive:isLive (tk sk i) with
   | false=>
    have y1:((tk sk i).way != 0)=true:=by
     unfold isLive at hlive;simp at hlive;simp [hlive.1]
    have y2:((tk sk i).way != 1)=true:=by
     unfold isLive at hlive;simp at hlive;simp [hlive.2]
    have HS1:=am hsk;have HLV:=am hlive;clear hsk hlive;go_wp2;refine bodyPost_ret (results_none rfl _ _ _) rfl ?_
    have he:off s i=sk:=by
     rw [HOFF.out,<-HS1.out];unfold offOne;rw [if_neg (by rw [HLV.out];simp)]
    first | exact ⟨rfl,ownk,(.slice Al sk.log.length cl),(by rw [he];exact HK.out),FK.out⟩ | exact ⟨rfl,ownk,⟨(.slice Al sk.log.length cl),(by rw [he];exact HK.out)⟩,FK.out⟩ | exact ⟨rfl,⟨ownk,(by rw [he];exact HK.out),FK.out⟩⟩
   | true=>
    by_cases hw0:(tk sk i).way=0
    ·have y1:((tk sk i).way != 0)=false:=by simp [hw0]
     clear hw0;obtain ⟨P,hP⟩:∃ x,x=(tk sk i).puts.length:=⟨_,rfl⟩;have HP:=am hP;have HS1:=am hsk;have HLV:=am hlive;clear hP hsk hlive;go_wp2;go_loopw [] (fun w'=>∃ (r:Nat) (sm:Sys) (own':Nat->Nat) (vl':Value),Aside0 (St 152 w0 g own' vp vb p sm vc (.slice (some ⟨b,0,none⟩) s.tasks.length cap) vl' w')/\Aside0 (Fr w.heap.size own own' w w')/\Aside0 (Inv p sm N/\sm.tasks.length=s.tasks.length/\writes i r sm=writes i (P+1) sk/\((tk sm i).stage=5->(tk sm i).puts.length=P/\(P:Int) - (tk sm i).at_<=r))) (fun w'=>leftW w' b i P)
     case atStart=>exact ⟨P+1,sk,ownk,_,HK,FK,⟨hinv1,hlk,rfl,fun _=>⟨HP.out.symm,by have:=(hinv1.task i hik).at0;omega⟩⟩⟩
     case round=>
      obtain ⟨r,sm,ownm,vlm,HM,FM,HQ⟩:=hrel;obtain ⟨hinvm,hlm,hwr,hq⟩:=HQ.out;clear HK FK BKc HQ;have him:i < sm.tasks.length:=by omega
      have hnm:sm.tasks.length<=1048576:=by omega
      have hmm:sm.cells.length<=1048576:=Nat.le_trans hinvm.cn (by decide);have hom:(tk sm i).old.length<=1048576:=by rw [(hinvm.task i him).old.len];decide
      obtain ⟨A2,c2,hc2⟩:=HM.out.cslice;obtain ⟨Al2,cl2,rfl⟩:=HM.out.lslice;have BKc:=zc8 HM.out.blk;obtain ⟨v3,v8,v9,v10,hcc,-⟩:=HM.out.task him;have c_stage:=hcc 5 _ rfl;have C6:=am (hcc 6 _ rfl);have C5:=am c_stage;clear hcc hc2;by_cases h5:(tk sm i).stage=5
      ·have z0:((tk sm i).stage == 5)=true:=by simp [h5]
       have S5:=am h5;have HQ5:=am (hq h5);have PA:=am (show 0<=(putAt (tk sm i).puts (tk sm i).at_.toNat).cell/\(putAt (tk sm i).puts (tk sm i).at_.toNat).cell < sm.cells.length by rw [hinvm.cells];exact ((hinvm.task i him).puts.at (by have:=(hinvm.task i him).at1 (.inr h5);have:=(hinvm.task i him).at0;omega)).1);have HWR:=am hwr;clear h5 hq hwr
       go_wp2_with (first
       |(go_at_call 156;refine (write_calls i _ HM.out him hnm hmm (Nat.le_trans (hinvm.reads him) (by decide)) (Nat.le_trans (hinvm.puts him) (by decide)) (by have:=hinvm.room;omega) (hinvm.task i him).pc0 (Int.le_trans (hinvm.pc him) (by decide)) (hinvm.task i him).at0 ((hinvm.task i him).at1 (.inr S5.out)) PA.out).mono ?_;rintro e w9 ⟨rfl,ownc,vlc,h1,f1⟩;have H2:=am h1;have F2:=am (FM.out.trans (Fr.less f1 FM.out.size));clear FM BKc h1 f1))
       go_roundw
       case rel=>
        have a1:=(hinvm.task i him).at1 (.inr S5.out);have a0:=(hinvm.task i him).at0;have q5:=HQ5.out;obtain ⟨r1,rfl⟩:∃ x,r=x+1:=⟨r - 1,by omega⟩;refine ⟨r1,write sm i,ownc,vlc,H2,F2,⟨hinvm.write him S5.out,by rw [write_len];exact hlm,by rw [<-writes_go S5.out];exact HWR.out,fun h5=> ?_⟩⟩;rcases write_tk hinvm him S5.out with hz | ⟨-,ha,hp⟩
        ·omega
        ·rw [hp,ha]
         exact ⟨q5.1,by omega⟩
       case measure=>
        have a1:=(hinvm.task i him).at1 (.inr S5.out);have a0:=(hinvm.task i him).at0;have q5:=HQ5.out;obtain ⟨_,_,_,_,hc9,-⟩:=H2.out.task (i:=i) (by rw [write_len];exact him);rw [leftW_is C5.out C6.out,leftW_is (hc9 5 _ rfl) (hc9 6 _ rfl),if_pos S5.out];rcases write_tk hinvm him S5.out with hz | ⟨hz,ha,hp⟩
        ·rw [if_neg (by omega)]
         omega
        ·rw [if_pos hz,ha]
         omega
      ·have z0:((tk sm i).stage == 5)=false:=by simp [h5]
       have HWR:Aside0 (sm=writes i (P+1) sk):=⟨by rw [<-hwr,writes_stop h5]⟩;have HWR:Aside0 (sm=writes i ((tk sk i).puts.length+1) sk):=⟨by rw [<-HP.out];exact HWR.out⟩;clear h5 hq hwr;by_cases s0:(tk sm i).stage=0
       ·have z1:((tk sm i).stage != 0)=false:=by simp [s0]
        have S0:=am s0;clear s0
        go_wp2_with (first
        |((with_reducible refine gate_store (t:=3) (p:=78) rfl ?_);refine set_ev (u:=.int .i64 4) rfl rfl _ _ rfl rfl rfl rfl rfl (by kernel_rfl) (HM.out.ready (i:=i) him 4 (by decide)) ?_;intro wz hwn;obtain ⟨k1,k2⟩:=HM.out.setInt (B:=w.heap.size) (i:=i) him 4 (by decide) 4 {tk sm i with way:=4} (fun _ _ _ _=>rfl) ⟨rfl,rfl,rfl,rfl⟩;rw [<-hwn] at k1 k2;have HZ:=am k1;have FZ:=am (FM.out.trans k2);clear HM FM BKc k1 k2 hwn))
        refine bodyPost_end (results_none rfl _ _ _) rfl ?_
        have he:off s i=setWay sm i 4:=by
         rw [HOFF.out,<-HS1.out];unfold offOne;rw [if_pos HLV.out];simp only [];rw [<-HWR.out,if_pos S0.out]
        first | exact ⟨rfl,ownm,(.slice Al2 sm.log.length cl2),(by rw [he];exact HZ.out),FZ.out⟩ | exact ⟨rfl,ownm,⟨(.slice Al2 sm.log.length cl2),(by rw [he];exact HZ.out)⟩,FZ.out⟩ | exact ⟨rfl,⟨ownm,(by rw [he];exact HZ.out),FZ.out⟩⟩
       ·have z1:((tk sm i).stage != 0)=true:=by simp [s0]
        have S0:=am s0;clear s0
        go_wp2_with (first
        |(go_at_call 159;refine (again_calls i _ HM.out him hnm hmm hom).mono ?_;rintro e w9 ⟨rfl,ownc,h1,f1⟩;have HA:=am h1;have FA:=am (FM.out.trans (Fr.less f1 FM.out.size));clear HM FM BKc h1 f1;have BKc:=zc8 HA.out.blk)
        |((with_reducible refine gate_store (t:=3) (p:=78) rfl ?_);refine set_ev (u:=.int .i64 4) rfl rfl _ _ rfl rfl rfl rfl rfl (by kernel_rfl) (HA.out.ready (i:=i) (by rw [again_len];exact him) 4 (by decide)) ?_;intro wz hwn;obtain ⟨k1,k2⟩:=HA.out.setInt (B:=w.heap.size) (i:=i) (by rw [again_len];exact him) 4 (by decide) 4 {tk (again sm i) i with way:=4} (fun _ _ _ _=>rfl) ⟨rfl,rfl,rfl,rfl⟩;rw [<-hwn] at k1 k2;have HZ:=am k1;have FZ:=am (FA.out.trans k2);clear HA FA BKc k1 k2 hwn))
        refine bodyPost_end (results_none rfl _ _ _) rfl ?_
        have he:off s i=setWay (again sm i) i 4:=by
         rw [HOFF.out,<-HS1.out];unfold offOne;rw [if_pos HLV.out];simp only [];rw [<-HWR.out,if_neg S0.out]
        first | exact ⟨rfl,ownc,(.slice Al2 sm.log.length cl2),(by rw [he];exact HZ.out),FZ.out⟩ | exact ⟨rfl,ownc,⟨(.slice Al2 sm.log.length cl2),(by rw [he];exact HZ.out)⟩,FZ.out⟩ | exact ⟨rfl,⟨ownc,(by rw [he];exact HZ.out),FZ.out⟩⟩
    ·have y1:((tk sk i).way != 0)=true:=by simp [hw0]
     have y2:((tk sk i).way != 1)=false:=by
      unfold isLive at hlive;simp [hw0] at hlive;simp [hlive]
     clear hw0;obtain ⟨P,hP⟩:∃ x,x=(tk sk i).puts.length:=⟨_,rfl⟩;have HP:=am hP;have HS1:=am hsk;have HLV:=am hlive;clear hP hsk hlive;go_wp2;go_loopw [] (fun w'=>∃ (r:Nat) (sm:Sys) (own':Nat->Nat) (vl':Value),Aside0 (St 152 w0 g own' vp vb p sm vc (.slice (some ⟨b,0,none⟩) s.tasks.length cap) vl' w')/\Aside0 (Fr w.heap.size own own' w w')/\Aside0 (Inv p sm N/\sm.tasks.length=s.tasks.length/\writes i r sm=writes i (P+1) sk/\((tk sm i).stage=5->(tk sm i).puts.length=P/\(P:Int) - (tk sm i).at_<=r))) (fun w'=>leftW w' b i P)
     case atStart=>exact ⟨P+1,sk,ownk,_,HK,FK,⟨hinv1,hlk,rfl,fun _=>⟨HP.out.symm,by have:=(hinv1.task i hik).at0;omega⟩⟩⟩
     case round=>
      obtain ⟨r,sm,ownm,vlm,HM,FM,HQ⟩:=hrel;obtain ⟨hinvm,hlm,hwr,hq⟩:=HQ.out;clear HK FK BKc HQ;have him:i < sm.tasks.length:=by omega
      have hnm:sm.tasks.length<=1048576:=by omega
      have hmm:sm.cells.length<=1048576:=Nat.le_trans hinvm.cn (by decide);have hom:(tk sm i).old.length<=1048576:=by rw [(hinvm.task i him).old.len];decide
      obtain ⟨A2,c2,hc2⟩:=HM.out.cslice;obtain ⟨Al2,cl2,rfl⟩:=HM.out.lslice;have BKc:=zc8 HM.out.blk;obtain ⟨v3,v8,v9,v10,hcc,-⟩:=HM.out.task him;have c_stage:=hcc 5 _ rfl;have C6:=am (hcc 6 _ rfl);have C5:=am c_stage;clear hcc hc2;by_cases h5:(tk sm i).stage=5
      ·have z0:((tk sm i).stage == 5)=true:=by simp [h5]
       have S5:=am h5;have HQ5:=am (hq h5);have PA:=am (show 0<=(putAt (tk sm i).puts (tk sm i).at_.toNat).cell/\(putAt (tk sm i).puts (tk sm i).at_.toNat).cell < sm.cells.length by rw [hinvm.cells];exact ((hinvm.task i him).puts.at (by have:=(hinvm.task i him).at1 (.inr h5);have:=(hinvm.task i him).at0;omega)).1);have HWR:=am hwr;clear h5 hq hwr
       go_wp2_with (first
       |(go_at_call 156;refine (write_calls i _ HM.out him hnm hmm (Nat.le_trans (hinvm.reads him) (by decide)) (Nat.le_trans (hinvm.puts him) (by decide)) (by have:=hinvm.room;omega) (hinvm.task i him).pc0 (Int.le_trans (hinvm.pc him) (by decide)) (hinvm.task i him).at0 ((hinvm.task i him).at1 (.inr S5.out)) PA.out).mono ?_;rintro e w9 ⟨rfl,ownc,vlc,h1,f1⟩;have H2:=am h1;have F2:=am (FM.out.trans (Fr.less f1 FM.out.size));clear FM BKc h1 f1))
       go_roundw
       case rel=>
        have a1:=(hinvm.task i him).at1 (.inr S5.out);have a0:=(hinvm.task i him).at0;have q5:=HQ5.out;obtain ⟨r1,rfl⟩:∃ x,r=x+1:=⟨r - 1,by omega⟩;refine ⟨r1,write sm i,ownc,vlc,H2,F2,⟨hinvm.write him S5.out,by rw [write_len];exact hlm,by rw [<-writes_go S5.out];exact HWR.out,fun h5=> ?_⟩⟩;rcases write_tk hinvm him S5.out with hz | ⟨-,ha,hp⟩
        ·omega
        ·rw [hp,ha]
         exact ⟨q5.1,by omega⟩
       case measure=>
        have a1:=(hinvm.task i him).at1 (.inr S5.out);have a0:=(hinvm.task i him).at0;have q5:=HQ5.out;obtain ⟨_,_,_,_,hc9,-⟩:=H2.out.task (i:=i) (by rw [write_len];exact him);rw [leftW_is C5.out C6.out,leftW_is (hc9 5 _ rfl) (hc9 6 _ rfl),if_pos S5.out];rcases write_tk hinvm him S5.out with hz | ⟨hz,ha,hp⟩
        ·rw [if_neg (by omega)]
         omega
        ·rw [if_pos hz,ha]
         omega
      ·have z0:((tk sm i).stage == 5)=false:=by simp [h5]
       have HWR:Aside0 (sm=writes i (P+1) sk):=⟨by rw [<-hwr,writes_stop h5]⟩;have HWR:Aside0 (sm=writes i ((tk sk i).puts.length+1) sk):=⟨by rw [<-HP.out];exact HWR.out⟩;clear h5 hq hwr;by_cases s0:(tk sm i).stage=0
       ·have z1:((tk sm i).stage != 0)=false:=by simp [s0]
        have S0:=am s0;clear s0
        go_wp2_with (first
        |((with_reducible refine gate_store (t:=3) (p:=78) rfl ?_);refine set_ev (u:=.int .i64 4) rfl rfl _ _ rfl rfl rfl rfl rfl (by kernel_rfl) (HM.out.ready (i:=i) him 4 (by decide)) ?_;intro wz hwn;obtain ⟨k1,k2⟩:=HM.out.setInt (B:=w.heap.size) (i:=i) him 4 (by decide) 4 {tk sm i with way:=4} (fun _ _ _ _=>rfl) ⟨rfl,rfl,rfl,rfl⟩;rw [<-hwn] at k1 k2;have HZ:=am k1;have FZ:=am (FM.out.trans k2);clear HM FM BKc k1 k2 hwn))
        refine bodyPost_end (results_none rfl _ _ _) rfl ?_
        have he:off s i=setWay sm i 4:=by
         rw [HOFF.out,<-HS1.out];unfold offOne;rw [if_pos HLV.out];simp only [];rw [<-HWR.out,if_pos S0.out]
        first | exact ⟨rfl,ownm,(.slice Al2 sm.log.length cl2),(by rw [he];exact HZ.out),FZ.out⟩ | exact ⟨rfl,ownm,⟨(.slice Al2 sm.log.length cl2),(by rw [he];exact HZ.out)⟩,FZ.out⟩ | exact ⟨rfl,⟨ownm,(by rw [he];exact HZ.out),FZ.out⟩⟩
       ·have z1:((tk sm i).stage != 0)=true:=by simp [s0]
        have S0:=am s0;clear s0
        go_wp2_with (first
        |(go_at_call 159;refine (again_calls i _ HM.out him hnm hmm hom).mono ?_;rintro e w9 ⟨rfl,ownc,h1,f1⟩;have HA:=am h1;have FA:=am (FM.out.trans (Fr.less f1 FM.out.size));clear HM FM BKc h1 f1;have BKc:=zc8 HA.out.blk)
        |((with_reducible refine gate_store (t:=3) (p:=78) rfl ?_);refine set_ev (u:=.int .i64 4) rfl rfl _ _ rfl rfl rfl rfl rfl (by kernel_rfl) (HA.out.ready (i:=i) (by rw [again_len];exact him) 4 (by decide)) ?_;intro wz hwn;obtain ⟨k1,k2⟩:=HA.out.setInt (B:=w.heap.size) (i:=i) (by rw [again_len];exact him) 4 (by decide) 4 {tk (again sm i) i with way:=4} (fun _ _ _ _=>rfl) ⟨rfl,rfl,rfl,rfl⟩;rw [<-hwn] at k1 k2;have HZ:=am k1;have FZ:=am (FA.out.trans k2);clear HA FA BKc k1 k2 hwn))
        refine bodyPost_end (results_none rfl _ _ _) rfl ?_
        have he:off s i=setWay (again sm i) i 4:=by
         rw [HOFF.out,<-HS1.out];unfold offOne;rw [if_pos HLV.out];simp only [];rw [<-HWR.out,if_neg S0.out]
        first | exact ⟨rfl,ownc,(.slice Al2 sm.log.length cl2),(by rw [he];exact HZ.out),FZ.out⟩ | exact ⟨rfl,ownc,⟨(.slice Al2 sm.log.length cl2),(by rw [he];exact HZ.out)⟩,FZ.out⟩ | exact ⟨rfl,⟨ownc,(by rw [he];exact HZ.out),FZ.out⟩⟩
end
section
variable {w0:World} {g:Nat} {own:Nat->Nat} {vp vb:Value} {p:Prog} {s:Sys} {vc vt vl:Value}
theorem awaits_calls {N:Nat} (i:Nat) (w:World) (h:St 152 w0 g own vp vb p s vc vt vl w) (hinv:Inv p s N) (hN:N<=1048576) (hi:i < s.tasks.length):
  Calls Try.prog 137 #[.pointer (some ⟨g,0,none⟩),.int .i64 i] w fun e w'=>e= .returned (.tuple #[])/\∃ own' vl',St 152 w0 g own' vp vb p (awaits s i) vc vt vl' w'/\Fr w.heap.size own own' w w':=by
 have H:=am h;clear h;have hn:s.tasks.length<=1048576:=Nat.le_trans hinv.many hN;have hpc0:=(hinv.task i hi).pc0;have hpc1:=hinv.pc hi;obtain ⟨b,cap,rfl,hb3,hbg⟩:=H.out.tform (by omega);obtain ⟨n3,hn3⟩:∃ n,n=kidsN s.tasks i 3:=⟨_,rfl⟩;have N3:=am hn3.symm;clear hn3;go_enter Try.func137,Try.ntmps137;by_cases hz:n3=0
 ·have y0:((n3:Int) == 0)=true:=by simp [hz]
  have HZ:=am hz;obtain ⟨A0,c0,hc0⟩:=H.out.cslice;obtain ⟨Al,cl,rfl⟩:=H.out.lslice;have BKc:=zc8 H.out.blk;have F:=am (Fr.refl w.heap.size own w);have q0:(0:Int)<=(i:Int):=by omega
  have q1:(i:Int) < (s.tasks.length:Int):=by omega
  clear hc0
  go_wp2_with (first
  |(go_at_call 125;refine Calls.mono (kids_calls (i:Int) 3 _ H.out.ro hn) ?_;rw [N3.out];rintro e w9 ⟨rfl,hw9⟩;obtain rfl:=hw9.symm)
  |((with_reducible refine gate_store (t:=3) (p:=16) rfl ?_);refine set_ev (u:=.int .i64 0) rfl rfl _ _ rfl rfl rfl rfl rfl (by kernel_rfl) (H.out.ready (i:=i) hi 4 (by decide)) ?_;intro w2 hwn;obtain ⟨k1,k2⟩:=H.out.setInt (B:=w.heap.size) (i:=i) hi 4 (by decide) 0 {tk s i with way:=0} (fun _ _ _ _=>rfl) ⟨rfl,rfl,rfl,rfl⟩;rw [<-hwn] at k1 k2;have H2:=am k1;have F2:=am (F.out.trans k2);clear H F BKc k1 k2 hwn))
  obtain ⟨s1,hs1⟩:∃ x:Sys,x=setTask s i {tk s i with way:=0}:=⟨_,rfl⟩;have hi1:i < s1.tasks.length:=by rw [hs1,set_len];exact hi
  rw [<-hs1] at H2;have ht1:(tk s1 i).pc=(tk s i).pc:=by rw [hs1,tk_set hi]
  have BKc:=zc8 H2.out.blk;obtain ⟨v3,v8,v9,v10,hcc,-⟩:=H2.out.task hi1;have c_pc:=hcc 1 _ rfl;rw [ht1] at c_pc;clear hcc;refine wp_region_still_tail 18 (by kernel_rfl) (by kernel_rfl) ?_;simp only [List.take_succ_cons,List.take_zero,List.drop_succ_cons,List.drop_zero];iterate 18 still_step
  refine wpStill_nil ?_;rw [show IntKind.i64.wrap ((tk s i).pc+1)=(tk s i).pc+1 from by rw [i64_w];unfold wrap64;omega];clear c_pc;have hb:=below_drew (Below.refl w2.heap.size w2);show wpList _ _ _ _ _ w2.drew;generalize w2.drew=w3 at hb ⊢;have H3:=am (H2.out.grow hb);have F3:=am (F2.out.trans (Fr.less (Fr.below hb) F2.out.size));clear H2 F2 BKc hb;have BKc:=zc8 H3.out.blk
  go_wp2_with (first
  |((with_reducible refine gate_store (t:=3) (p:=34) rfl ?_);refine set_ev (u:=.int .i64 ((tk s i).pc+1)) rfl rfl _ _ rfl rfl rfl rfl rfl (by kernel_rfl) (H3.out.ready (i:=i) hi1 1 (by decide)) ?_;intro w4 hwn;obtain ⟨k1,k2⟩:=H3.out.setInt (B:=w.heap.size) (i:=i) hi1 1 (by decide) ((tk s i).pc+1) {tk s1 i with pc:=(tk s i).pc+1} (fun _ _ _ _=>rfl) ⟨rfl,rfl,rfl,rfl⟩;rw [<-hwn] at k1 k2;have H4:=am k1;have F4:=am (F3.out.trans k2);clear H3 F3 BKc k1 k2 hwn))
  refine bodyPost_ret (results_none rfl _ _ _) rfl ?_;have h:=H4.out;rw [hs1,set_set,tk_set hi] at h
  have he:awaits s i=setTask s i {tk s i with way:=0,pc:=(tk s i).pc+1}:=by
   unfold awaits;rw [N3.out,if_pos HZ.out]
  first | exact ⟨rfl,own,(.slice Al s.log.length cl),(by rw [he];exact h),F4.out⟩ | exact ⟨rfl,own,⟨(.slice Al s.log.length cl),(by rw [he];exact h)⟩,F4.out⟩ | exact ⟨rfl,⟨own,(by rw [he];exact h),F4.out⟩⟩
 ·have y0:((n3:Int) == 0)=false:=by simp [hz]
  have y0':(n3 == 0)=false:=by simp [hz]
  have HZ:=am hz;have BKc:=zc8 H.out.blk;have HE:Aside0 (awaits s i=setWay (offs s i) i 3):=⟨by unfold awaits;rw [N3.out,if_neg HZ.out]⟩;clear hz
  go_wp2_with (first
  |(go_at_call 125;refine Calls.mono (kids_calls (i:Int) 3 _ H.out.ro hn) ?_;rw [N3.out];rintro e w9 ⟨rfl,hw9⟩;obtain rfl:=hw9.symm))
  go_loopw [4] (fun k w'=>∃ kk:Nat,kk<=s.tasks.length/\k= .int .i64 kk/\∃ own' vl',Aside0 (St 152 w0 g own' vp vb p (offsTo s i kk) vc (.slice (some ⟨b,0,none⟩) s.tasks.length cap) vl' w')/\Aside0 (Fr w.heap.size own own' w w')) (fun k _=>s.tasks.length - (intOf k).toNat)
  case atStart=>exact ⟨0,Nat.zero_le _,rfl,own,vl,H,⟨Fr.refl _ _ _⟩⟩
  case round=>
  clear H BKc;obtain ⟨k,hk,rfl,ownk,vlk,HK,FK⟩:=hrel;obtain ⟨sk,hsk⟩:∃ x:Sys,x=offsTo s i k:=⟨_,rfl⟩;have hlk:sk.tasks.length=s.tasks.length:=by rw [hsk,offsTo_len]
  have hinvk:Inv p sk N:=by rw [hsk];exact (hinv.offsTo hk).1
  rw [<-hsk] at HK;have HSK:=am hsk;clear hsk;obtain ⟨A0,c0,hc0⟩:=HK.out.cslice;obtain ⟨Al,cl,rfl⟩:=HK.out.lslice;have BKc:=zc8 HK.out.blk;by_cases hlt:k < s.tasks.length
  ·have hkk:k < sk.tasks.length:=by omega
   obtain ⟨v3,v8,v9,v10,hcc,-⟩:=HK.out.task hkk;have c_up:=hcc 2 _ rfl;have q0:(0:Int)<=(k:Int):=by omega
   have q1:(k:Int) < (s.tasks.length:Int):=by omega
   clear hcc hc0;by_cases hu:(tk sk k).up=(i:Int)
   ·have y0:((tk sk k).up == (i:Int))=true:=by simp [hu]
    have hup:=(hinvk.task k hkk).up1;have hik:i < k:=by omega
    have HU:=am hu;clear hu hup c_up;have c_up:wr.cell? ⟨b,k*13+2,none⟩=some (.int .i64 (tk sk k).up):=(by obtain ⟨_,_,_,_,hcc,-⟩:=HK.out.task hkk;exact hcc 2 _ rfl)
    go_wp2_with (first
    |(go_at_call 150;refine (off_calls hN (sk.tasks.length - k) k sk ownk _ _ HK.out hinvk hkk (Nat.le_refl _)).mono ?_;rintro e w9 ⟨rfl,ownc,vlc,h1,f1⟩;have H2:=am h1;have F2:=am (FK.out.trans (Fr.less f1 FK.out.size));clear HK FK BKc c_up h1 f1))
    go_roundw
    case rel=>exact ⟨k+1,by omega,by go_num,ownc,vlc,⟨by rw [offsTo_next,<-HSK.out,if_pos HU.out];exact H2.out⟩,F2⟩
    case measure=>simp [intOf];omega
   ·have y0:((tk sk k).up == (i:Int))=false:=by simp [hu]
    have HU:=am hu;clear hu;go_wp2;go_roundw
    case rel=>exact ⟨k+1,by omega,by go_num,ownk,_,⟨by rw [offsTo_next,<-HSK.out,if_neg HU.out];exact HK.out⟩,FK⟩
    case measure=>simp [intOf];omega
  ·obtain rfl:k=s.tasks.length:=by omega
   have hsk:sk=offs s i:=HSK.out;have hik:i < sk.tasks.length:=by omega
   have HS1:=am hsk;clear hsk hc0
   go_wp2_with (first
   |(go_at_call 140;refine (fails_calls i _ HK.out hik (by omega)).mono ?_;rintro e w9 ⟨rfl,h1,f1⟩;have H2:=am h1;have F2:=am (FK.out.trans (Fr.less f1 FK.out.size));clear HK FK BKc h1 f1))
   refine bodyPost_end (results_none rfl _ _ _) rfl ?_;first | exact ⟨rfl,ownk,(.slice Al sk.log.length cl),(by rw [HE.out,<-HS1.out];exact H2.out),F2.out⟩ | exact ⟨rfl,ownk,⟨(.slice Al sk.log.length cl),(by rw [HE.out,<-HS1.out];exact H2.out)⟩,F2.out⟩ | exact ⟨rfl,⟨ownk,(by rw [HE.out,<-HS1.out];exact H2.out),F2.out⟩⟩
end
def forkTo (s:Sys) (i:Nat) (ks:List Int) (k:Nat):Sys:={s with tasks:=s.tasks ++ (ks.take k).map fun b=>newTask b i}
theorem forkTo_zero (s:Sys) (i:Nat) (ks:List Int):forkTo s i ks 0=s:=by simp [forkTo]
theorem forkTo_next (s:Sys) (i:Nat) (ks:List Int) {k:Nat} (h:k < ks.length):forkTo s i ks (k+1)= {forkTo s i ks k with tasks:=(forkTo s i ks k).tasks ++ [newTask (numAt ks k) i]}:=by
 unfold forkTo;rw [List.take_succ_eq_append_getElem h,List.map_append];simp [numAt,h]
theorem forkTo_len (s:Sys) (i:Nat) (ks:List Int) {k:Nat} (h:k<=ks.length):(forkTo s i ks k).tasks.length=s.tasks.length+k:=by
 simp [forkTo];omega
theorem forkTo_tk (s:Sys) (i:Nat) (ks:List Int) (k:Nat) {j:Nat} (h:j < s.tasks.length):tk (forkTo s i ks k) j=tk s j:=tk_app s _ h
theorem zip_snoc (ts:List Task) (t:Task):(ts ++ [t]).zipIdx=ts.zipIdx ++ [(t,ts.length)]:=by
 rw [List.zipIdx_append];simp
section
variable {w0:World} {g:Nat} {own:Nat->Nat} {vp vb:Value} {p:Prog} {s:Sys} {vc vt vl:Value}
theorem fork_calls (i:Nat) (Ak:Option Addr) (ck:Nat) (ks:List Int) (w:World) (h:St 152 w0 g own vp vb p s vc vt vl w) (hi:i < s.tasks.length) (hn:s.tasks.length<=1048576) (hks:(Kd.int .i64).C w0 Ak ks.length ks) (hkn:ks.length<=1048576):
  Calls Try.prog 139 #[.pointer (some ⟨g,0,none⟩),.int .i64 i,.slice Ak ks.length ck] w fun e w'=>e= .returned (.tuple #[])/\∃ own' vt',St 152 w0 g own' vp vb p (fork s i ks) vc vt' vl w'/\Fr w.heap.size own own' w w':=by
 have H:=am h;clear h;have HKS:=am hks;clear hks;go_enter Try.func139,Try.ntmps139;go_wp2;go_loopw [6] (fun j w'=>∃ k:Nat,k<=ks.length/\j= .int .i64 k/\∃ own' vt',Aside0 (St 152 w0 g own' vp vb p (forkTo s i ks k) vc vt' vl w')/\Aside0 (Fr w.heap.size own own' w w')) (fun j _=>ks.length - (intOf j).toNat)
 case atStart=>exact ⟨0,Nat.zero_le _,rfl,own,vt,⟨by rw [forkTo_zero];exact H.out⟩,⟨Fr.refl _ _ _⟩⟩
 case round=>
  clear H;obtain ⟨k,hk,rfl,ownk,vtk,HK,FK⟩:=hrel;obtain ⟨sk,hsk⟩:∃ x:Sys,x=forkTo s i ks k:=⟨_,rfl⟩;have hlk:sk.tasks.length=s.tasks.length+k:=by rw [hsk,forkTo_len _ _ _ hk]
  rw [<-hsk] at HK;have HSK:=am hsk;clear hsk;obtain ⟨A0,c0,hc0⟩:=HK.out.cslice;obtain ⟨Al,cl,hcl⟩:=HK.out.lslice;obtain ⟨b,cap,rfl,hb3,hbg⟩:=HK.out.tform (by omega);have BKc:=zc8 HK.out.blk;have HLK:=am hlk;clear hc0 hcl hlk;by_cases hlt:k < ks.length
  ·have CK:=am (Kd.C_below HKS.out HK.out.below)
   have q0:(0:Int)<=(k:Int):=by omega
   have q1:(k:Int) < (ks.length:Int):=by omega
   obtain ⟨ad,hadr,gx⟩:=Kd.at_int CK.out (k:Int) q0 q1;subst hadr;simp only [Int.toNat_natCast] at gx;obtain ⟨kid,hkid⟩:∃ x,x=numAt ks k:=⟨_,rfl⟩;rw [show rd ks (k:Int)=kid from hkid.symm] at gx;have HKD:=am hkid;clear hkid;go_wp2;refine st9 (n:=18) (S:=fun W=>W.heap[g]? = some (.cells #[vp,vb,vc,.slice (some ⟨b,0,none⟩) sk.tasks.length cap,.int .i64 sk.clock,vl] 152 (0,0))/\(Kd.int .i64).C W (some ad) ks.length ks) (ds:= [14,15,16,17]) (by kernel_rfl) rfl ⟨blk_drew HK.out.blk,Kd.C_below CK.out (below_drew (Below.refl _ _))⟩ (fun hHeld=> ?_);have hb:=below_drew (Below.refl wr.heap.size wr);generalize wr.drew=w7 at hb hHeld ⊢;have H7:=am (HK.out.grow hb);have F7:=am (FK.out.trans (Fr.less (Fr.below hb) FK.out.size));clear HK FK hb BKc gx CK;refine ba9 (fuel:=7) (n:=11) [0,1,2,3,4,5,6,7,8,9,10] (by kernel_rfl) (fun N _ _ _ _ h=>by cases N <;> exact h) hHeld ?_
   iterate 11 (
    refine stillS_step (v:= ?_) (a':= ?_) rfl (Or.inl ⟨by rfl, ?_⟩) ?_ ?_;rotate_left
    ·rintro W ⟨s0,s2⟩
     have t0:=zc8 s0;obtain ⟨ad1,hh,gx⟩:=Kd.at_int s2 (k:Int) q0 q1;cases hh;simp only [Int.toNat_natCast] at gx;rw [show rd ks (k:Int)=kid from HKD.out.symm] at gx;clear s0 s2;go_simp;with_reducible rfl
    rotate_left
    ·simp only [Act.put,sA,sZ,sS,i64_w]
     rfl)
   refine stillS_nil ?_;refine on9 (i:=11) (N:=some 24) rfl rfl (by kernel_rfl) (by decide) (fun K hK=> ?_);refine goes_ Try.func135 (by kernel_rfl) rfl #[.int .i64 kid,.int .i64 i] (by rfl) rfl rfl (by (try simp only [List.map_toArray,List.map_cons,List.map_nil]);first | done | rfl) ?_;refine (l11Task_calls kid (i:Int) _).mono ?_;rintro e wn ⟨v3,v8,v9,v10,rfl,hN4,hb⟩;refine ⟨_,rfl, ?_⟩;refine hK.out _ _ ⟨zb8 hHeld.1 hb,Kd.C_below hHeld.2 hb⟩ (fun hHeld=> ?_);clear hK K;refine norm_ (a':= ?_) ?_ ?_;rotate_left
   ·show Act.put _ (some 24) _=_
    simp only [Act.put,sA,sZ,sS,i64_w];rfl
   have H8:=am (H7.out.grow hb);have F8:=am (F7.out.trans (Fr.less (Fr.below hb) F7.out.size));obtain ⟨kt,ft⟩:=H8.out.newTags (B:=w.heap.size) (L:=sk.tasks.length) hN4 (fun k hk=>H7.out.new0 k hk) H7.out.below.size F7.out.size;have hrow:=New4.row (own:=ownk) (L:=sk.tasks.length) (B:=w0.heap.size) hN4 H7.out.below.size kid (i:Int);obtain ⟨own2,hown2⟩:∃ o,o=tag4 ownk v3 v8 v9 v10 sk.tasks.length:=⟨_,rfl⟩;rw [<-hown2] at kt ft hrow;have H9:=am kt;have F9:=am (F8.out.trans ft);clear H7 F7 H8 F8 hb kt ft hN4 hown2;refine on9 (i:=12) (N:=some 25) rfl rfl (by kernel_rfl) (by decide) (fun K hK=> ?_);refine value_ (v:=.slice (some ⟨wn.heap.size,0,none⟩) 1 1) (w1:=wn.alloc (.cells #[.int .i64 kid,.int .i64 0,.int .i64 (i:Int),v3,.int .i64 0,.int .i64 0,.int .i64 0,.int .i64 0,v8,v9,v10,.int .i64 0,.int .i64 0] 38 (0,0))) (by rfl) rfl (by unfold newCells;first|(go_simp;done)|(go_simp;rfl)) ?_;have hHeld0:=hHeld;refine hK.out _ _ ⟨blk_alloc hHeld.1 _,Kd.C_below hHeld.2 (below_alloc (Below.refl _ _) _)⟩ (fun hHeld=> ?_);clear hK K;refine norm_ (a':= ?_) ?_ ?_;rotate_left
   ·show Act.put _ (some 25) _=_
    simp only [Act.put,sA,sZ,sS,i64_w];rfl
   refine on9 (i:=13) (N:=some 26) rfl rfl (by kernel_rfl) (by decide) (fun K hK=> ?_);refine Kd.R_append_step (kTaskO own2) (w0:=w0) w0.heap.size (by rfl) (.tmp 18) (.tmp 25) 24 38 (.agg #[.int .i64 0,.int .i64 0,.int .i64 0,.slice none 0 0,.int .i64 0,.int .i64 0,.int .i64 0,.int .i64 0,.slice none 0 0,.slice none 0 0,.slice none 0 0,.int .i64 0,.int .i64 0]) 168 rfl Try.underlying24 (by kernel_rfl) rfl (by rw [kTaskO_sz];decide) (by decide) (.slice (some ⟨b,0,none⟩) sk.tasks.length cap) sk.tasks.zipIdx (newTask kid (i:Int),sk.tasks.length) [.int .i64 kid,.int .i64 0,.int .i64 (i:Int),v3,.int .i64 0,.int .i64 0,.int .i64 0,.int .i64 0,v8,v9,v10,.int .i64 0,.int .i64 0] (fun k=>(own2 k=3\/8<=own2 k)\/(own2 k=0/\w.heap.size<=k)) (fun k=>8<=own2 k) rfl (by unfold newCells;rfl) hrow (fun k hk=>⟨.inl (.inr hk),fun he=>by have:=H9.out.town k he.symm;omega⟩) (fun k hk=> .inr ⟨H9.out.new0 k hk,Nat.le_trans F9.out.size hk⟩) (Kd.R_mono H9.out.tasks (fun k hk=> .inl hk)) H9.out.below H9.out.below.size (by rw [zip_len];have:=HLK.out;omega) ?_;intro v1 w6 hv1 hb6 hg6 hat6;have hgl:some g ≠ (Value.slice (some ⟨b,0,none⟩) sk.tasks.length cap).ownBlock:=fun he=>by have h5:own2 g=3:=H9.out.town g he.symm;rw [H9.out.gown] at h5;cases h5
   refine hK.out _ _ ⟨blk_grown hHeld0.1 hg6 hgl,Kd.C_below HKS.out hb6⟩ (fun hHeld=> ?_);clear hK K;refine norm_ (a':= ?_) ?_ ?_;rotate_left
   ·show Act.put _ (some 26) _=_
    simp only [Act.put,sA,sZ,sS,i64_w];rfl
   obtain ⟨own3,k1,k2⟩:=H9.out.tasksSet (B:=w.heap.size) hb6 F9.out.size hg6 (ts':=sk.tasks ++ [newTask kid (i:Int)]) (by rw [zip_snoc];exact hv1) hat6;have H10:=am k1;have F10:=am (F9.out.trans k2);have V:=am hv1;have BKg:=am hHeld.1;have BKc:=zc8 BKg.out;clear H9 F9 hrow hHeld hHeld0 hv1 hb6 hg6 hat6 hgl k1 k2;refine tail_ (fuel:=4) 14 (by kernel_rfl) ?_;simp only [List.drop_succ_cons,List.drop_zero]
   go_wp2_with (first
   |((with_reducible refine gate_store (t:=24) (p:=29) rfl ?_);refine set_ev (u:=v1) rfl rfl _ _ rfl (g:=g) (off:=3) rfl rfl (R_cells V.out) (R_oneCell V.out) (by kernel_rfl) ⟨⟨_,by rw [zc8 BKg.out];rfl⟩,blk_frozen BKg.out _⟩ ?_;intro w11 hwn;rw [<-hwn] at H10 F10;clear hwn V BKg BKc))
   go_roundw
   case rel=>exact ⟨k+1,by omega,by go_num,own3,v1,⟨by rw [forkTo_next _ _ _ hlt,<-HSK.out,<-HKD.out];exact H10.out⟩,F10⟩
   case measure=>simp [intOf];omega
  ·obtain rfl:k=ks.length:=by omega
   have hik:i < sk.tasks.length:=by have:=HLK.out;omega
   have htk:tk sk i=tk s i:=by rw [HSK.out,forkTo_tk _ _ _ _ hi]
   have q0:(0:Int)<=(i:Int):=by omega
   have q1:(i:Int) < (sk.tasks.length:Int):=by omega
   have he:fork s i ks=setWay sk i 1:=by
    rw [HSK.out];unfold fork forkTo;rw [List.take_length]
   have HE:=am he;clear he htk
   go_wp2_with (first
   |((with_reducible refine gate_store (t:=3) (p:=37) rfl ?_);refine set_ev (u:=.int .i64 1) rfl rfl _ _ rfl rfl rfl rfl rfl (by kernel_rfl) (HK.out.ready (i:=i) hik 4 (by decide)) ?_;intro w2 hwn;obtain ⟨k1,k2⟩:=HK.out.setInt (B:=w.heap.size) (i:=i) hik 4 (by decide) 1 {tk sk i with way:=1} (fun _ _ _ _=>rfl) ⟨rfl,rfl,rfl,rfl⟩;rw [<-hwn] at k1 k2;have H2:=am k1;have F2:=am (FK.out.trans k2);clear HK FK BKc k1 k2 hwn))
   refine bodyPost_end (results_none rfl _ _ _) rfl ?_;first | exact ⟨rfl,ownk,_,(by rw [HE.out];exact H2.out),F2.out⟩ | exact ⟨rfl,ownk,⟨_,(by rw [HE.out];exact H2.out)⟩,F2.out⟩ | exact ⟨rfl,⟨ownk,(by rw [HE.out];exact H2.out),F2.out⟩⟩
end
theorem wp_named {P:Program} {c:Code} {Q:Exit->Go.Act->World->Prop} {a:Go.Act} {w:World} (h:∀ w',w'=w->c.wp P Q a w'):c.wp P Q a w:=h w rfl
section
variable {w0:World} {g:Nat} {own:Nat->Nat} {vp vb:Value} {p:Prog} {s:Sys} {vc vt vl:Value}
theorem step_calls {N:Nat} (i:Nat) (w:World) (h:St 152 w0 g own vp vb p s vc vt vl w) (hinv:Inv p s N) (hN:N<=1048576) (hi:i < s.tasks.length) (hr:ready s i=true):
  Calls Try.prog 122 #[.pointer (some ⟨g,0,none⟩),.int .i64 i] w fun e w'=>e= .returned (.tuple #[])/\∃ own' vt' vl',St 152 w0 g own' vp vb p (step p s i) vc vt' vl' w'/\Fr w.heap.size own own' w w':=by
 have H:=am h;clear h;have t:=hinv.task i hi;have hn:s.tasks.length<=1048576:=Nat.le_trans hinv.many hN;have hpc0:0<=(taskAt s.tasks i).pc:=t.pc0;have hpc1:(tk s i).pc<=4:=hinv.pc hi;have hpz:0<=(tk s i).pc:=hpc0;have hb0:0<=(taskAt s.tasks i).body:=t.body0;have hb1:(taskAt s.tasks i).body < p.bodies.length:=t.body1;have hbn:p.bodies.length<=1048576:=Nat.le_trans (form_cells hinv.form).2.2 (by decide);have han:(actsAt p.bodies (taskAt s.tasks i).body.toNat).length<=1048576:=Nat.le_trans (hinv.acts hi) (by decide);have hact:(tk s i).pc < (actsAt p.bodies (tk s i).body.toNat).length->actOk p.cells.length p.bodies.length (tk s i).body (actAt (actsAt p.bodies (tk s i).body.toNat) (tk s i).pc.toNat)=true:=fun hlt=>form_act hinv.form ⟨t.body0,t.body1⟩ (by have:=t.pc0;omega)
 have HACT:=am hact;have QC:=am hinv.cells;have HRG:=am t.regs;have W01:=am (ready_way hr).1;clear hact t hr;obtain ⟨b,cap,rfl,hb3,hbg⟩:=H.out.tform (by omega);obtain ⟨A0,c0,rfl⟩:=H.out.cslice;obtain ⟨Al,cl,rfl⟩:=H.out.lslice;obtain ⟨v3,v8,v9,v10,hcc,-,h3,-,-,-⟩:=H.out.task hi;obtain ⟨gr,c3,rfl,-,-⟩:=R_form h3 (by rw [HRG.out.len];decide);have R3:=am h3;have C4:=am (hcc 4 _ rfl);have C3:=am (hcc 3 _ rfl);have C1:=am (hcc 1 _ rfl);have BKc:=zc8 H.out.blk;have q0:(0:Int)<=(i:Int):=by omega
 have q1:(i:Int) < (s.tasks.length:Int):=by omega
 clear hcc h3;obtain ⟨bv,hbv⟩:∃ x:Bool,x=decide ((taskAt s.tasks i).pc < ((actsAt p.bodies (taskAt s.tasks i).body.toNat).length:Int)):=⟨_,rfl⟩;obtain ⟨a,hav⟩:∃ x:Act,x=if (taskAt s.tasks i).pc < ((actsAt p.bodies (taskAt s.tasks i).body.toNat).length:Int) then actAt (actsAt p.bodies (taskAt s.tasks i).body.toNat) (taskAt s.tasks i).pc.toNat else zAct:=⟨_,rfl⟩
 have BV:=am hbv.symm;have AV:=am hav.symm;clear hbv hav;go_enter Try.func122,Try.ntmps122;by_cases hw1:(tk s i).way=1
 ·have y0:((tk s i).way == 1)=true:=by simp [hw1]
  have HE:Aside0 (step p s i=awaits s i):=⟨by unfold step;simp only [];rw [if_pos hw1]⟩;clear hw1
  go_wp2_with (first
  |(go_at_call 136;refine (act_calls i w0 _ H.out.prog H.out.below H.out.ro hi hn hb0 hb1 hpc0 hbn han).mono ?_;rw [AV.out,BV.out];rintro e w1 ⟨acs,rfl,hK,hb⟩;obtain ⟨Ad,cd,Ak,ck,rfl,-,gd,-,gk⟩:=kAct_open hK;have GDS:=am gd;have GKS:=am gk;have HB:=am hb;clear hK gd gk hb BKc;have BKc:=zc8 (H.out.grow HB.out).blk)
  |((with_reducible refine gate_dst (N:=4) rfl ?_);refine box_event rfl (N:=4) rfl (t:=108) (by go_simp<;>rfl) ?_;intro ga hga w2 hbox hb;have BKa0:=am hbox;have GA:=am hga;have HBA:=am hb;clear hbox hga hb)|((with_reducible refine gate_store (t:=108) (p:=4) rfl ?_);refine store_block rfl rfl 108 (.tmp 4) (.tmp 10) rfl rfl rfl BKa0.out rfl (by kernel_rfl) (aB rfl) ?_;intro w3 hbox hg;have BKa:=am hbox;replace HB:=am (below_step HB.out (pw_below_grown HBA.out _ HBA.out.size hg (fun z hz=>by cases hz;exact Nat.le_of_eq GA.out.symm)));clear hbox hg BKa0 HBA BKc;have BKc:=zc8 (H.out.grow HB.out).blk;have BKac:=zc8 BKa.out;have c_way:=cellB HB.out C4.out)
  |(go_at_call 137;refine (awaits_calls i _ (H.out.grow HB.out) hinv hN hi).mono ?_;rintro e w9 ⟨rfl,ownc,vlc,h1,f1⟩;have H2:=am h1;have F2:=am ((Fr.below (own:=own) HB.out).trans (Fr.less f1 HB.out.size));clear H HB BKc BKac c_way h1 f1))
  refine bodyPost_end (results_none rfl _ _ _) rfl ?_;first | exact ⟨rfl,ownc,(.slice (some ⟨b,0,none⟩) s.tasks.length cap),vlc,(by rw [HE.out];exact H2.out),F2.out⟩ | exact ⟨rfl,ownc,(.slice (some ⟨b,0,none⟩) s.tasks.length cap),⟨vlc,(by rw [HE.out];exact H2.out)⟩,F2.out⟩ | exact ⟨rfl,ownc,⟨(.slice (some ⟨b,0,none⟩) s.tasks.length cap),vlc,(by rw [HE.out];exact H2.out)⟩,F2.out⟩ | exact ⟨rfl,ownc,⟨(.slice (some ⟨b,0,none⟩) s.tasks.length cap),(by rw [HE.out];exact H2.out)⟩,F2.out⟩ | exact ⟨rfl,ownc,(.slice (some ⟨b,0,none⟩) s.tasks.length cap),(by rw [HE.out];exact H2.out),F2.out⟩ | exact ⟨rfl,⟨ownc,(by rw [HE.out];exact H2.out),F2.out⟩⟩
 ·have y0:((tk s i).way == 1)=false:=by simp [hw1]
  by_cases hlt:(tk s i).pc < ((actsAt p.bodies (tk s i).body.toNat).length:Int)
  ·have e1:bv=true:=BV.out.symm.trans (decide_eq_true hlt)
   have e2:actAt (actsAt p.bodies (tk s i).body.toNat) (tk s i).pc.toNat=a:=AV.out.symm.trans (if_pos hlt) |>.symm
   have hok:=HACT.out hlt;rw [e2] at hok;have HOK:=am hok
   have HST:Aside0 (step p s i=if a.kind=1 then try_ s i a.deeds else if a.kind=2 then fork s i a.kids else if a.kind=3\/numAt (tk s i).regs a.reg.toNat ≠ 0 then setWay s i 3 else setTask s i {tk s i with pc:=(tk s i).pc+1}):=⟨by
    unfold step;simp only [];rw [if_neg hw1,if_neg (by omega),e2]⟩
   subst e1;clear hw1 hlt e2 hok;by_cases k1:a.kind=1
   ·have y1:(a.kind == 1)=true:=by simp [k1]
    have HE:Aside0 (step p s i=try_ s i a.deeds):=⟨by rw [HST.out,if_pos k1]⟩;have HD:=am (act_deed HOK.out k1);clear k1
    go_wp2_with (first
    |(go_at_call 136;refine (act_calls i w0 _ H.out.prog H.out.below H.out.ro hi hn hb0 hb1 hpc0 hbn han).mono ?_;rw [AV.out,BV.out];rintro e w1 ⟨acs,rfl,hK,hb⟩;obtain ⟨Ad,cd,Ak,ck,rfl,-,gd,-,gk⟩:=kAct_open hK;have GDS:=am gd;have GKS:=am gk;have HB:=am hb;clear hK gd gk hb BKc;have BKc:=zc8 (H.out.grow HB.out).blk)
    |((with_reducible refine gate_dst (N:=4) rfl ?_);refine box_event rfl (N:=4) rfl (t:=108) (by go_simp<;>rfl) ?_;intro ga hga w2 hbox hb;have BKa0:=am hbox;have GA:=am hga;have HBA:=am hb;clear hbox hga hb)|((with_reducible refine gate_store (t:=108) (p:=4) rfl ?_);refine store_block rfl rfl 108 (.tmp 4) (.tmp 10) rfl rfl rfl BKa0.out rfl (by kernel_rfl) (aB rfl) ?_;intro w3 hbox hg;have BKa:=am hbox;replace HB:=am (below_step HB.out (pw_below_grown HBA.out _ HBA.out.size hg (fun z hz=>by cases hz;exact Nat.le_of_eq GA.out.symm)));clear hbox hg BKa0 HBA BKc;have BKc:=zc8 (H.out.grow HB.out).blk;have BKac:=zc8 BKa.out;have c_way:=cellB HB.out C4.out)
    |(go_at_call 138;refine (try_calls i Ad cd a.deeds _ (H.out.grow HB.out) hinv hN hi (Kd.C_below GDS.out (H.out.grow HB.out).below) (Nat.le_trans HD.out.1 (by decide)) (fun k hk=>by rw [QC.out];exact HD.out.2 k hk)).mono ?_;rintro e w9 ⟨rfl,ownc,vlc,h1,f1⟩;have H2:=am h1;have F2:=am ((Fr.below (own:=own) HB.out).trans (Fr.less f1 HB.out.size));clear H HB BKc BKac c_way h1 f1))
    refine bodyPost_end (results_none rfl _ _ _) rfl ?_;first | exact ⟨rfl,ownc,(.slice (some ⟨b,0,none⟩) s.tasks.length cap),vlc,(by rw [HE.out];exact H2.out),F2.out⟩ | exact ⟨rfl,ownc,(.slice (some ⟨b,0,none⟩) s.tasks.length cap),⟨vlc,(by rw [HE.out];exact H2.out)⟩,F2.out⟩ | exact ⟨rfl,ownc,⟨(.slice (some ⟨b,0,none⟩) s.tasks.length cap),vlc,(by rw [HE.out];exact H2.out)⟩,F2.out⟩ | exact ⟨rfl,ownc,⟨(.slice (some ⟨b,0,none⟩) s.tasks.length cap),(by rw [HE.out];exact H2.out)⟩,F2.out⟩ | exact ⟨rfl,ownc,(.slice (some ⟨b,0,none⟩) s.tasks.length cap),(by rw [HE.out];exact H2.out),F2.out⟩ | exact ⟨rfl,⟨ownc,(by rw [HE.out];exact H2.out),F2.out⟩⟩
   ·have y1:(a.kind == 1)=false:=by simp [k1]
    by_cases k2:a.kind=2
    ·have y2:(a.kind == 2)=true:=by simp [k2]
     have HE:Aside0 (step p s i=fork s i a.kids):=⟨by rw [HST.out,if_neg k1,if_pos k2]⟩;have HD:=am (act_kids HOK.out k2);clear k1 k2
     go_wp2_with (first
     |(go_at_call 136;refine (act_calls i w0 _ H.out.prog H.out.below H.out.ro hi hn hb0 hb1 hpc0 hbn han).mono ?_;rw [AV.out,BV.out];rintro e w1 ⟨acs,rfl,hK,hb⟩;obtain ⟨Ad,cd,Ak,ck,rfl,-,gd,-,gk⟩:=kAct_open hK;have GDS:=am gd;have GKS:=am gk;have HB:=am hb;clear hK gd gk hb BKc;have BKc:=zc8 (H.out.grow HB.out).blk)
     |((with_reducible refine gate_dst (N:=4) rfl ?_);refine box_event rfl (N:=4) rfl (t:=108) (by go_simp<;>rfl) ?_;intro ga hga w2 hbox hb;have BKa0:=am hbox;have GA:=am hga;have HBA:=am hb;clear hbox hga hb)|((with_reducible refine gate_store (t:=108) (p:=4) rfl ?_);refine store_block rfl rfl 108 (.tmp 4) (.tmp 10) rfl rfl rfl BKa0.out rfl (by kernel_rfl) (aB rfl) ?_;intro w3 hbox hg;have BKa:=am hbox;replace HB:=am (below_step HB.out (pw_below_grown HBA.out _ HBA.out.size hg (fun z hz=>by cases hz;exact Nat.le_of_eq GA.out.symm)));clear hbox hg BKa0 HBA BKc;have BKc:=zc8 (H.out.grow HB.out).blk;have BKac:=zc8 BKa.out;have c_way:=cellB HB.out C4.out)
     |(go_at_call 139;refine (fork_calls i Ak ck a.kids _ (H.out.grow HB.out) hi hn GKS.out (Nat.le_trans HD.out.1 (by decide))).mono ?_;rintro e w9 ⟨rfl,ownc,vtc,h1,f1⟩;have H2:=am h1;have F2:=am ((Fr.below (own:=own) HB.out).trans (Fr.less f1 HB.out.size));clear H HB BKc BKac c_way h1 f1))
     refine bodyPost_end (results_none rfl _ _ _) rfl ?_;first | exact ⟨rfl,ownc,vtc,(.slice Al s.log.length cl),(by rw [HE.out];exact H2.out),F2.out⟩ | exact ⟨rfl,ownc,vtc,⟨(.slice Al s.log.length cl),(by rw [HE.out];exact H2.out)⟩,F2.out⟩ | exact ⟨rfl,ownc,⟨vtc,(.slice Al s.log.length cl),(by rw [HE.out];exact H2.out)⟩,F2.out⟩ | exact ⟨rfl,ownc,⟨vtc,(by rw [HE.out];exact H2.out)⟩,F2.out⟩ | exact ⟨rfl,ownc,vtc,(by rw [HE.out];exact H2.out),F2.out⟩ | exact ⟨rfl,⟨ownc,(by rw [HE.out];exact H2.out),F2.out⟩⟩
    ·have y2:(a.kind == 2)=false:=by simp [k2]
     by_cases k3:a.kind=3
     ·have y3:(a.kind == 3)=true:=by simp [k3]
      have HE:Aside0 (step p s i=setWay s i 3):=⟨by rw [HST.out,if_neg k1,if_neg k2,if_pos (.inl k3)]⟩;clear k1 k2 k3
      go_wp2_with (first
      |(go_at_call 136;refine (act_calls i w0 _ H.out.prog H.out.below H.out.ro hi hn hb0 hb1 hpc0 hbn han).mono ?_;rw [AV.out,BV.out];rintro e w1 ⟨acs,rfl,hK,hb⟩;obtain ⟨Ad,cd,Ak,ck,rfl,-,gd,-,gk⟩:=kAct_open hK;have GDS:=am gd;have GKS:=am gk;have HB:=am hb;clear hK gd gk hb BKc;have BKc:=zc8 (H.out.grow HB.out).blk)
      |((with_reducible refine gate_dst (N:=4) rfl ?_);refine box_event rfl (N:=4) rfl (t:=108) (by go_simp<;>rfl) ?_;intro ga hga w2 hbox hb;have BKa0:=am hbox;have GA:=am hga;have HBA:=am hb;clear hbox hga hb)|((with_reducible refine gate_store (t:=108) (p:=4) rfl ?_);refine store_block rfl rfl 108 (.tmp 4) (.tmp 10) rfl rfl rfl BKa0.out rfl (by kernel_rfl) (aB rfl) ?_;intro w3 hbox hg;have BKa:=am hbox;replace HB:=am (below_step HB.out (pw_below_grown HBA.out _ HBA.out.size hg (fun z hz=>by cases hz;exact Nat.le_of_eq GA.out.symm)));clear hbox hg BKa0 HBA BKc;have BKc:=zc8 (H.out.grow HB.out).blk;have BKac:=zc8 BKa.out;have c_way:=cellB HB.out C4.out))
      go_quiet (fail)
      go_wp2_with (first
      |(go_at_call 140;refine (fails_calls i _ (H.out.grow (pw_below_drewN HB.out _)) hi hn).mono ?_;rintro e w9 ⟨rfl,h1,f1⟩;have H2:=am h1;have F2:=am ((Fr.below (own:=own) (pw_below_drewN HB.out _)).trans (Fr.less f1 ((pw_below_drewN HB.out _)).size));clear H HB BKc BKac c_way h1 f1))
      refine bodyPost_end (results_none rfl _ _ _) rfl ?_;first | exact ⟨rfl,own,(.slice (some ⟨b,0,none⟩) s.tasks.length cap),(.slice Al s.log.length cl),(by rw [HE.out];exact H2.out),F2.out⟩ | exact ⟨rfl,own,(.slice (some ⟨b,0,none⟩) s.tasks.length cap),⟨(.slice Al s.log.length cl),(by rw [HE.out];exact H2.out)⟩,F2.out⟩ | exact ⟨rfl,own,⟨(.slice (some ⟨b,0,none⟩) s.tasks.length cap),(.slice Al s.log.length cl),(by rw [HE.out];exact H2.out)⟩,F2.out⟩ | exact ⟨rfl,own,⟨(.slice (some ⟨b,0,none⟩) s.tasks.length cap),(by rw [HE.out];exact H2.out)⟩,F2.out⟩ | exact ⟨rfl,own,(.slice (some ⟨b,0,none⟩) s.tasks.length cap),(by rw [HE.out];exact H2.out),F2.out⟩ | exact ⟨rfl,⟨own,(by rw [HE.out];exact H2.out),F2.out⟩⟩
     ·have y3:(a.kind == 3)=false:=by simp [k3]
      obtain ⟨k4,ha0,ha1⟩:=act_reg HOK.out k1 k2 k3;obtain ⟨kr,hkr⟩:=Int.eq_ofNat_of_zero_le ha0;have qr0:(0:Int)<=a.reg:=ha0;have qr1:a.reg < ((tk s i).regs.length:Int):=by rw [HRG.out.len];omega
      have qr4:a.reg.toNat=kr:=by omega
      obtain ⟨rc,-⟩:=Kd.R_celln 0 R3.out a.reg qr0 qr1;obtain ⟨num,hnum⟩:∃ x,x=numAt (tk s i).regs kr:=⟨_,rfl⟩;rw [show rdOf 0 (tk s i).regs a.reg=num from by rw [hnum,<-qr4];rfl,qr4] at rc;have RC:=am rc;have HNUM:=am hnum;have K1:=am k1;have K2:=am k2;have K3:=am k3;clear rc hnum hkr k1 k2 k3 k4 ha0 ha1;by_cases hz:num=0
      ·have y4:(num != 0)=false:=by simp [hz]
       have HE:Aside0 (step p s i=setTask s i {tk s i with pc:=(tk s i).pc+1}):=⟨by rw [HST.out,if_neg K1.out,if_neg K2.out,if_neg (fun hh=>by rcases hh with hh | hh;exact K3.out hh;exact hh (by rw [qr4,<-HNUM.out];exact hz))]⟩;clear hz
       go_wp2_with (first
       |(go_at_call 136;refine (act_calls i w0 _ H.out.prog H.out.below H.out.ro hi hn hb0 hb1 hpc0 hbn han).mono ?_;rw [AV.out,BV.out];rintro e w1 ⟨acs,rfl,hK,hb⟩;obtain ⟨Ad,cd,Ak,ck,rfl,-,gd,-,gk⟩:=kAct_open hK;have GDS:=am gd;have GKS:=am gk;have HB:=am hb;clear hK gd gk hb BKc;have BKc:=zc8 (H.out.grow HB.out).blk)
       |((with_reducible refine gate_dst (N:=4) rfl ?_);refine box_event rfl (N:=4) rfl (t:=108) (by go_simp<;>rfl) ?_;intro ga hga w2 hbox hb;have BKa0:=am hbox;have GA:=am hga;have HBA:=am hb;clear hbox hga hb)|((with_reducible refine gate_store (t:=108) (p:=4) rfl ?_);refine store_block rfl rfl 108 (.tmp 4) (.tmp 10) rfl rfl rfl BKa0.out rfl (by kernel_rfl) (aB rfl) ?_;intro w3 hbox hg;have BKa:=am hbox;replace HB:=am (below_step HB.out (pw_below_grown HBA.out _ HBA.out.size hg (fun z hz=>by cases hz;exact Nat.le_of_eq GA.out.symm)));clear hbox hg BKa0 HBA BKc;have BKc:=zc8 (H.out.grow HB.out).blk;have BKac:=zc8 BKa.out;have c_way:=cellB HB.out C4.out;have c_regs:=cellB HB.out C3.out;have rc:=cellB HB.out RC.out;have c_pc:=cellB HB.out C1.out))
       go_quiet (fail);go_wp2;refine wp_named (fun w4 hw4=> ?_);have HB4:=am (show Below w.heap.size w w4 by rw [hw4];exact pw_below_drewN HB.out _);clear hw4 HB BKc BKac c_way c_regs rc c_pc;have H4:=am (H.out.grow HB4.out);have F4:=am (Fr.below (own:=own) HB4.out);have c_pc:=cellB HB4.out C1.out;have BKc:=zc8 H4.out.blk;refine wp_region_still_tail 18 (by kernel_rfl) (by kernel_rfl) ?_;simp only [List.take_succ_cons,List.take_zero,List.drop_succ_cons,List.drop_zero];iterate 18 still_step
       refine wpStill_nil ?_;rw [show IntKind.i64.wrap ((tk s i).pc+1)=(tk s i).pc+1 from by rw [i64_w];unfold wrap64;omega];clear c_pc;have hb:=below_drew (Below.refl w4.heap.size w4);show wpList _ _ _ _ _ w4.drew;generalize w4.drew=w5 at hb ⊢;have H9:=am (H4.out.grow hb);have F9:=am (F4.out.trans (Fr.less (Fr.below hb) F4.out.size));clear H4 F4 BKc hb H;have BKc:=zc8 H9.out.blk
       go_wp2_with (first
       |((with_reducible refine gate_store (t:=3) (p:=29) rfl ?_);refine set_ev (u:=.int .i64 ((tk s i).pc+1)) rfl rfl _ _ rfl rfl rfl rfl rfl (by kernel_rfl) (H9.out.ready (i:=i) hi 1 (by decide)) ?_;intro wz hwn;obtain ⟨k1,k2⟩:=H9.out.setInt (B:=w.heap.size) (i:=i) hi 1 (by decide) ((tk s i).pc+1) {tk s i with pc:=(tk s i).pc+1} (fun _ _ _ _=>rfl) ⟨rfl,rfl,rfl,rfl⟩;rw [<-hwn] at k1 k2;have H2:=am k1;have F2:=am (F9.out.trans k2);clear H9 F9 BKc k1 k2 hwn))
       refine bodyPost_end (results_none rfl _ _ _) rfl ?_;first | exact ⟨rfl,own,(.slice (some ⟨b,0,none⟩) s.tasks.length cap),(.slice Al s.log.length cl),(by rw [HE.out];exact H2.out),F2.out⟩ | exact ⟨rfl,own,(.slice (some ⟨b,0,none⟩) s.tasks.length cap),⟨(.slice Al s.log.length cl),(by rw [HE.out];exact H2.out)⟩,F2.out⟩ | exact ⟨rfl,own,⟨(.slice (some ⟨b,0,none⟩) s.tasks.length cap),(.slice Al s.log.length cl),(by rw [HE.out];exact H2.out)⟩,F2.out⟩ | exact ⟨rfl,own,⟨(.slice (some ⟨b,0,none⟩) s.tasks.length cap),(by rw [HE.out];exact H2.out)⟩,F2.out⟩ | exact ⟨rfl,own,(.slice (some ⟨b,0,none⟩) s.tasks.length cap),(by rw [HE.out];exact H2.out),F2.out⟩ | exact ⟨rfl,⟨own,(by rw [HE.out];exact H2.out),F2.out⟩⟩
      ·have y4:(num != 0)=true:=by simp [hz]
       have HE:Aside0 (step p s i=setWay s i 3):=⟨by rw [HST.out,if_neg K1.out,if_neg K2.out,if_pos (.inr (by rw [qr4,<-HNUM.out];exact hz))]⟩;clear hz
       go_wp2_with (first
       |(go_at_call 136;refine (act_calls i w0 _ H.out.prog H.out.below H.out.ro hi hn hb0 hb1 hpc0 hbn han).mono ?_;rw [AV.out,BV.out];rintro e w1 ⟨acs,rfl,hK,hb⟩;obtain ⟨Ad,cd,Ak,ck,rfl,-,gd,-,gk⟩:=kAct_open hK;have GDS:=am gd;have GKS:=am gk;have HB:=am hb;clear hK gd gk hb BKc;have BKc:=zc8 (H.out.grow HB.out).blk)
       |((with_reducible refine gate_dst (N:=4) rfl ?_);refine box_event rfl (N:=4) rfl (t:=108) (by go_simp<;>rfl) ?_;intro ga hga w2 hbox hb;have BKa0:=am hbox;have GA:=am hga;have HBA:=am hb;clear hbox hga hb)|((with_reducible refine gate_store (t:=108) (p:=4) rfl ?_);refine store_block rfl rfl 108 (.tmp 4) (.tmp 10) rfl rfl rfl BKa0.out rfl (by kernel_rfl) (aB rfl) ?_;intro w3 hbox hg;have BKa:=am hbox;replace HB:=am (below_step HB.out (pw_below_grown HBA.out _ HBA.out.size hg (fun z hz=>by cases hz;exact Nat.le_of_eq GA.out.symm)));clear hbox hg BKa0 HBA BKc;have BKc:=zc8 (H.out.grow HB.out).blk;have BKac:=zc8 BKa.out;have c_way:=cellB HB.out C4.out;have c_regs:=cellB HB.out C3.out;have rc:=cellB HB.out RC.out))
       go_quiet (fail)
       go_wp2_with (first
       |(go_at_call 140;refine (fails_calls i _ (H.out.grow (pw_below_drewN HB.out _)) hi hn).mono ?_;rintro e w9 ⟨rfl,h1,f1⟩;have H2:=am h1;have F2:=am ((Fr.below (own:=own) (pw_below_drewN HB.out _)).trans (Fr.less f1 ((pw_below_drewN HB.out _)).size));clear c_regs rc H HB BKc BKac c_way h1 f1))
       refine bodyPost_end (results_none rfl _ _ _) rfl ?_;first | exact ⟨rfl,own,(.slice (some ⟨b,0,none⟩) s.tasks.length cap),(.slice Al s.log.length cl),(by rw [HE.out];exact H2.out),F2.out⟩ | exact ⟨rfl,own,(.slice (some ⟨b,0,none⟩) s.tasks.length cap),⟨(.slice Al s.log.length cl),(by rw [HE.out];exact H2.out)⟩,F2.out⟩ | exact ⟨rfl,own,⟨(.slice (some ⟨b,0,none⟩) s.tasks.length cap),(.slice Al s.log.length cl),(by rw [HE.out];exact H2.out)⟩,F2.out⟩ | exact ⟨rfl,own,⟨(.slice (some ⟨b,0,none⟩) s.tasks.length cap),(by rw [HE.out];exact H2.out)⟩,F2.out⟩ | exact ⟨rfl,own,(.slice (some ⟨b,0,none⟩) s.tasks.length cap),(by rw [HE.out];exact H2.out),F2.out⟩ | exact ⟨rfl,⟨own,(by rw [HE.out];exact H2.out),F2.out⟩⟩
  ·have e1:bv=false:=BV.out.symm.trans (decide_eq_false hlt)
   have HE:Aside0 (step p s i=setWay s i 2):=⟨by
    unfold step;simp only [];rw [if_neg hw1,if_pos (by omega)]⟩
   subst e1;clear hw1 hlt
   go_wp2_with (first
   |(go_at_call 136;refine (act_calls i w0 _ H.out.prog H.out.below H.out.ro hi hn hb0 hb1 hpc0 hbn han).mono ?_;rw [AV.out,BV.out];rintro e w1 ⟨acs,rfl,hK,hb⟩;obtain ⟨Ad,cd,Ak,ck,rfl,-,gd,-,gk⟩:=kAct_open hK;have GDS:=am gd;have GKS:=am gk;have HB:=am hb;clear hK gd gk hb BKc;have BKc:=zc8 (H.out.grow HB.out).blk)
   |((with_reducible refine gate_dst (N:=4) rfl ?_);refine box_event rfl (N:=4) rfl (t:=108) (by go_simp<;>rfl) ?_;intro ga hga w2 hbox hb;have BKa0:=am hbox;have GA:=am hga;have HBA:=am hb;clear hbox hga hb)|((with_reducible refine gate_store (t:=108) (p:=4) rfl ?_);refine store_block rfl rfl 108 (.tmp 4) (.tmp 10) rfl rfl rfl BKa0.out rfl (by kernel_rfl) (aB rfl) ?_;intro w3 hbox hg;have BKa:=am hbox;replace HB:=am (below_step HB.out (pw_below_grown HBA.out _ HBA.out.size hg (fun z hz=>by cases hz;exact Nat.le_of_eq GA.out.symm)));clear hbox hg BKa0 HBA BKc;have BKc:=zc8 (H.out.grow HB.out).blk;have BKac:=zc8 BKa.out;have c_way:=cellB HB.out C4.out;have H9:=am (H.out.grow HB.out);have F9:=am (Fr.below (own:=own) HB.out))
   |((with_reducible refine gate_store (t:=3) (p:=54) rfl ?_);refine set_ev (u:=.int .i64 2) rfl rfl _ _ rfl rfl rfl rfl rfl (by kernel_rfl) (H9.out.ready (i:=i) hi 4 (by decide)) ?_;intro wz hwn;obtain ⟨k1,k2⟩:=H9.out.setInt (B:=w.heap.size) (i:=i) hi 4 (by decide) 2 {tk s i with way:=2} (fun _ _ _ _=>rfl) ⟨rfl,rfl,rfl,rfl⟩;rw [<-hwn] at k1 k2;have H2:=am k1;have F2:=am (F9.out.trans k2);clear H9 F9 BKc k1 k2 hwn))
   refine bodyPost_end (results_none rfl _ _ _) rfl ?_;first | exact ⟨rfl,own,(.slice (some ⟨b,0,none⟩) s.tasks.length cap),(.slice Al s.log.length cl),(by rw [HE.out];exact H2.out),F2.out⟩ | exact ⟨rfl,own,(.slice (some ⟨b,0,none⟩) s.tasks.length cap),⟨(.slice Al s.log.length cl),(by rw [HE.out];exact H2.out)⟩,F2.out⟩ | exact ⟨rfl,own,⟨(.slice (some ⟨b,0,none⟩) s.tasks.length cap),(.slice Al s.log.length cl),(by rw [HE.out];exact H2.out)⟩,F2.out⟩ | exact ⟨rfl,own,⟨(.slice (some ⟨b,0,none⟩) s.tasks.length cap),(by rw [HE.out];exact H2.out)⟩,F2.out⟩ | exact ⟨rfl,own,(.slice (some ⟨b,0,none⟩) s.tasks.length cap),(by rw [HE.out];exact H2.out),F2.out⟩ | exact ⟨rfl,⟨own,(by rw [HE.out];exact H2.out),F2.out⟩⟩
end
structure Sy (B:Nat) (own:Nat->Nat) (s:Sys) (vc vt vl:Value) (W:World):Prop where
 low:∀ k,k < B->own k=0
 new0:∀ k,W.heap.size<=k->own k=0
 cells:kCell.R 53 W B (fun k=>own k=2) vc s.cells
 tasks:(kTaskO own).R 38 W B (fun k=>own k=3\/8<=own k) vt s.tasks.zipIdx
 town:∀ k,vt.ownBlock=some k->own k=3
 log:kEntry.R 119 W B (fun k=>own k=4) vl s.log
theorem St.sy {w0:World} {g:Nat} {own:Nat->Nat} {vp vb:Value} {p:Prog} {s:Sys} {vc vt vl:Value} {W:World} (h:St 152 w0 g own vp vb p s vc vt vl W):Sy w0.heap.size own s vc vt vl W:=
 ⟨h.old0,h.new0,h.cells,h.tasks,h.town,h.log⟩
section
variable {B B1:Nat} {own:Nat->Nat} {s:Sys} {vc vt vl:Value} {W W1:World}
theorem Sy.read (h:Sy B own s vc vt vl W):kSys.K W s [vc,vt,.int .i64 s.clock,vl]:=by
 obtain ⟨A0,c0,rfl,l0,g0⟩:=Kd.R_reads h.cells;obtain ⟨A1,c1,rfl,l1,g1⟩:=Kd.R_reads h.tasks;obtain ⟨A3,c3,rfl,l3,g3⟩:=Kd.R_reads h.log;rw [zip_len] at l1 g1 ⊢;exact kSys_mk s l0 g0 l1 (taskO_C g1) l3 g3
theorem Sy.move (h:Sy B own s vc vt vl W) (hs:W.heap.size<=W1.heap.size) (hm:∀ k,own k ≠ 0->k < W.heap.size->W1.heap[k]? = W.heap[k]?):Sy B own s vc vt vl W1:=
 ⟨h.low,fun k hk=>h.new0 k (Nat.le_trans hs hk),Kd.R_step h.cells (fun k hk hl=>hm k (by omega) hl),Kd.R_step h.tasks (fun k hk hl=>hm k (by omega) hl),h.town,Kd.R_step h.log (fun k hk hl=>hm k (by omega) hl)⟩
theorem Sy.grow (h:Sy B own s vc vt vl W) (hb:Below W.heap.size W W1):Sy B own s vc vt vl W1:=h.move hb.size (fun k _ hk=>hb.block k hk)
theorem Sy.far (h:Sy B own s vc vt vl W) {b:Nat} (ho:own b=0) (o:Nat) (u:Value):Sy B own s vc vt vl (W.setCell ⟨b,o,none⟩ u):=
 h.move (by simp [World.setCell]) (fun k hk _=>Below.heap_setCell W ⟨b,o,none⟩ u k (fun he=>hk (by rw [show k=b from he];exact ho)))
theorem Sy.lower (h:Sy B own s vc vt vl W) (hb:B1<=B):Sy B1 own s vc vt vl W:=
 ⟨fun k hk=>h.low k (by omega),h.new0,Kd.R_lower h.cells hb,Kd.R_lower h.tasks hb,h.town,Kd.R_lower h.log hb⟩
structure Own4 (t:Task) (base:Nat) (W:World) (v3 v8 v9 v10:Value):Prop where
 regs:(Kd.int .i64).R 3 W base (fun _=>True) v3 t.regs
 old:(Kd.int .i64).R 3 W base (fun _=>True) v8 t.old
 reads:kPut.R 103 W base (fun _=>True) v9 t.reads
 puts:kPut.R 103 W base (fun _=>True) v10 t.puts
 ne38:∀ k,v3.ownBlock=some k->v8.ownBlock ≠ some k
 ne39:∀ k,v3.ownBlock=some k->v9.ownBlock ≠ some k
 ne310:∀ k,v3.ownBlock=some k->v10.ownBlock ≠ some k
 ne89:∀ k,v8.ownBlock=some k->v9.ownBlock ≠ some k
 ne810:∀ k,v8.ownBlock=some k->v10.ownBlock ≠ some k
 ne910:∀ k,v9.ownBlock=some k->v10.ownBlock ≠ some k
theorem own4_is {t:Task} {v3 v8 v9 v10:Value} {L:Nat} (hN:Own4 t B1 W v3 v8 v9 v10):
  (∀ k,v3.ownBlock=some k->tag4 own v3 v8 v9 v10 L k=8+8*L)/\(∀ k,v8.ownBlock=some k->tag4 own v3 v8 v9 v10 L k=9+8*L)/\(∀ k,v9.ownBlock=some k->tag4 own v3 v8 v9 v10 L k=10+8*L)/\(∀ k,v10.ownBlock=some k->tag4 own v3 v8 v9 v10 L k=11+8*L)/\
  ∀ k,(v3.ownBlock ≠ some k/\v8.ownBlock ≠ some k/\v9.ownBlock ≠ some k/\v10.ownBlock ≠ some k)->tag4 own v3 v8 v9 v10 L k=own k:=by
 unfold tag4;refine ⟨fun k hk=> ?_,fun k hk=> ?_,fun k hk=> ?_,fun k hk=> ?_,fun k hk=> ?_⟩
 ·rw [tagB_off (hN.ne310 k hk),tagB_off (hN.ne39 k hk),tagB_off (hN.ne38 k hk),tagB_at hk]
 ·rw [tagB_off (hN.ne810 k hk),tagB_off (hN.ne89 k hk),tagB_at hk]
 ·rw [tagB_off (hN.ne910 k hk),tagB_at hk]
 ·rw [tagB_at hk]
 ·rw [tagB_off hk.2.2.2,tagB_off hk.2.2.1,tagB_off hk.2.1,tagB_off hk.1]
theorem Own4.range {t:Task} {v3 v8 v9 v10:Value} (h:Own4 t B1 W v3 v8 v9 v10) {k:Nat} (hk:¬ (v3.ownBlock ≠ some k/\v8.ownBlock ≠ some k/\v9.ownBlock ≠ some k/\v10.ownBlock ≠ some k)):B1<=k/\k < W.heap.size:=by
 refine Classical.byContradiction fun hne=>hk ⟨fun he=>hne (R_in h.regs k he).2,fun he=>hne (R_in h.old k he).2,fun he=>hne (R_in h.reads k he).2,fun he=>hne (R_in h.puts k he).2⟩
theorem Own4.row {t:Task} {L:Nat} {v3 v8 v9 v10:Value} (hN:Own4 t B1 W v3 v8 v9 v10) (hB:B<=B1):(kTaskO (tag4 own v3 v8 v9 v10 L)).M W B (fun k=>8<=tag4 own v3 v8 v9 v10 L k) (t,L) (cellsT t v3 v8 v9 v10):=by
 obtain ⟨t3,t8,t9,t10,-⟩:=own4_is (own:=own) (L:=L) hN;exact kTaskO_mk t L (Kd.R_lower (R_flat flat_int hN.regs (fun k hk=>⟨by rw [t3 k hk];omega,t3 k hk⟩)) hB) (Kd.R_lower (R_flat flat_int hN.old (fun k hk=>⟨by rw [t8 k hk];omega,t8 k hk⟩)) hB) (Kd.R_lower (R_flat flat_put hN.reads (fun k hk=>⟨by rw [t9 k hk];omega,t9 k hk⟩)) hB) (Kd.R_lower (R_flat flat_put hN.puts (fun k hk=>⟨by rw [t10 k hk];omega,t10 k hk⟩)) hB)
theorem Sy.retag {own':Nat->Nat} (h:Sy B own s vc vt vl W) (hl:∀ k,k < B->own' k=0) (hn:∀ k,W.heap.size<=k->own' k=0) (hs:∀ k,own k ≠ 0->own' k=own k):Sy B own' s vc vt vl W:=
 ⟨hl,hn,Kd.R_mono h.cells (fun k hk=>by rw [hs k (by omega)];exact hk),
  Kd.R_mono (d:=kTaskO own') ⟨h.tasks.1,h.tasks.2.imp_ (fun _ _ hp=>kTaskO_own (fun k _ hk=>hs k (by have:=hk.1;omega)) hp)⟩ (fun k hk=>by rw [hs k (by omega)];exact hk),
  fun k hk=>by rw [hs k (by rw [h.town k hk];decide)];exact h.town k hk,Kd.R_mono h.log (fun k hk=>by rw [hs k (by omega)];exact hk)⟩
theorem Sy.newTags {t:Task} {L:Nat} {v3 v8 v9 v10:Value} (h:Sy B own s vc vt vl W) (hN:Own4 t B1 W v3 v8 v9 v10) (h0:∀ k,B1<=k->own k=0) (hB:B<=B1):
  Sy B (tag4 own v3 v8 v9 v10 L) s vc vt vl W/\∀ k,k < B1->tag4 own v3 v8 v9 v10 L k=own k:=by
 have hoff:=(own4_is (own:=own) (L:=L) hN).2.2.2.2;have hlow:∀ k,k < B1->tag4 own v3 v8 v9 v10 L k=own k:=fun k hk=>hoff k (Classical.byContradiction fun hne=>by have:=(hN.range hne).1;omega)
 exact ⟨h.retag (fun k hk=>(hlow k (by omega)).trans (h.low k hk)) (fun k hk=>(hoff k (Classical.byContradiction fun hne=>by have:=(hN.range hne).2;omega)).trans (h.new0 k hk))
  (fun k hk=>hoff k (Classical.byContradiction fun hne=>hk (h0 k (hN.range hne).1))),hlow⟩
theorem Sy.tasksGrow (h:Sy B own s vc vt vl W) (hg:W.grownBy W1 vt.ownBlock) {v1:Value} {ts':List Task}
  (hr:(kTaskO own).R 38 W1 B (fun k=>(own k=3\/8<=own k)\/own k=0) v1 ts'.zipIdx) (hv:v1.ownBlock=vt.ownBlock\/∃ b,v1.ownBlock=some b/\W.heap.size<=b) (hBW:B<=W.heap.size):
  ∃ own',Sy B own' {s with tasks:=ts'} vc v1 vl W1/\∀ k,k < W.heap.size->own' k=own k:=by
 have hvt:∀ k,vt.ownBlock=some k->own k=3:=h.town
 have hv1:∀ k,v1.ownBlock=some k->own k=3\/(own k=0/\W.heap.size<=k):=fun k hk=>by
  rcases hv with he | ⟨b,he,hl⟩
  ·exact .inl (hvt k (he ▸ hk))
  ·rw [he] at hk
   injection hk with hk;subst hk;exact .inr ⟨h.new0 _ hl,hl⟩
 have hfar:∀ k,own k ≠ 3->k < W.heap.size->W1.heap[k]? = W.heap[k]? :=fun k h3 hl=>hg.block k hl (fun he=>h3 (hvt k he.symm))
 have hsame:∀ k,own k ≠ 0->tagB own v1.ownBlock 3 k=own k:=fun k hk=>by
  by_cases he:v1.ownBlock=some k
  ·rw [tagB_at he]
   rcases hv1 k he with h3 | h3
   ·exact h3.symm
   ·exact absurd h3.1 hk
  ·exact tagB_off he
 have hlow:∀ k,k < W.heap.size->tagB own v1.ownBlock 3 k=own k:=fun k hk=>by
  by_cases he:v1.ownBlock=some k
  ·rw [tagB_at he]
   rcases hv1 k he with h3 | h3
   ·exact h3.symm
   ·omega
  ·exact tagB_off he
 refine ⟨tagB own v1.ownBlock 3,⟨fun k hk=>(hlow k (by omega)).trans (h.low k hk),fun k hk=> ?_,
  Kd.R_mono (Kd.R_step h.cells (fun k hk hl=>hfar k (by omega) hl)) (fun k hk=>by rw [hsame k (by omega)];exact hk), ?_,fun k hk=>tagB_at hk,
  Kd.R_mono (Kd.R_step h.log (fun k hk hl=>hfar k (by omega) hl)) (fun k hk=>by rw [hsame k (by omega)];exact hk)⟩,hlow⟩
 ·refine (tagB_off fun he=> ?_).trans (h.new0 k (Nat.le_trans hg.size hk))
  have:=(R_in hr k he).2.2
  omega
 ·refine ⟨fun k hk=> .inl (tagB_at hk),hr.2.imp_ (fun x cs hp=> ?_)⟩
  have h1:=kTaskO_ok hp;have h2:=kTaskO_own (own':=tagB own v1.ownBlock 3) (fun k _ hk=>hsame k (by omega)) h1;refine (kTaskO (tagB own v1.ownBlock 3)).M_mono (fun k hk=> ?_) (kTaskO_ok h2);refine ⟨.inr hk,fun he=> ?_⟩;rw [tagB_at he.symm] at hk;omega
theorem Sy.logGrow (h:Sy B own s vc vt vl W) (hB:B1<=W.heap.size) (hg:W.grownBy W1 vl.ownBlock) {v1:Value} {log':List Entry} (h0:∀ k,B1<=k->own k=0) (hBB:B<=B1)
  (hr:kEntry.R 119 W1 B (fun k=>own k=4\/(own k=0/\B1<=k)) v1 log'):
  ∃ own',Sy B own' {s with log:=log'} vc vt v1 W1/\∀ k,k < B1->own' k=own k:=by
 have hvl:∀ k,vl.ownBlock=some k->own k=4:=h.log.1;have hfar:∀ k,own k ≠ 4->k < W.heap.size->W1.heap[k]? = W.heap[k]? :=fun k h4 hl=>hg.block k hl (fun he=>h4 (hvl k he.symm))
 have hsame:∀ k,own k ≠ 0->tagZ own B1 W1 (119 :: kEntry.E) 4 k=own k:=fun k hk=>tagZ_own hk
 refine ⟨tagZ own B1 W1 (119 :: kEntry.E) 4,⟨fun k hk=>(tagZ_lo (by omega)).trans (h.low k hk),fun k hk=>(tagZ_hi hk).trans (h.new0 k (Nat.le_trans hg.size hk)),
  Kd.R_mono (Kd.R_step h.cells (fun k hk hl=>hfar k (by omega) hl)) (fun k hk=>by rw [hsame k (by omega)];exact hk),
  Kd.R_mono (d:=kTaskO (tagZ own B1 W1 (119 :: kEntry.E) 4)) ⟨(Kd.R_step h.tasks (fun k hk hl=>hfar k (by omega) hl)).1,(Kd.R_step h.tasks (fun k hk hl=>hfar k (by omega) hl)).2.imp_ (fun _ _ hp=>kTaskO_own (fun k _ hk=>hsame k (by have:=hk.1;omega)) hp)⟩ (fun k hk=>by rw [hsame k (by omega)];exact hk),
  fun k hk=>by rw [hsame k (by rw [h.town k hk];decide)];exact h.town k hk, ?_⟩,fun k hk=>tagZ_lo hk⟩
 refine Kd.R_mono (Kd.R_bound hr) (fun k hk=> ?_);obtain ⟨h1,h2,h3,h4⟩:=hk;rcases h1 with h1 | ⟨h1,h5⟩
 ·rw [hsame k (by omega)]
  exact h1
 ·obtain ⟨q,hq,cells,hc⟩:=h4
  exact tagZ_yes ⟨h1,h5,h3,q,hq,cells,hc⟩
end
theorem info_cell:(Try.prog.info? 53).map (fun i=>(i.zero,i.size,i.bytes))=some (some (.agg #[.int .i64 0,.int .i64 0,.int .i64 0]),3,24):=by kernel_rfl
theorem R_nil_any {α β:Type} {d:Kd α} {d':Kd β} {e base:Nat} {ok ok':Nat->Prop} {W:World} {v:Value} (h:d.R e W base ok v []) (hz:d'.sz=d.sz) (hok:∀ k,v.ownBlock=some k->ok' k):d'.R e W base ok' v []:=by
 obtain ⟨h0,inner,ho,hr⟩:=h;refine ⟨hok,inner, ?_,⟨by have:=hr.1;simpa using this,fun j p hp=>by simp at hp⟩⟩;rw [hz];exact ho
theorem R_other {α β:Type} {d:Kd α} {d':Kd β} {e e' base base':Nat} {ok ok':Nat->Prop} {W W1:World} {v v':Value} {xs:List α} {ys:List β} (h:d.R e W base ok v xs) (h':d'.R e' W base' ok' v' ys) (hd:∀ q ∈ e :: d.E,q ∉ e' :: d'.E) (hg:W.grownBy W1 v'.ownBlock):d.R e W1 base ok v xs:=by
 refine Kd.R_mono (Kd.R_step (Kd.R_bound h) (fun k hk hl=>hg.block k hl (fun he=> ?_))) (fun k hk=>hk.1);obtain ⟨_,_,_,q,hq,cells,hc⟩:=hk;obtain ⟨_,_,_,q',hq',cells',hc'⟩:=(Kd.R_bound h').1 k he.symm;rw [hc] at hc';injection hc' with hc';injection hc' with _ hc';exact hd q hq (hc' ▸ hq')
theorem R_type {α:Type} {d:Kd α} {e base:Nat} {ok:Nat->Prop} {W:World} {v:Value} {xs:List α} (h:d.R e W base ok v xs):∀ k,v.ownBlock=some k->∃ cells,W.heap[k]? = some (.cells cells e (0,0)):=by
 intro k hk;obtain ⟨h0,inner,ho,hr⟩:=h;rcases ho.2 with ⟨rfl,hi⟩ | ⟨b,cap,cur,rfl,hb,hh,hnc,hm,hcs,ht⟩
 ·simp [Value.ownBlock] at hk
 ·have:b=k:=by simpa [Value.ownBlock] using hk
  subst this;exact ⟨cur,hh⟩
theorem sy_start {B B4:Nat} {W:World} {vc vt vl:Value} {cs:List Cell} (clock:Int) (hB:B<=B4) (h3:kCell.R 53 W B4 (fun _=>True) vc cs) (h4:kTask.R 38 W B4 (fun _=>True) vt []) (h7:kEntry.R 119 W B4 (fun _=>True) vl []):
  ∃ own,Sy B own ⟨cs, [],clock, []⟩ vc vt vl W/\(∀ k,k < B4->own k=0)/\∀ k cells,W.heap[k]? = some (.cells cells 27 (0,0))->own k=0:=by
 have ne:∀ {α β:Type} {d:Kd α} {d':Kd β} {e e':Nat} {v v':Value} {xs:List α} {ys:List β},d.R e W B4 (fun _=>True) v xs->d'.R e' W B4 (fun _=>True) v' ys->e ≠ e'->∀ k,v.ownBlock=some k->v'.ownBlock ≠ some k:=by
  intro α β d d' e e' v v' xs ys h h' hd k hk hk';obtain ⟨cells,hc⟩:=R_type h k hk;obtain ⟨cells',hc'⟩:=R_type h' k hk';rw [hc] at hc';injection hc' with hc';injection hc' with _ hc';exact hd hc'
 have n34:=ne h3 h4 (by decide);have n37:=ne h3 h7 (by decide);have n47:=ne h4 h7 (by decide);obtain ⟨own,hown⟩:∃ o,o=tagB (tagB (tagB (fun _=>0) vc.ownBlock 2) vt.ownBlock 3) vl.ownBlock 4:=⟨_,rfl⟩;have o3:∀ k,vc.ownBlock=some k->own k=2:=fun k hk=>by rw [hown,tagB_off (n37 k hk),tagB_off (n34 k hk),tagB_at hk]
 have o4:∀ k,vt.ownBlock=some k->own k=3:=fun k hk=>by rw [hown,tagB_off (n47 k hk),tagB_at hk]
 have o7:∀ k,vl.ownBlock=some k->own k=4:=fun k hk=>by rw [hown,tagB_at hk]
 have o0:∀ k,vc.ownBlock ≠ some k->vt.ownBlock ≠ some k->vl.ownBlock ≠ some k->own k=0:=fun k a b c=>by rw [hown,tagB_off c,tagB_off b,tagB_off a]
 have hlow:∀ k,k < B4->own k=0:=fun k hk=>o0 k (fun he=>by have:=(R_in h3 k he).2.1;omega) (fun he=>by have:=(R_in h4 k he).2.1;omega) (fun he=>by have:=(R_in h7 k he).2.1;omega)
 refine ⟨own,⟨fun k hk=>hlow k (by omega),fun k hk=>o0 k (fun he=>by have:=(R_in h3 k he).2.2;omega) (fun he=>by have:=(R_in h4 k he).2.2;omega) (fun he=>by have:=(R_in h7 k he).2.2;omega),
  Kd.R_lower (R_flat flat_cell h3 o3) hB,R_nil_any (d':=kTaskO own) (Kd.R_lower h4 hB) rfl (fun k hk=> .inl (o4 k hk)),o4,R_nil_any (Kd.R_lower h7 hB) rfl o7⟩,hlow,fun k cells hk=> ?_⟩
 have ty:∀ {α:Type} {d:Kd α} {e:Nat} {v:Value} {xs:List α},d.R e W B4 (fun _=>True) v xs->27 ≠ e->v.ownBlock ≠ some k:=by
  intro α d e v xs h hd he;obtain ⟨cells',hc⟩:=R_type h k he;rw [hk] at hc;injection hc with hc;injection hc with _ hc;exact hd hc
 exact o0 k (ty h3 (by decide)) (ty h4 (by decide)) (ty h7 (by decide))
theorem l11Copy_calls (s:Sys) (cs:List Value) (w:World) (hx:kSys.K w s cs) (hn:s.tasks.length<=1048576) (hm:s.cells.length<=1048576) (hl:s.log.length<=1048576) (hlen:∀ i,i < s.tasks.length->(taskAt s.tasks i).regs.length<=1048576/\(taskAt s.tasks i).old.length<=1048576/\(taskAt s.tasks i).reads.length<=1048576/\(taskAt s.tasks i).puts.length<=1048576) (hlog:∀ e ∈ s.log,e.reads.length<=1048576/\e.puts.length<=1048576):
  Calls Try.prog 87 #[.agg cs.toArray] w fun e w'=>∃ own vc vt vl,e= .returned (.agg #[vc,vt,.int .i64 s.clock,vl])/\Sy w.heap.size own s vc vt vl w'/\Below w.heap.size w w':=by
 have HX:=am hx;obtain ⟨A0,c0,A1,c1,A3,c3,rfl,l0,g0,l1,g1,l3,g3⟩:=kSys_open hx;have G0:=am g0;have G1:=am g1;have G3:=am g3;clear g0 g1 g3 l0 l1 l3 hx;go_enter Try.func87,Try.ntmps87
 go_wp2_with (first
 |((with_reducible refine gate_dst (N:=1) rfl ?_);refine box_event rfl (N:=1) rfl (t:=27) (by go_simp<;>rfl) ?_;intro gs hgs w1 hbox hb;have BKs:=am hbox;have GS:=am hgs;have HB:=am hb;have HBa1:=am hb.size;clear hbox hb hgs)
 |((with_reducible refine gate_dst (N:=2) rfl ?_);refine box_event rfl (N:=2) rfl (t:=27) (by go_simp<;>rfl) ?_;intro gr hgr w2 hbox hb;have BKr:=am hbox;have GR:=am hgr;replace HB:=am (below_step HB.out hb);replace BKs:=am (zb8 BKs.out hb);clear hbox hb hgr))
 refine st9 (n:=11) (S:=fun W=>W.heap[gs]? = some (.cells #[.slice A0 s.cells.length c0,.slice A1 s.tasks.length c1,.int .i64 s.clock,.slice A3 s.log.length c3] 27 (0,0))) (ds:= [10]) (by kernel_rfl) rfl (blk_drew BKs.out) (fun hHeld=> ?_);have hb:=below_drew (Below.refl w2.heap.size w2);generalize w2.drew=w4 at hb hHeld ⊢;have HB4:=am (below_step HB.out hb);have BKr4:=am (zb8 BKr.out hb);have C0:=am (Kd.C_below G0.out HB4.out);clear hb HB BKs BKr;refine ba9 (fuel:=7) (n:=4) [1,2,5,6] (by kernel_rfl) (fun N _ _ _ _ h=>by cases N <;> exact h) hHeld ?_
 iterate 4 (
  refine stillS_step (v:= ?_) (a':= ?_) rfl (Or.inl ⟨by rfl, ?_⟩) ?_ ?_;rotate_left
  ·intro W s0
   have t0:=zc8 s0;clear s0;go_simp;with_reducible rfl
  rotate_left
  ·simp only [Act.put,sA,sZ,sS,i64_w]
   rfl)
 refine stillS_nil ?_
 refine perm_ (fuel:=1) (l':=#[true,true,true,true,true,true,true,true,true,true,false]) (fun x=>if x=3 then [0] else if x=8 then [3,4,7] else []) (fun D=>⟨#[.agg #[.slice A0 s.cells.length c0,.slice A1 s.tasks.length c1,.int .i64 s.clock,.slice A3 s.log.length c3],.pointer (some ⟨gs,0,none⟩),.pointer (some ⟨gr,0,none⟩),D 9,undef,undef,undef,undef,D 0,.pointer (some ⟨gs,0,none⟩),.slice A0 s.cells.length c0,D 3,D 4,.pointer (some ⟨gs,2,none⟩),.int .i64 s.clock,D 7,D 8,undef,undef,undef,undef,undef,undef,undef,undef,undef,undef,undef,undef,undef,undef,undef,undef,undef,undef,undef,undef,undef,undef,undef,undef,undef,undef,undef,undef,undef,undef,undef,undef,undef,undef,undef,undef,undef,undef,undef,undef,undef,undef,undef,undef,undef,undef,undef,undef,undef,undef,undef,undef,undef,undef,undef,undef,undef,undef,undef,undef,undef,undef,undef], []⟩)
  (fun rem D W=>Below w4.heap.size w4 W/\(0 ∉ rem->3 ∈ rem->kCell.R 53 W w4.heap.size (fun _=>True) (D 0) [])/\(3 ∉ rem->kCell.R 53 W w4.heap.size (fun _=>True) (D 3) s.cells)/\(4 ∉ rem->kTask.R 38 W w4.heap.size (fun _=>True) (D 4) [])/\(7 ∉ rem->kEntry.R 119 W w4.heap.size (fun _=>True) (D 7) [])/\(8 ∉ rem->D 8= .agg #[D 3,D 4,.int .i64 s.clock,D 7])/\(9 ∉ rem->∃ b,D 9= .pointer (some ⟨b,0,none⟩)/\w4.heap.size<=b/\W.heap[b]? = some (.cells #[.slice none 0 0,.slice none 0 0,.int .i64 0,.slice none 0 0] 27 (0,0)))/\(3 ∈ rem\/4 ∈ rem\/7 ∈ rem->8 ∈ rem)/\rem.Nodup) [0,3,4,7,8,9] (fun rem D W hI=>zb8 hHeld hI.1) (fun x hx=> ?_) (fun D W hI=> ?_) 6 [0,3,4,7,8,9] _ (fun _=>undef) _ (fun _ h=>h) (by kernel_rfl) ⟨Below.refl _ _,fun h=>absurd (by simp) h,fun h=>absurd (by simp) h,fun h=>absurd (by simp) h,fun h=>absurd (by simp) h,fun h=>absurd (by simp) h,fun h=>absurd (by simp) h,fun _=>by simp,by decide⟩
 ·simp only [List.mem_cons,List.not_mem_nil,or_false] at hx
  rcases hx with rfl|rfl|rfl|rfl|rfl|rfl
  ·refine ⟨_,rfl,by decide,fun D v=>rfl,fun rem D W K hx hnd hI hK=> ?_⟩
   obtain ⟨i0,i1,i2,i3,i4,i5,i6,i7,nd⟩:=hI;refine Kd.R_lit_step (w0:=w4) kCell w4.heap.size 53 (by rfl) (N:=8) rfl (xs:=([]:List Cell)) (inner:= []) (ok:=fun _=>True) (okp:=fun _=>False) (by go_simp<;>rfl) (Reps.none _ _) (fun _ h=>h.elim) trivial i0 i0.size (by simp) (fun v W1 hR hb0 hg hat=> ?_);have hb:=grown_below hg;refine hK v W1 ⟨hb0, ?_, ?_, ?_, ?_, ?_, ?_, ?_,nd.erase _⟩
   ·intro _ _
    rw [upd_at];exact hR
   ·intro hq
    rw [upd_ne (by decide)];exact Kd.R_below (i2 (fun hm=>hq ((List.mem_erase_of_ne (by decide)).2 hm))) hb
   ·intro hq
    rw [upd_ne (by decide)];exact Kd.R_below (i3 (fun hm=>hq ((List.mem_erase_of_ne (by decide)).2 hm))) hb
   ·intro hq
    rw [upd_ne (by decide)];exact Kd.R_below (i4 (fun hm=>hq ((List.mem_erase_of_ne (by decide)).2 hm))) hb
   ·intro hq
    rw [upd_ne (by decide),upd_ne (by decide),upd_ne (by decide),upd_ne (by decide)];exact i5 (fun hm=>hq ((List.mem_erase_of_ne (by decide)).2 hm))
   ·intro hq
    obtain ⟨b9,e9,l9,k9⟩:=i6 (fun hm=>hq ((List.mem_erase_of_ne (by decide)).2 hm));rw [upd_ne (by decide)];exact ⟨b9,e9,l9,zb8 k9 hb⟩
   ·intro h
    exact (List.mem_erase_of_ne (by decide)).2 (i7 (by rcases h with h | h | h;exact .inl (List.mem_of_mem_erase h);exact .inr (.inl (List.mem_of_mem_erase h));exact .inr (.inr (List.mem_of_mem_erase h))))
  ·refine ⟨_,rfl,by decide,fun D v=>rfl,fun rem D W K hx hnd hI hK=> ?_⟩
   obtain ⟨i0,i1,i2,i3,i4,i5,i6,i7,nd⟩:=hI;have hD0:=i1 (hnd 0 (by simp)) hx;have hnd3:3 ∉ rem.erase 3:=nd.not_mem_erase;refine Kd.R_append_rows_step kCell (Rr:=kCell.K W) (w0:=w4) w4.heap.size (by rfl) (.tmp 8) (.tmp 10) 23 53 (.agg #[.int .i64 0,.int .i64 0,.int .i64 0]) 24 rfl Try.underlying23 info_cell rfl (by decide) (by decide) (D 0) [] s.cells A0 s.cells.length c0 (fun _=>True) (fun _=>False) rfl rfl hD0 (Kd.C_below C0.out i0) (fun x cs h=>h) (fun _ h=>h.elim) (fun _ _=>trivial) i0 i0.size (by simp;omega) (fun v W1 hR hb0 hg hat=> ?_);refine hK v W1 ⟨hb0, ?_, ?_, ?_, ?_, ?_, ?_, ?_,nd.erase _⟩
   ·intro _ h3
    exact absurd h3 hnd3
   ·intro _
    rw [upd_at];exact hR
   ·intro hq
    rw [upd_ne (by decide)];exact R_other (i3 (fun hm=>hq ((List.mem_erase_of_ne (by decide)).2 hm))) hD0 (by decide) hg
   ·intro hq
    rw [upd_ne (by decide)];exact R_other (i4 (fun hm=>hq ((List.mem_erase_of_ne (by decide)).2 hm))) hD0 (by decide) hg
   ·intro hq
    exact absurd (i7 (by simp [hx])) (fun hm=>hq ((List.mem_erase_of_ne (by decide)).2 hm))
   ·intro hq
    obtain ⟨b9,e9,l9,k9⟩:=i6 (fun hm=>hq ((List.mem_erase_of_ne (by decide)).2 hm));rw [upd_ne (by decide)];exact ⟨b9,e9,l9,(hg.block b9 (blk_lt k9) (fun he=>by obtain ⟨_,_,_,q',hq',cells',hc'⟩:=(Kd.R_bound hD0).1 b9 he.symm;rw [k9] at hc';injection hc' with hc';injection hc' with _ hc';rw [<-hc'] at hq';revert hq';decide)).trans k9⟩
   ·intro h
    exact (List.mem_erase_of_ne (by decide)).2 (i7 (by rcases h with h | h | h;exact .inl (List.mem_of_mem_erase h);exact .inr (.inl (List.mem_of_mem_erase h));exact .inr (.inr (List.mem_of_mem_erase h))))
  ·refine ⟨_,rfl,by decide,fun D v=>rfl,fun rem D W K hx hnd hI hK=> ?_⟩
   obtain ⟨i0,i1,i2,i3,i4,i5,i6,i7,nd⟩:=hI;refine Kd.R_lit_step (w0:=w4) kTask w4.heap.size 38 (by rfl) (N:=12) rfl (xs:=([]:List Task)) (inner:= []) (ok:=fun _=>True) (okp:=fun _=>False) (by go_simp<;>rfl) (Reps.none _ _) (fun _ h=>h.elim) trivial i0 i0.size (by simp) (fun v W1 hR hb0 hg hat=> ?_);have hb:=grown_below hg;refine hK v W1 ⟨hb0, ?_, ?_, ?_, ?_, ?_, ?_, ?_,nd.erase _⟩
   ·intro hq h3
    rw [upd_ne (by decide)];exact Kd.R_below (i1 (fun hm=>hq ((List.mem_erase_of_ne (by decide)).2 hm)) (List.mem_of_mem_erase h3)) hb
   ·intro hq
    rw [upd_ne (by decide)];exact Kd.R_below (i2 (fun hm=>hq ((List.mem_erase_of_ne (by decide)).2 hm))) hb
   ·intro _
    rw [upd_at];exact hR
   ·intro hq
    rw [upd_ne (by decide)];exact Kd.R_below (i4 (fun hm=>hq ((List.mem_erase_of_ne (by decide)).2 hm))) hb
   ·intro hq
    exact absurd (i7 (by simp [hx])) (fun hm=>hq ((List.mem_erase_of_ne (by decide)).2 hm))
   ·intro hq
    obtain ⟨b9,e9,l9,k9⟩:=i6 (fun hm=>hq ((List.mem_erase_of_ne (by decide)).2 hm));rw [upd_ne (by decide)];exact ⟨b9,e9,l9,zb8 k9 hb⟩
   ·intro h
    exact (List.mem_erase_of_ne (by decide)).2 (i7 (by rcases h with h | h | h;exact .inl (List.mem_of_mem_erase h);exact .inr (.inl (List.mem_of_mem_erase h));exact .inr (.inr (List.mem_of_mem_erase h))))
  ·refine ⟨_,rfl,by decide,fun D v=>rfl,fun rem D W K hx hnd hI hK=> ?_⟩
   obtain ⟨i0,i1,i2,i3,i4,i5,i6,i7,nd⟩:=hI;refine Kd.R_lit_step (w0:=w4) kEntry w4.heap.size 119 (by rfl) (N:=15) rfl (xs:=([]:List Entry)) (inner:= []) (ok:=fun _=>True) (okp:=fun _=>False) (by go_simp<;>rfl) (Reps.none _ _) (fun _ h=>h.elim) trivial i0 i0.size (by simp) (fun v W1 hR hb0 hg hat=> ?_);have hb:=grown_below hg;refine hK v W1 ⟨hb0, ?_, ?_, ?_, ?_, ?_, ?_, ?_,nd.erase _⟩
   ·intro hq h3
    rw [upd_ne (by decide)];exact Kd.R_below (i1 (fun hm=>hq ((List.mem_erase_of_ne (by decide)).2 hm)) (List.mem_of_mem_erase h3)) hb
   ·intro hq
    rw [upd_ne (by decide)];exact Kd.R_below (i2 (fun hm=>hq ((List.mem_erase_of_ne (by decide)).2 hm))) hb
   ·intro hq
    rw [upd_ne (by decide)];exact Kd.R_below (i3 (fun hm=>hq ((List.mem_erase_of_ne (by decide)).2 hm))) hb
   ·intro _
    rw [upd_at];exact hR
   ·intro hq
    exact absurd (i7 (by simp [hx])) (fun hm=>hq ((List.mem_erase_of_ne (by decide)).2 hm))
   ·intro hq
    obtain ⟨b9,e9,l9,k9⟩:=i6 (fun hm=>hq ((List.mem_erase_of_ne (by decide)).2 hm));rw [upd_ne (by decide)];exact ⟨b9,e9,l9,zb8 k9 hb⟩
   ·intro h
    exact (List.mem_erase_of_ne (by decide)).2 (i7 (by rcases h with h | h | h;exact .inl (List.mem_of_mem_erase h);exact .inr (.inl (List.mem_of_mem_erase h));exact .inr (.inr (List.mem_of_mem_erase h))))
  ·refine ⟨_,rfl,by decide,fun D v=>rfl,fun rem D W K hx hnd hI hK=> ?_⟩
   obtain ⟨i0,i1,i2,i3,i4,i5,i6,i7,nd⟩:=hI;obtain ⟨a3,d3,e3⟩:=Kd.R_slice (i2 (hnd 3 (by simp)));obtain ⟨a4,d4,e4⟩:=Kd.R_slice (i3 (hnd 4 (by simp)));obtain ⟨a7,d7,e7⟩:=Kd.R_slice (i4 (hnd 7 (by simp)));have hb:=Below.refl W.heap.size W;have hv8:Value.agg #[D 3,D 4,.int .i64 s.clock,D 7]=Value.agg #[D 3,D 4,.int .i64 s.clock,D 7]:=rfl;refine value_ (v:=.agg #[D 3,D 4,.int .i64 s.clock,D 7]) (w1:=W) (by rfl) rfl (by simp only [e3,e4,e7];first|(go_simp;done)|(go_simp;rfl)) ?_;refine hK _ W ⟨i0, ?_, ?_, ?_, ?_, ?_, ?_, ?_,nd.erase _⟩
   ·intro hq h3
    rw [upd_ne (by decide)];exact Kd.R_below (i1 (fun hm=>hq ((List.mem_erase_of_ne (by decide)).2 hm)) (List.mem_of_mem_erase h3)) hb
   ·intro hq
    rw [upd_ne (by decide)];exact Kd.R_below (i2 (fun hm=>hq ((List.mem_erase_of_ne (by decide)).2 hm))) hb
   ·intro hq
    rw [upd_ne (by decide)];exact Kd.R_below (i3 (fun hm=>hq ((List.mem_erase_of_ne (by decide)).2 hm))) hb
   ·intro hq
    rw [upd_ne (by decide)];exact Kd.R_below (i4 (fun hm=>hq ((List.mem_erase_of_ne (by decide)).2 hm))) hb
   ·intro _
    rw [upd_at,upd_ne (by decide),upd_ne (by decide),upd_ne (by decide)]
   ·intro hq
    obtain ⟨b9,e9,l9,k9⟩:=i6 (fun hm=>hq ((List.mem_erase_of_ne (by decide)).2 hm));rw [upd_ne (by decide)];exact ⟨b9,e9,l9,zb8 k9 hb⟩
   ·intro h
    rcases h with h | h | h
    ·exact absurd (List.mem_of_mem_erase h) (hnd 3 (by simp))
    ·exact absurd (List.mem_of_mem_erase h) (hnd 4 (by simp))
    ·exact absurd (List.mem_of_mem_erase h) (hnd 7 (by simp))
  ·refine ⟨_,rfl,by decide,fun D v=>rfl,fun rem D W K hx hnd hI hK=> ?_⟩
   obtain ⟨i0,i1,i2,i3,i4,i5,i6,i7,nd⟩:=hI;have hb:=below_alloc (Below.refl W.heap.size W) (.cells #[.slice none 0 0,.slice none 0 0,.int .i64 0,.slice none 0 0] 27 (0,0));refine value_ (v:=.pointer (some ⟨W.heap.size,0,none⟩)) (w1:=W.alloc (.cells #[.slice none 0 0,.slice none 0 0,.int .i64 0,.slice none 0 0] 27 (0,0))) (by rfl) rfl (by go_simp<;>rfl) ?_;have hv9:∃ b,Value.pointer (some ⟨W.heap.size,0,none⟩)= .pointer (some ⟨b,0,none⟩)/\w4.heap.size<=b/\(W.alloc (.cells #[.slice none 0 0,.slice none 0 0,.int .i64 0,.slice none 0 0] 27 (0,0))).heap[b]? = some (.cells #[.slice none 0 0,.slice none 0 0,.int .i64 0,.slice none 0 0] 27 (0,0)):=⟨_,rfl,i0.size,blk_new _ _⟩;refine hK _ _ ⟨below_step i0 hb, ?_, ?_, ?_, ?_, ?_, ?_, ?_,nd.erase _⟩
   ·intro hq h3
    rw [upd_ne (by decide)];exact Kd.R_below (i1 (fun hm=>hq ((List.mem_erase_of_ne (by decide)).2 hm)) (List.mem_of_mem_erase h3)) hb
   ·intro hq
    rw [upd_ne (by decide)];exact Kd.R_below (i2 (fun hm=>hq ((List.mem_erase_of_ne (by decide)).2 hm))) hb
   ·intro hq
    rw [upd_ne (by decide)];exact Kd.R_below (i3 (fun hm=>hq ((List.mem_erase_of_ne (by decide)).2 hm))) hb
   ·intro hq
    rw [upd_ne (by decide)];exact Kd.R_below (i4 (fun hm=>hq ((List.mem_erase_of_ne (by decide)).2 hm))) hb
   ·intro hq
    rw [upd_ne (by decide),upd_ne (by decide),upd_ne (by decide),upd_ne (by decide)];exact i5 (fun hm=>hq ((List.mem_erase_of_ne (by decide)).2 hm))
   ·intro _
    rw [upd_at];exact hv9
   ·intro h
    exact (List.mem_erase_of_ne (by decide)).2 (i7 (by rcases h with h | h | h;exact .inl (List.mem_of_mem_erase h);exact .inr (.inl (List.mem_of_mem_erase h));exact .inr (.inr (List.mem_of_mem_erase h))))
 ·obtain ⟨i0,-,i2,i3,i4,i5,i6,-⟩:=hI
  have r3:=i2 (by simp);have r4:=i3 (by simp);have r7:=i4 (by simp);have e8:=i5 (by simp);obtain ⟨b9,e9,l9,k9⟩:=i6 (by simp);simp only [e8,e9];clear e8 e9 i2 i3 i4 i5 i6;generalize D 0=u0;generalize D 3=vc at*;generalize D 4=vt at*;generalize D 7=vl at*;obtain ⟨Ac,dc,e3⟩:=Kd.R_slice r3;obtain ⟨At,dt,e4⟩:=Kd.R_slice r4;obtain ⟨Al,dl,e7⟩:=Kd.R_slice r7;change vt= .slice At 0 dt at e4;change vl= .slice Al 0 dl at e7;subst e3 e4 e7;obtain ⟨own,hsy,hlow,hty⟩:=sy_start (B:=w.heap.size) s.clock HB4.out.size r3 r4 r7;have o9:=hty b9 _ k9;have HS:=am hsy;have HBW:=am (below_step HB4.out i0);have OS:=am (hlow gs (blk_lt hHeld));have OR:=am (hlow gr (blk_lt BKr4.out));have O9:=am o9;have K9:=am k9;have L9:=am (Nat.le_trans HB4.out.size l9);have LR:=am (show w.heap.size<=gr by have h1:=GR.out;have h2:=HBa1.out;omega);have BKs:=am (zb8 hHeld i0);have BKr:=am (zb8 BKr4.out i0);have NS:Aside0 (gs ≠ b9):=⟨fun he=>by have:=blk_lt hHeld;omega⟩;have NR:Aside0 (gr ≠ b9):=⟨fun he=>by have:=blk_lt BKr4.out;omega⟩;clear r3 r4 r7 hsy hlow hty o9 k9 l9 i0 hHeld BKr4 HB4 C0;refine tail_ (fuel:=1) 10 (by kernel_rfl) ?_;simp only [List.drop_succ_cons,List.drop_zero]
  go_wp2_with (first
  |((with_reducible refine gate_store (t:=27) (p:=3) rfl ?_);refine store_block rfl rfl 27 (.tmp 3) (.tmp 16) rfl rfl rfl K9.out rfl (by kernel_rfl) (aB rfl) ?_;intro w5 hbox hg;have BK9:=am hbox;replace HS:=am (HS.out.move hg.size (fun k hk hl=>hg.block k hl (fun he=>by injection he with he;rw [he] at hk;exact hk O9.out)));have HB5:=am (pw_below_grown HBW.out _ HBW.out.size hg (fun z hz=>by cases hz;exact L9.out));replace BKs:=am (blk_grown BKs.out hg (fun he=>by injection he with he;exact NS.out he));replace BKr:=am (blk_grown BKr.out hg (fun he=>by injection he with he;exact NR.out he));clear hbox hg HBW K9;have HB:=HB5;clear HB5)
   )
  go_loopw [4] (fun j w'=>∃ k:Nat,k<=s.tasks.length/\j= .int .i64 k/\∃ own vt,Aside0 (Sy w.heap.size own {s with tasks:=s.tasks.take k,log:= []} (.slice Ac s.cells.length dc) vt (.slice Al 0 dl) w')/\Aside0 (w'.heap[b9]? = some (.cells #[.slice Ac s.cells.length dc,vt,.int .i64 s.clock,.slice Al 0 dl] 27 (0,0)))/\Aside0 (w'.heap[gs]? = some (.cells #[.slice A0 s.cells.length c0,.slice A1 s.tasks.length c1,.int .i64 s.clock,.slice A3 s.log.length c3] 27 (0,0)))/\Aside0 (w'.heap[gr]? = some (.cells #[.slice none 0 0,.slice none 0 0,.int .i64 0,.slice none 0 0] 27 (0,0)))/\Aside0 (Below w.heap.size w w')/\Aside0 (own gs=0/\own gr=0/\own b9=0)) (fun j _=>s.tasks.length - (intOf j).toNat)
  case atStart=>exact ⟨0,Nat.zero_le _,rfl,own,_,HS,BK9,BKs,BKr,HB,⟨OS.out,OR.out,O9.out⟩⟩
  case round=>
   clear HS BK9 BKs BKr HB OS OR O9;clear own;obtain ⟨k,hk,rfl,own,vt,HS,BK9,BKs,BKr,HB,OO0⟩:=hrel;have OS:=am OO0.out.1;have OR:=am OO0.out.2.1;have O9:=am OO0.out.2.2;have BKsc:=zc8 BKs.out;have BK9c:=zc8 BK9.out;clear OO0;obtain ⟨tk0,htk⟩:∃ l:List Task,l=s.tasks.take k:=⟨_,rfl⟩;have HLK:Aside0 (tk0.length=k):=⟨by rw [htk,List.length_take,Nat.min_eq_left hk]⟩;rw [<-htk] at HS;have HTK:=am htk;clear htk;by_cases hlt:k < s.tasks.length
   ·obtain ⟨bk,ok,csk,rfl,hcl,hK,hcc,-⟩:=C_field G1.out zTask k hlt (by decide)
    rw [show s.tasks.getD k zTask=taskAt s.tasks k from rfl] at hK;obtain ⟨B3,d3,B8,d8,B9,d9,B10,d10,rfl,-,g3,-,g8,-,g9,-,g10⟩:=kTask_open hK;have HCC:=am hcc;have GT3:=am g3;have GT8:=am g8;have GT9:=am g9;have GT10:=am g10;have Z3:=am (hlen k hlt).1;have Z8:=am (hlen k hlt).2.1;have Z9:=am (hlen k hlt).2.2.1;have Z10:=am (hlen k hlt).2.2.2;have HBW:=am HB.out.size;have NW:=am HS.out.new0;have LS:=am (And.intro (blk_lt BKs.out) (And.intro (blk_lt BKr.out) (blk_lt BK9.out)));obtain ⟨Avt,cvt,evt⟩:=Kd.R_slice HS.out.tasks;rw [zip_len] at evt;change vt= .slice Avt tk0.length cvt at evt;subst evt;have TS:Aside0 (s.tasks.take (k+1)=tk0 ++ [taskAt s.tasks k]):=⟨by rw [HTK.out,List.take_succ_eq_append_getElem hlt];simp [taskAt,hlt]⟩;have q0:(0:Int)<=(k:Int):=by omega
    have q1:(k:Int) < (s.tasks.length:Int):=by omega
    clear hcc hK hcl g3 g8 g9 g10 hk
    go_wp2_with (first
    |((with_reducible refine gate_dst (N:=28) rfl ?_);refine wpList_load_mid rfl 38 (.tmp 27) rfl bk (ok+k*13) rfl _ _ (fun j u hu=>cellB HB.out (HCC.out j u hu)) Try.underlying38 rfl (by kernel_rfl) ?_)
    |((with_reducible refine gate_dst (N:=5) rfl ?_);refine box_event rfl (N:=5) rfl (t:=38) (by go_simp<;>rfl) ?_;intro gt hg wt hbox hb;have BKt0:=am hbox;have GTE:=am hg;have HBT:=am hb;clear hbox hb hg)
    |((with_reducible refine gate_store (t:=38) (p:=5) rfl ?_);refine store_block rfl rfl 38 (.tmp 5) (.tmp 28) rfl rfl rfl BKt0.out rfl (by kernel_rfl) (aB rfl) ?_;intro wn hbox hg;have BKt:=am hbox;have hbx:=pw_below_grown HBT.out _ HBT.out.size hg (fun z hz=>by cases hz;exact Nat.le_of_eq GTE.out.symm);have HR:=am hbx;have GT:=am (Nat.le_of_eq GTE.out.symm);have OT:=am (HS.out.new0 gt GT.out);have NTS:Aside0 (gs ≠ gt):=⟨fun he=>by have h1:=blk_lt BKs.out;have h2:=GT.out;omega⟩;have NTR:Aside0 (gr ≠ gt):=⟨fun he=>by have h1:=blk_lt BKr.out;have h2:=GT.out;omega⟩;have NT9:Aside0 (b9 ≠ gt):=⟨fun he=>by have h1:=blk_lt BK9.out;have h2:=GT.out;omega⟩;replace HS:=am (HS.out.grow hbx);replace HB:=am (below_step HB.out hbx);replace BKs:=am (zb8 BKs.out hbx);replace BKr:=am (zb8 BKr.out hbx);replace BK9:=am (zb8 BK9.out hbx);clear BKsc BK9c;have BKsc:=zc8 BKs.out;have BK9c:=zc8 BK9.out;have BKtc:=zc8 BKt.out;clear hbox hg hbx BKt0 HBT)
    |((with_reducible refine gate_dst (N:=29) rfl ?_);refine Kd.R_lit (Kd.int .i64) _ 3 rfl (N:=29) rfl (xs:=([]:List Int)) (inner:= []) (ok:=fun _=>True) (okp:=fun _=>False) (by go_simp<;>rfl) (Reps.none _ _) (fun _ hk=>hk.elim) trivial (Below.refl _ _) (Nat.le_refl _) (by simp) ?_;intro v1 wl hv1 hb1 _ _;have V1:=am hv1;have HL:=am hb1;have BKtc:=zc8 (zb8 BKt.out hb1);clear hv1 hb1)
    |((with_reducible refine gate_builtin (b:=.append) (xs:=#[.tmp 29,.tmp 31]) rfl ?_);at_builtin;refine Kd.R_append_rows (Kd.int .i64) (Rr:=(Kd.int .i64).K _) _ rfl (.tmp 29) (.tmp 31) 29 3 (.int .i64 0) 8 rfl Try.underlying29 info_int rfl (by decide) (by decide) v1 [] (taskAt s.tasks k).regs B3 (taskAt s.tasks k).regs.length d3 (fun _=>True) (fun _=>False) rfl rfl V1.out (Kd.C_below (Kd.C_below GT3.out HB.out) HL.out) (fun _ _ h=>h) (fun _ hk=>hk.elim) (fun _ _=>trivial) HL.out HL.out.size (by have:=Z3.out;simp;omega) ?_;intro v2 wn hv hb _ _;rw [List.nil_append] at hv;obtain ⟨a3,e3,ev⟩:=Kd.R_slice hv;subst ev;have V3:=am (show (Kd.int .i64).R 3 wn wr.heap.size (fun k=>gt < k) (.slice a3 (taskAt s.tasks k).regs.length e3) (taskAt s.tasks k).regs from Kd.R_lower (Kd.R_mono (Kd.R_bound hv) (fun k hk=>Nat.lt_of_lt_of_le (blk_lt BKt.out) hk.2.1)) HR.out.size);replace HS:=am (HS.out.grow hb);replace HB:=am (below_step HB.out hb);replace HR:=am (below_step HR.out hb);replace BKs:=am (zb8 BKs.out hb);replace BKr:=am (zb8 BKr.out hb);replace BK9:=am (zb8 BK9.out hb);replace BKt:=am (zb8 BKt.out hb);clear BKsc BK9c BKtc;have BKsc:=zc8 BKs.out;have BK9c:=zc8 BK9.out;have BKtc:=zc8 BKt.out;clear hv hb V1 HL)
    |((with_reducible refine gate_store (t:=29) (p:=33) rfl ?_);refine set_ev (u:=.slice a3 (taskAt s.tasks k).regs.length e3) rfl rfl _ _ rfl (g:=gt) (off:=3) rfl rfl rfl rfl (by kernel_rfl) ⟨⟨_,by rw [zc8 BKt.out];rfl⟩,blk_frozen BKt.out _⟩ ?_;intro wn hwn;replace HS:=am (show Sy _ _ _ _ _ _ wn by rw [hwn];exact HS.out.far OT.out 3 (.slice a3 (taskAt s.tasks k).regs.length e3));replace HB:=am (show Below w.heap.size w wn by rw [hwn];exact below_set HB.out (Nat.le_trans HBW.out GT.out));replace HR:=am (show Below wr.heap.size wr wn by rw [hwn];exact below_set HR.out GT.out);have bk:=blk_far (p:=⟨gt,3,none⟩) BKs.out NTS.out (.slice a3 (taskAt s.tasks k).regs.length e3);rw [<-hwn] at bk;replace BKs:=am bk;clear bk;have bk:=blk_far (p:=⟨gt,3,none⟩) BKr.out NTR.out (.slice a3 (taskAt s.tasks k).regs.length e3);rw [<-hwn] at bk;replace BKr:=am bk;clear bk;have bk:=blk_far (p:=⟨gt,3,none⟩) BK9.out NT9.out (.slice a3 (taskAt s.tasks k).regs.length e3);rw [<-hwn] at bk;replace BK9:=am bk;clear bk;have bk:=blk_set BKt.out 3 (.slice a3 (taskAt s.tasks k).regs.length e3);rw [<-hwn] at bk;replace BKt:=am (show wn.heap[gt]? = some (.cells #[.int .i64 (taskAt s.tasks k).body,.int .i64 (taskAt s.tasks k).pc,.int .i64 (taskAt s.tasks k).up,.slice a3 (taskAt s.tasks k).regs.length e3,.int .i64 (taskAt s.tasks k).way,.int .i64 (taskAt s.tasks k).stage,.int .i64 (taskAt s.tasks k).at_,.int .i64 (taskAt s.tasks k).since,.slice B8 (taskAt s.tasks k).old.length d8,.slice B9 (taskAt s.tasks k).reads.length d9,.slice B10 (taskAt s.tasks k).puts.length d10,.int .i64 (taskAt s.tasks k).when_,.int .i64 (taskAt s.tasks k).from_] 38 (0,0)) from bk);clear bk;replace V3:=am (show (Kd.int .i64).R 3 wn wr.heap.size (fun k=>gt < k) (.slice a3 (taskAt s.tasks k).regs.length e3) (taskAt s.tasks k).regs by rw [hwn];exact Kd.R_far V3.out (fun k hk=>Nat.ne_of_gt hk) _);clear hwn BKsc BK9c BKtc;have BKsc:=zc8 BKs.out;have BK9c:=zc8 BK9.out;have BKtc:=zc8 BKt.out)
    |((with_reducible refine gate_dst (N:=34) rfl ?_);refine Kd.R_lit (Kd.int .i64) _ 3 rfl (N:=34) rfl (xs:=([]:List Int)) (inner:= []) (ok:=fun _=>True) (okp:=fun _=>False) (by go_simp<;>rfl) (Reps.none _ _) (fun _ hk=>hk.elim) trivial (Below.refl _ _) (Nat.le_refl _) (by simp) ?_;intro v1 wl hv1 hb1 _ _;have V1:=am hv1;have HL:=am hb1;have BKtc:=zc8 (zb8 BKt.out hb1);clear hv1 hb1)
    |((with_reducible refine gate_builtin (b:=.append) (xs:=#[.tmp 34,.tmp 36]) rfl ?_);at_builtin;refine Kd.R_append_rows (Kd.int .i64) (Rr:=(Kd.int .i64).K _) _ rfl (.tmp 34) (.tmp 36) 29 3 (.int .i64 0) 8 rfl Try.underlying29 info_int rfl (by decide) (by decide) v1 [] (taskAt s.tasks k).old B8 (taskAt s.tasks k).old.length d8 (fun _=>True) (fun _=>False) rfl rfl V1.out (Kd.C_below (Kd.C_below GT8.out HB.out) HL.out) (fun _ _ h=>h) (fun _ hk=>hk.elim) (fun _ _=>trivial) HL.out HL.out.size (by have:=Z8.out;simp;omega) ?_;intro v2 wn hv hb _ _;rw [List.nil_append] at hv;obtain ⟨a8,e8,ev⟩:=Kd.R_slice hv;subst ev;have NE38:Aside0 (∀ qq,(Value.slice a3 (taskAt s.tasks k).regs.length e3).ownBlock=some qq->(Value.slice a8 (taskAt s.tasks k).old.length e8).ownBlock ≠ some qq):=⟨fun qq h1 h2=>by have a1:=(R_in V3.out qq h1).2.2;have a2:=(R_in hv qq h2).2.1;omega⟩;have V8:=am (show (Kd.int .i64).R 3 wn wr.heap.size (fun k=>gt < k) (.slice a8 (taskAt s.tasks k).old.length e8) (taskAt s.tasks k).old from Kd.R_lower (Kd.R_mono (Kd.R_bound hv) (fun k hk=>Nat.lt_of_lt_of_le (blk_lt BKt.out) hk.2.1)) HR.out.size);replace HS:=am (HS.out.grow hb);replace HB:=am (below_step HB.out hb);replace HR:=am (below_step HR.out hb);replace BKs:=am (zb8 BKs.out hb);replace BKr:=am (zb8 BKr.out hb);replace BK9:=am (zb8 BK9.out hb);replace BKt:=am (zb8 BKt.out hb);replace V3:=am (Kd.R_below V3.out hb);clear BKsc BK9c BKtc;have BKsc:=zc8 BKs.out;have BK9c:=zc8 BK9.out;have BKtc:=zc8 BKt.out;clear hv hb V1 HL)
    |((with_reducible refine gate_store (t:=29) (p:=38) rfl ?_);refine set_ev (u:=.slice a8 (taskAt s.tasks k).old.length e8) rfl rfl _ _ rfl (g:=gt) (off:=8) rfl rfl rfl rfl (by kernel_rfl) ⟨⟨_,by rw [zc8 BKt.out];rfl⟩,blk_frozen BKt.out _⟩ ?_;intro wn hwn;replace HS:=am (show Sy _ _ _ _ _ _ wn by rw [hwn];exact HS.out.far OT.out 8 (.slice a8 (taskAt s.tasks k).old.length e8));replace HB:=am (show Below w.heap.size w wn by rw [hwn];exact below_set HB.out (Nat.le_trans HBW.out GT.out));replace HR:=am (show Below wr.heap.size wr wn by rw [hwn];exact below_set HR.out GT.out);have bk:=blk_far (p:=⟨gt,8,none⟩) BKs.out NTS.out (.slice a8 (taskAt s.tasks k).old.length e8);rw [<-hwn] at bk;replace BKs:=am bk;clear bk;have bk:=blk_far (p:=⟨gt,8,none⟩) BKr.out NTR.out (.slice a8 (taskAt s.tasks k).old.length e8);rw [<-hwn] at bk;replace BKr:=am bk;clear bk;have bk:=blk_far (p:=⟨gt,8,none⟩) BK9.out NT9.out (.slice a8 (taskAt s.tasks k).old.length e8);rw [<-hwn] at bk;replace BK9:=am bk;clear bk;have bk:=blk_set BKt.out 8 (.slice a8 (taskAt s.tasks k).old.length e8);rw [<-hwn] at bk;replace BKt:=am (show wn.heap[gt]? = some (.cells #[.int .i64 (taskAt s.tasks k).body,.int .i64 (taskAt s.tasks k).pc,.int .i64 (taskAt s.tasks k).up,.slice a3 (taskAt s.tasks k).regs.length e3,.int .i64 (taskAt s.tasks k).way,.int .i64 (taskAt s.tasks k).stage,.int .i64 (taskAt s.tasks k).at_,.int .i64 (taskAt s.tasks k).since,.slice a8 (taskAt s.tasks k).old.length e8,.slice B9 (taskAt s.tasks k).reads.length d9,.slice B10 (taskAt s.tasks k).puts.length d10,.int .i64 (taskAt s.tasks k).when_,.int .i64 (taskAt s.tasks k).from_] 38 (0,0)) from bk);clear bk;replace V3:=am (show (Kd.int .i64).R 3 wn wr.heap.size (fun k=>gt < k) (.slice a3 (taskAt s.tasks k).regs.length e3) (taskAt s.tasks k).regs by rw [hwn];exact Kd.R_far V3.out (fun k hk=>Nat.ne_of_gt hk) _);replace V8:=am (show (Kd.int .i64).R 3 wn wr.heap.size (fun k=>gt < k) (.slice a8 (taskAt s.tasks k).old.length e8) (taskAt s.tasks k).old by rw [hwn];exact Kd.R_far V8.out (fun k hk=>Nat.ne_of_gt hk) _);clear hwn BKsc BK9c BKtc;have BKsc:=zc8 BKs.out;have BK9c:=zc8 BK9.out;have BKtc:=zc8 BKt.out)
    |(go_at_call 120;refine (l11Puts_calls B9 d9 (taskAt s.tasks k).reads _ (Kd.C_below GT9.out HB.out) Z9.out).mono ?_;rintro e wn ⟨v2,rfl,hv,hb⟩;obtain ⟨a9,e9,ev⟩:=Kd.R_slice hv;subst ev;have NE39:Aside0 (∀ qq,(Value.slice a3 (taskAt s.tasks k).regs.length e3).ownBlock=some qq->(Value.slice a9 (taskAt s.tasks k).reads.length e9).ownBlock ≠ some qq):=⟨fun qq h1 h2=>by have a1:=(R_in V3.out qq h1).2.2;have a2:=(R_in hv qq h2).2.1;omega⟩;have NE89:Aside0 (∀ qq,(Value.slice a8 (taskAt s.tasks k).old.length e8).ownBlock=some qq->(Value.slice a9 (taskAt s.tasks k).reads.length e9).ownBlock ≠ some qq):=⟨fun qq h1 h2=>by have a1:=(R_in V8.out qq h1).2.2;have a2:=(R_in hv qq h2).2.1;omega⟩;have V9:=am (show kPut.R 103 wn wr.heap.size (fun k=>gt < k) (.slice a9 (taskAt s.tasks k).reads.length e9) (taskAt s.tasks k).reads from Kd.R_lower (Kd.R_mono (Kd.R_bound hv) (fun k hk=>Nat.lt_of_lt_of_le (blk_lt BKt.out) hk.2.1)) HR.out.size);replace HS:=am (HS.out.grow hb);replace HB:=am (below_step HB.out hb);replace HR:=am (below_step HR.out hb);replace BKs:=am (zb8 BKs.out hb);replace BKr:=am (zb8 BKr.out hb);replace BK9:=am (zb8 BK9.out hb);replace BKt:=am (zb8 BKt.out hb);replace V3:=am (Kd.R_below V3.out hb);replace V8:=am (Kd.R_below V8.out hb);clear BKsc BK9c BKtc;have BKsc:=zc8 BKs.out;have BK9c:=zc8 BK9.out;have BKtc:=zc8 BKt.out;clear hv hb)
    |((with_reducible refine gate_store (t:=36) (p:=42) rfl ?_);refine set_ev (u:=.slice a9 (taskAt s.tasks k).reads.length e9) rfl rfl _ _ rfl (g:=gt) (off:=9) rfl rfl rfl rfl (by kernel_rfl) ⟨⟨_,by rw [zc8 BKt.out];rfl⟩,blk_frozen BKt.out _⟩ ?_;intro wn hwn;replace HS:=am (show Sy _ _ _ _ _ _ wn by rw [hwn];exact HS.out.far OT.out 9 (.slice a9 (taskAt s.tasks k).reads.length e9));replace HB:=am (show Below w.heap.size w wn by rw [hwn];exact below_set HB.out (Nat.le_trans HBW.out GT.out));replace HR:=am (show Below wr.heap.size wr wn by rw [hwn];exact below_set HR.out GT.out);have bk:=blk_far (p:=⟨gt,9,none⟩) BKs.out NTS.out (.slice a9 (taskAt s.tasks k).reads.length e9);rw [<-hwn] at bk;replace BKs:=am bk;clear bk;have bk:=blk_far (p:=⟨gt,9,none⟩) BKr.out NTR.out (.slice a9 (taskAt s.tasks k).reads.length e9);rw [<-hwn] at bk;replace BKr:=am bk;clear bk;have bk:=blk_far (p:=⟨gt,9,none⟩) BK9.out NT9.out (.slice a9 (taskAt s.tasks k).reads.length e9);rw [<-hwn] at bk;replace BK9:=am bk;clear bk;have bk:=blk_set BKt.out 9 (.slice a9 (taskAt s.tasks k).reads.length e9);rw [<-hwn] at bk;replace BKt:=am (show wn.heap[gt]? = some (.cells #[.int .i64 (taskAt s.tasks k).body,.int .i64 (taskAt s.tasks k).pc,.int .i64 (taskAt s.tasks k).up,.slice a3 (taskAt s.tasks k).regs.length e3,.int .i64 (taskAt s.tasks k).way,.int .i64 (taskAt s.tasks k).stage,.int .i64 (taskAt s.tasks k).at_,.int .i64 (taskAt s.tasks k).since,.slice a8 (taskAt s.tasks k).old.length e8,.slice a9 (taskAt s.tasks k).reads.length e9,.slice B10 (taskAt s.tasks k).puts.length d10,.int .i64 (taskAt s.tasks k).when_,.int .i64 (taskAt s.tasks k).from_] 38 (0,0)) from bk);clear bk;replace V3:=am (show (Kd.int .i64).R 3 wn wr.heap.size (fun k=>gt < k) (.slice a3 (taskAt s.tasks k).regs.length e3) (taskAt s.tasks k).regs by rw [hwn];exact Kd.R_far V3.out (fun k hk=>Nat.ne_of_gt hk) _);replace V8:=am (show (Kd.int .i64).R 3 wn wr.heap.size (fun k=>gt < k) (.slice a8 (taskAt s.tasks k).old.length e8) (taskAt s.tasks k).old by rw [hwn];exact Kd.R_far V8.out (fun k hk=>Nat.ne_of_gt hk) _);replace V9:=am (show kPut.R 103 wn wr.heap.size (fun k=>gt < k) (.slice a9 (taskAt s.tasks k).reads.length e9) (taskAt s.tasks k).reads by rw [hwn];exact Kd.R_far V9.out (fun k hk=>Nat.ne_of_gt hk) _);clear hwn BKsc BK9c BKtc;have BKsc:=zc8 BKs.out;have BK9c:=zc8 BK9.out;have BKtc:=zc8 BKt.out)
    |(go_at_call 120;refine (l11Puts_calls B10 d10 (taskAt s.tasks k).puts _ (Kd.C_below GT10.out HB.out) Z10.out).mono ?_;rintro e wn ⟨v2,rfl,hv,hb⟩;obtain ⟨a10,e10,ev⟩:=Kd.R_slice hv;subst ev;have NE310:Aside0 (∀ qq,(Value.slice a3 (taskAt s.tasks k).regs.length e3).ownBlock=some qq->(Value.slice a10 (taskAt s.tasks k).puts.length e10).ownBlock ≠ some qq):=⟨fun qq h1 h2=>by have a1:=(R_in V3.out qq h1).2.2;have a2:=(R_in hv qq h2).2.1;omega⟩;have NE810:Aside0 (∀ qq,(Value.slice a8 (taskAt s.tasks k).old.length e8).ownBlock=some qq->(Value.slice a10 (taskAt s.tasks k).puts.length e10).ownBlock ≠ some qq):=⟨fun qq h1 h2=>by have a1:=(R_in V8.out qq h1).2.2;have a2:=(R_in hv qq h2).2.1;omega⟩;have NE910:Aside0 (∀ qq,(Value.slice a9 (taskAt s.tasks k).reads.length e9).ownBlock=some qq->(Value.slice a10 (taskAt s.tasks k).puts.length e10).ownBlock ≠ some qq):=⟨fun qq h1 h2=>by have a1:=(R_in V9.out qq h1).2.2;have a2:=(R_in hv qq h2).2.1;omega⟩;have V10:=am (show kPut.R 103 wn wr.heap.size (fun k=>gt < k) (.slice a10 (taskAt s.tasks k).puts.length e10) (taskAt s.tasks k).puts from Kd.R_lower (Kd.R_mono (Kd.R_bound hv) (fun k hk=>Nat.lt_of_lt_of_le (blk_lt BKt.out) hk.2.1)) HR.out.size);replace HS:=am (HS.out.grow hb);replace HB:=am (below_step HB.out hb);replace HR:=am (below_step HR.out hb);replace BKs:=am (zb8 BKs.out hb);replace BKr:=am (zb8 BKr.out hb);replace BK9:=am (zb8 BK9.out hb);replace BKt:=am (zb8 BKt.out hb);replace V3:=am (Kd.R_below V3.out hb);replace V8:=am (Kd.R_below V8.out hb);replace V9:=am (Kd.R_below V9.out hb);clear BKsc BK9c BKtc;have BKsc:=zc8 BKs.out;have BK9c:=zc8 BK9.out;have BKtc:=zc8 BKt.out;clear hv hb)
    |((with_reducible refine gate_store (t:=36) (p:=46) rfl ?_);refine set_ev (u:=.slice a10 (taskAt s.tasks k).puts.length e10) rfl rfl _ _ rfl (g:=gt) (off:=10) rfl rfl rfl rfl (by kernel_rfl) ⟨⟨_,by rw [zc8 BKt.out];rfl⟩,blk_frozen BKt.out _⟩ ?_;intro wn hwn;replace HS:=am (show Sy _ _ _ _ _ _ wn by rw [hwn];exact HS.out.far OT.out 10 (.slice a10 (taskAt s.tasks k).puts.length e10));replace HB:=am (show Below w.heap.size w wn by rw [hwn];exact below_set HB.out (Nat.le_trans HBW.out GT.out));replace HR:=am (show Below wr.heap.size wr wn by rw [hwn];exact below_set HR.out GT.out);have bk:=blk_far (p:=⟨gt,10,none⟩) BKs.out NTS.out (.slice a10 (taskAt s.tasks k).puts.length e10);rw [<-hwn] at bk;replace BKs:=am bk;clear bk;have bk:=blk_far (p:=⟨gt,10,none⟩) BKr.out NTR.out (.slice a10 (taskAt s.tasks k).puts.length e10);rw [<-hwn] at bk;replace BKr:=am bk;clear bk;have bk:=blk_far (p:=⟨gt,10,none⟩) BK9.out NT9.out (.slice a10 (taskAt s.tasks k).puts.length e10);rw [<-hwn] at bk;replace BK9:=am bk;clear bk;have bk:=blk_set BKt.out 10 (.slice a10 (taskAt s.tasks k).puts.length e10);rw [<-hwn] at bk;replace BKt:=am (show wn.heap[gt]? = some (.cells #[.int .i64 (taskAt s.tasks k).body,.int .i64 (taskAt s.tasks k).pc,.int .i64 (taskAt s.tasks k).up,.slice a3 (taskAt s.tasks k).regs.length e3,.int .i64 (taskAt s.tasks k).way,.int .i64 (taskAt s.tasks k).stage,.int .i64 (taskAt s.tasks k).at_,.int .i64 (taskAt s.tasks k).since,.slice a8 (taskAt s.tasks k).old.length e8,.slice a9 (taskAt s.tasks k).reads.length e9,.slice a10 (taskAt s.tasks k).puts.length e10,.int .i64 (taskAt s.tasks k).when_,.int .i64 (taskAt s.tasks k).from_] 38 (0,0)) from bk);clear bk;replace V3:=am (show (Kd.int .i64).R 3 wn wr.heap.size (fun k=>gt < k) (.slice a3 (taskAt s.tasks k).regs.length e3) (taskAt s.tasks k).regs by rw [hwn];exact Kd.R_far V3.out (fun k hk=>Nat.ne_of_gt hk) _);replace V8:=am (show (Kd.int .i64).R 3 wn wr.heap.size (fun k=>gt < k) (.slice a8 (taskAt s.tasks k).old.length e8) (taskAt s.tasks k).old by rw [hwn];exact Kd.R_far V8.out (fun k hk=>Nat.ne_of_gt hk) _);replace V9:=am (show kPut.R 103 wn wr.heap.size (fun k=>gt < k) (.slice a9 (taskAt s.tasks k).reads.length e9) (taskAt s.tasks k).reads by rw [hwn];exact Kd.R_far V9.out (fun k hk=>Nat.ne_of_gt hk) _);replace V10:=am (show kPut.R 103 wn wr.heap.size (fun k=>gt < k) (.slice a10 (taskAt s.tasks k).puts.length e10) (taskAt s.tasks k).puts by rw [hwn];exact Kd.R_far V10.out (fun k hk=>Nat.ne_of_gt hk) _);clear hwn BKsc BK9c BKtc;have BKsc:=zc8 BKs.out;have BK9c:=zc8 BK9.out;have BKtc:=zc8 BKt.out)
    |((with_reducible refine gate_dst (N:=49) rfl ?_);refine wpList_load_mid rfl 38 (.tmp 5) rfl gt 0 rfl _ _ (lC BKt.out) Try.underlying38 rfl (by kernel_rfl) ?_)
    |((with_reducible refine gate_builtin (b:=.append) (xs:=#[.tmp 48,.tmp 50]) rfl ?_);at_builtin;obtain ⟨hs2,hlow2⟩:=HS.out.newTags (L:=k) (⟨Kd.R_mono V3.out (fun _ _=>trivial),Kd.R_mono V8.out (fun _ _=>trivial),Kd.R_mono V9.out (fun _ _=>trivial),Kd.R_mono V10.out (fun _ _=>trivial),NE38.out,NE39.out,NE310.out,NE89.out,NE810.out,NE910.out⟩:Own4 (taskAt s.tasks k) wr.heap.size _ (.slice a3 (taskAt s.tasks k).regs.length e3) (.slice a8 (taskAt s.tasks k).old.length e8) (.slice a9 (taskAt s.tasks k).reads.length e9) (.slice a10 (taskAt s.tasks k).puts.length e10)) (fun q hq=>NW.out q hq) HBW.out;have hrow:=Own4.row (own:=own) (L:=k) (B:=w.heap.size) (⟨Kd.R_mono V3.out (fun _ _=>trivial),Kd.R_mono V8.out (fun _ _=>trivial),Kd.R_mono V9.out (fun _ _=>trivial),Kd.R_mono V10.out (fun _ _=>trivial),NE38.out,NE39.out,NE310.out,NE89.out,NE810.out,NE910.out⟩:Own4 (taskAt s.tasks k) wr.heap.size _ (.slice a3 (taskAt s.tasks k).regs.length e3) (.slice a8 (taskAt s.tasks k).old.length e8) (.slice a9 (taskAt s.tasks k).reads.length e9) (.slice a10 (taskAt s.tasks k).puts.length e10)) HBW.out;generalize tag4 own _ _ _ _ k=own2 at hs2 hlow2 hrow;refine Kd.R_append (kTaskO own2) (w0:=w) w.heap.size rfl (.tmp 48) (.tmp 50) 24 38 (.agg #[.int .i64 0,.int .i64 0,.int .i64 0,.slice none 0 0,.int .i64 0,.int .i64 0,.int .i64 0,.int .i64 0,.slice none 0 0,.slice none 0 0,.slice none 0 0,.int .i64 0,.int .i64 0]) 168 rfl Try.underlying24 (by kernel_rfl) rfl (by rw [kTaskO_sz];decide) (by decide) (.slice Avt tk0.length cvt) tk0.zipIdx ((taskAt s.tasks k),k) [.int .i64 (taskAt s.tasks k).body,.int .i64 (taskAt s.tasks k).pc,.int .i64 (taskAt s.tasks k).up,.slice a3 (taskAt s.tasks k).regs.length e3,.int .i64 (taskAt s.tasks k).way,.int .i64 (taskAt s.tasks k).stage,.int .i64 (taskAt s.tasks k).at_,.int .i64 (taskAt s.tasks k).since,.slice a8 (taskAt s.tasks k).old.length e8,.slice a9 (taskAt s.tasks k).reads.length e9,.slice a10 (taskAt s.tasks k).puts.length e10,.int .i64 (taskAt s.tasks k).when_,.int .i64 (taskAt s.tasks k).from_] (fun q=>(own2 q=3\/8<=own2 q)\/own2 q=0) (fun q=>8<=own2 q) rfl rfl hrow (fun q hq=>⟨.inl (.inr hq),fun he=>by have:=hs2.town q he.symm;omega⟩) (fun q hq=> .inr (hs2.new0 q hq)) (Kd.R_mono hs2.tasks (fun q hq=> .inl hq)) HB.out HB.out.size (by rw [zip_len,HLK.out];omega) ?_;intro v1 wn hv hb hg hat;obtain ⟨own3,hs3,hlow3⟩:=hs2.tasksGrow hg (ts':=s.tasks.take (k+1)) (by rw [TS.out,zip_snoc,HLK.out];exact hv) hat HB.out.size;have HS3:=am hs3;have OO:Aside0 (own3 gs=0/\own3 gr=0/\own3 b9=0):=⟨(hlow3 gs (blk_lt BKs.out)).trans ((hlow2 gs LS.out.1).trans OS.out),(hlow3 gr (blk_lt BKr.out)).trans ((hlow2 gr LS.out.2.1).trans OR.out),(hlow3 b9 (blk_lt BK9.out)).trans ((hlow2 b9 LS.out.2.2).trans O9.out)⟩;have NG:∀ q,own q=0->q < wr.heap.size->some q ≠ (Value.slice Avt tk0.length cvt).ownBlock:=fun q hq hl he=>(by have h1:=hs2.town q he.symm;rw [hlow2 q hl,hq] at h1;cases h1);have BKs3:=am (blk_grown BKs.out hg (NG gs OS.out LS.out.1));have BKr3:=am (blk_grown BKr.out hg (NG gr OR.out LS.out.2.1));have BK93:=am (blk_grown BK9.out hg (NG b9 O9.out LS.out.2.2));have HB3:=am hb;have V:=am hv;clear HS HB HR BKs BKr BK9 BKt BKtc BKsc BK9c V3 V8 V9 V10 hs2 hlow2 hrow hs3 hlow3 hv hb hg hat NG;have BK9c:=zc8 BK93.out;have BKsc:=zc8 BKs3.out)
    |((with_reducible refine gate_store (t:=24) (p:=52) rfl ?_);refine set_ev (u:=v1) rfl rfl _ _ rfl (g:=b9) (off:=1) rfl rfl (R_cells V.out) (R_oneCell V.out) (by kernel_rfl) ⟨⟨_,by rw [zc8 BK93.out];rfl⟩,blk_frozen BK93.out _⟩ ?_;intro wz hwn;have bk:=blk_set BK93.out 1 v1;rw [<-hwn] at bk;have BK9:=am (show wz.heap[b9]? = some (.cells #[.slice Ac s.cells.length dc,v1,.int .i64 s.clock,.slice Al 0 dl] 27 (0,0)) from bk);have bs:=blk_far (p:=⟨b9,1,none⟩) BKs3.out NS.out v1;rw [<-hwn] at bs;have BKs:=am bs;have br:=blk_far (p:=⟨b9,1,none⟩) BKr3.out NR.out v1;rw [<-hwn] at br;have BKr:=am br;have HS:=am (show Sy _ _ _ _ _ _ wz by rw [hwn];exact HS3.out.far OO.out.2.2 1 v1);have HB:=am (show Below w.heap.size w wz by rw [hwn];exact below_set HB3.out L9.out);clear bk bs br hwn BK93 BKs3 BKr3 HS3 HB3 V BK9c BKsc;have BKsc:=zc8 BKs.out;have BK9c:=zc8 BK9.out))
    go_roundw
    case rel=>exact ⟨k+1,by omega,by go_num,_,v1,HS,BK9,BKs,BKr,HB,OO⟩
    case measure=>simp [intOf];omega
   ·obtain rfl:k=s.tasks.length:=by omega
    obtain ⟨Av2,cv2,ev2⟩:=Kd.R_slice HS.out.tasks;rw [zip_len] at ev2;change vt= .slice Av2 tk0.length cv2 at ev2;have ht0:tk0=s.tasks:=HTK.out.trans List.take_length;rw [ht0] at ev2 HS;subst ev2;have HSt:=am (show Sy w.heap.size own {s with log:=s.log.take 0} (.slice Ac s.cells.length dc) (.slice Av2 s.tasks.length cv2) (.slice Al 0 dl) wr from HS.out);clear HS ht0 HTK HLK;go_wp2;go_loopw [6] (fun j w'=>∃ k:Nat,k<=s.log.length/\j= .int .i64 k/\∃ own vl,Aside0 (Sy w.heap.size own {s with log:=s.log.take k} (.slice Ac s.cells.length dc) (.slice Av2 s.tasks.length cv2) vl w')/\Aside0 (w'.heap[b9]? = some (.cells #[.slice Ac s.cells.length dc,.slice Av2 s.tasks.length cv2,.int .i64 s.clock,vl] 27 (0,0)))/\Aside0 (w'.heap[gs]? = some (.cells #[.slice A0 s.cells.length c0,.slice A1 s.tasks.length c1,.int .i64 s.clock,.slice A3 s.log.length c3] 27 (0,0)))/\Aside0 (w'.heap[gr]? = some (.cells #[.slice none 0 0,.slice none 0 0,.int .i64 0,.slice none 0 0] 27 (0,0)))/\Aside0 (Below w.heap.size w w')/\Aside0 (own gs=0/\own gr=0/\own b9=0)) (fun j _=>s.log.length - (intOf j).toNat)
    case atStart=>exact ⟨0,Nat.zero_le _,rfl,own,_,HSt,BK9,BKs,BKr,HB,⟨OS.out,OR.out,O9.out⟩⟩
    case round=>
     clear HSt BK9 BKs BKr HB OS OR O9 BKsc BK9c;clear own;obtain ⟨k,hk,rfl,own,vl,HS,BK9,BKs,BKr,HB,OO0⟩:=hrel;have OS:=am OO0.out.1;have OR:=am OO0.out.2.1;have O9:=am OO0.out.2.2;have BKsc:=zc8 BKs.out;have BK9c:=zc8 BK9.out;clear OO0;obtain ⟨lk0,htk⟩:∃ l:List Entry,l=s.log.take k:=⟨_,rfl⟩;have HLK:Aside0 (lk0.length=k):=⟨by rw [htk,List.length_take,Nat.min_eq_left hk]⟩;rw [<-htk] at HS;have HTK:=am htk;clear htk;obtain ⟨Avl,cvl,evl⟩:=Kd.R_slice HS.out.log;change vl= .slice Avl lk0.length cvl at evl;subst evl;by_cases hlt:k < s.log.length
     ·obtain ⟨bk,ok,csk,rfl,hcl,hK,hcc,-⟩:=C_field G3.out zEntry k hlt (by decide)
      rw [show s.log.getD k zEntry=entryAt s.log k from rfl] at hK;obtain ⟨E9,f9,E10,f10,rfl,-,g9,-,g10⟩:=kEntry_open hK;have HCC:=am hcc;have GT9:=am g9;have GT10:=am g10
      have hme:entryAt s.log k ∈ s.log:=by
       have:entryAt s.log k=s.log[k]:=by simp [entryAt,hlt]
       rw [this];exact List.getElem_mem hlt
      have Z9:=am (hlog _ hme).1;have Z10:=am (hlog _ hme).2;have HBW:=am HB.out.size;have NW:=am HS.out.new0;have LS:=am (And.intro (blk_lt BKs.out) (And.intro (blk_lt BKr.out) (blk_lt BK9.out)));have TS:Aside0 (s.log.take (k+1)=lk0 ++ [entryAt s.log k]):=⟨by rw [HTK.out,List.take_succ_eq_append_getElem hlt];simp [entryAt,hlt]⟩;have q0:(0:Int)<=(k:Int):=by omega
      have q1:(k:Int) < (s.log.length:Int):=by omega
      clear hcc hK hcl g9 g10 hk hme
      go_wp2_with (first
      |((with_reducible refine gate_dst (N:=64) rfl ?_);refine wpList_load_mid rfl 119 (.tmp 63) rfl bk (ok+k*6) rfl _ _ (fun j u hu=>cellB HB.out (HCC.out j u hu)) Try.underlying119 rfl (by kernel_rfl) ?_)
      |((with_reducible refine gate_dst (N:=7) rfl ?_);refine box_event rfl (N:=7) rfl (t:=119) (by go_simp<;>rfl) ?_;intro gt hg wt hbox hb;have BKt0:=am hbox;have GTE:=am hg;have HBT:=am hb;clear hbox hb hg)
      |((with_reducible refine gate_store (t:=119) (p:=7) rfl ?_);refine store_block rfl rfl 119 (.tmp 7) (.tmp 64) rfl rfl rfl BKt0.out rfl (by kernel_rfl) (aB rfl) ?_;intro wn hbox hg;have BKt:=am hbox;have hbx:=pw_below_grown HBT.out _ HBT.out.size hg (fun z hz=>by cases hz;exact Nat.le_of_eq GTE.out.symm);have HR:=am hbx;have GT:=am (Nat.le_of_eq GTE.out.symm);have OT:=am (HS.out.new0 gt GT.out);have NTS:Aside0 (gs ≠ gt):=⟨fun he=>by have h1:=blk_lt BKs.out;have h2:=GT.out;omega⟩;have NTR:Aside0 (gr ≠ gt):=⟨fun he=>by have h1:=blk_lt BKr.out;have h2:=GT.out;omega⟩;have NT9:Aside0 (b9 ≠ gt):=⟨fun he=>by have h1:=blk_lt BK9.out;have h2:=GT.out;omega⟩;replace HS:=am (HS.out.grow hbx);replace HB:=am (below_step HB.out hbx);replace BKs:=am (zb8 BKs.out hbx);replace BKr:=am (zb8 BKr.out hbx);replace BK9:=am (zb8 BK9.out hbx);clear BKsc BK9c;have BKsc:=zc8 BKs.out;have BK9c:=zc8 BK9.out;have BKtc:=zc8 BKt.out;clear hbox hg hbx BKt0 HBT)
      |(go_at_call 120;refine (l11Puts_calls E9 f9 (entryAt s.log k).reads _ (Kd.C_below GT9.out HB.out) Z9.out).mono ?_;rintro e wn ⟨v2,rfl,hv,hb⟩;obtain ⟨a9,e9,ev⟩:=Kd.R_slice hv;subst ev;have V9:=am (show kPut.R 103 wn wr.heap.size (fun k=>gt < k) (.slice a9 (entryAt s.log k).reads.length e9) (entryAt s.log k).reads from Kd.R_lower (Kd.R_mono (Kd.R_bound hv) (fun k hk=>Nat.lt_of_lt_of_le (blk_lt BKt.out) hk.2.1)) HR.out.size);replace HS:=am (HS.out.grow hb);replace HB:=am (below_step HB.out hb);replace HR:=am (below_step HR.out hb);replace BKs:=am (zb8 BKs.out hb);replace BKr:=am (zb8 BKr.out hb);replace BK9:=am (zb8 BK9.out hb);replace BKt:=am (zb8 BKt.out hb);clear BKsc BK9c BKtc;have BKsc:=zc8 BKs.out;have BK9c:=zc8 BK9.out;have BKtc:=zc8 BKt.out;clear hv hb)
      |((with_reducible refine gate_store (t:=36) (p:=68) rfl ?_);refine set_ev (u:=.slice a9 (entryAt s.log k).reads.length e9) rfl rfl _ _ rfl (g:=gt) (off:=3) rfl rfl rfl rfl (by kernel_rfl) ⟨⟨_,by rw [zc8 BKt.out];rfl⟩,blk_frozen BKt.out _⟩ ?_;intro wn hwn;replace HS:=am (show Sy _ _ _ _ _ _ wn by rw [hwn];exact HS.out.far OT.out 3 (.slice a9 (entryAt s.log k).reads.length e9));replace HB:=am (show Below w.heap.size w wn by rw [hwn];exact below_set HB.out (Nat.le_trans HBW.out GT.out));replace HR:=am (show Below wr.heap.size wr wn by rw [hwn];exact below_set HR.out GT.out);have bk:=blk_far (p:=⟨gt,3,none⟩) BKs.out NTS.out (.slice a9 (entryAt s.log k).reads.length e9);rw [<-hwn] at bk;replace BKs:=am bk;clear bk;have bk:=blk_far (p:=⟨gt,3,none⟩) BKr.out NTR.out (.slice a9 (entryAt s.log k).reads.length e9);rw [<-hwn] at bk;replace BKr:=am bk;clear bk;have bk:=blk_far (p:=⟨gt,3,none⟩) BK9.out NT9.out (.slice a9 (entryAt s.log k).reads.length e9);rw [<-hwn] at bk;replace BK9:=am bk;clear bk;have bk:=blk_set BKt.out 3 (.slice a9 (entryAt s.log k).reads.length e9);rw [<-hwn] at bk;replace BKt:=am (show wn.heap[gt]? = some (.cells #[.int .i64 (entryAt s.log k).task,.int .i64 (entryAt s.log k).act,.int .i64 (entryAt s.log k).when_,.slice a9 (entryAt s.log k).reads.length e9,.slice E10 (entryAt s.log k).puts.length f10,.int .i64 (entryAt s.log k).from_] 119 (0,0)) from bk);clear bk;replace V9:=am (show kPut.R 103 wn wr.heap.size (fun k=>gt < k) (.slice a9 (entryAt s.log k).reads.length e9) (entryAt s.log k).reads by rw [hwn];exact Kd.R_far V9.out (fun k hk=>Nat.ne_of_gt hk) _);clear hwn BKsc BK9c BKtc;have BKsc:=zc8 BKs.out;have BK9c:=zc8 BK9.out;have BKtc:=zc8 BKt.out)
      |(go_at_call 120;refine (l11Puts_calls E10 f10 (entryAt s.log k).puts _ (Kd.C_below GT10.out HB.out) Z10.out).mono ?_;rintro e wn ⟨v2,rfl,hv,hb⟩;obtain ⟨a10,e10,ev⟩:=Kd.R_slice hv;subst ev;have NE910:Aside0 (∀ qq,(Value.slice a9 (entryAt s.log k).reads.length e9).ownBlock=some qq->(Value.slice a10 (entryAt s.log k).puts.length e10).ownBlock ≠ some qq):=⟨fun qq h1 h2=>by have a1:=(R_in V9.out qq h1).2.2;have a2:=(R_in hv qq h2).2.1;omega⟩;have V10:=am (show kPut.R 103 wn wr.heap.size (fun k=>gt < k) (.slice a10 (entryAt s.log k).puts.length e10) (entryAt s.log k).puts from Kd.R_lower (Kd.R_mono (Kd.R_bound hv) (fun k hk=>Nat.lt_of_lt_of_le (blk_lt BKt.out) hk.2.1)) HR.out.size);replace HS:=am (HS.out.grow hb);replace HB:=am (below_step HB.out hb);replace HR:=am (below_step HR.out hb);replace BKs:=am (zb8 BKs.out hb);replace BKr:=am (zb8 BKr.out hb);replace BK9:=am (zb8 BK9.out hb);replace BKt:=am (zb8 BKt.out hb);replace V9:=am (Kd.R_below V9.out hb);clear BKsc BK9c BKtc;have BKsc:=zc8 BKs.out;have BK9c:=zc8 BK9.out;have BKtc:=zc8 BKt.out;clear hv hb)
      |((with_reducible refine gate_store (t:=36) (p:=72) rfl ?_);refine set_ev (u:=.slice a10 (entryAt s.log k).puts.length e10) rfl rfl _ _ rfl (g:=gt) (off:=4) rfl rfl rfl rfl (by kernel_rfl) ⟨⟨_,by rw [zc8 BKt.out];rfl⟩,blk_frozen BKt.out _⟩ ?_;intro wn hwn;replace HS:=am (show Sy _ _ _ _ _ _ wn by rw [hwn];exact HS.out.far OT.out 4 (.slice a10 (entryAt s.log k).puts.length e10));replace HB:=am (show Below w.heap.size w wn by rw [hwn];exact below_set HB.out (Nat.le_trans HBW.out GT.out));replace HR:=am (show Below wr.heap.size wr wn by rw [hwn];exact below_set HR.out GT.out);have bk:=blk_far (p:=⟨gt,4,none⟩) BKs.out NTS.out (.slice a10 (entryAt s.log k).puts.length e10);rw [<-hwn] at bk;replace BKs:=am bk;clear bk;have bk:=blk_far (p:=⟨gt,4,none⟩) BKr.out NTR.out (.slice a10 (entryAt s.log k).puts.length e10);rw [<-hwn] at bk;replace BKr:=am bk;clear bk;have bk:=blk_far (p:=⟨gt,4,none⟩) BK9.out NT9.out (.slice a10 (entryAt s.log k).puts.length e10);rw [<-hwn] at bk;replace BK9:=am bk;clear bk;have bk:=blk_set BKt.out 4 (.slice a10 (entryAt s.log k).puts.length e10);rw [<-hwn] at bk;replace BKt:=am (show wn.heap[gt]? = some (.cells #[.int .i64 (entryAt s.log k).task,.int .i64 (entryAt s.log k).act,.int .i64 (entryAt s.log k).when_,.slice a9 (entryAt s.log k).reads.length e9,.slice a10 (entryAt s.log k).puts.length e10,.int .i64 (entryAt s.log k).from_] 119 (0,0)) from bk);clear bk;replace V9:=am (show kPut.R 103 wn wr.heap.size (fun k=>gt < k) (.slice a9 (entryAt s.log k).reads.length e9) (entryAt s.log k).reads by rw [hwn];exact Kd.R_far V9.out (fun k hk=>Nat.ne_of_gt hk) _);replace V10:=am (show kPut.R 103 wn wr.heap.size (fun k=>gt < k) (.slice a10 (entryAt s.log k).puts.length e10) (entryAt s.log k).puts by rw [hwn];exact Kd.R_far V10.out (fun k hk=>Nat.ne_of_gt hk) _);clear hwn BKsc BK9c BKtc;have BKsc:=zc8 BKs.out;have BK9c:=zc8 BK9.out;have BKtc:=zc8 BKt.out)
      |((with_reducible refine gate_dst (N:=75) rfl ?_);refine wpList_load_mid rfl 119 (.tmp 7) rfl gt 0 rfl _ _ (lC BKt.out) Try.underlying119 rfl (by kernel_rfl) ?_)
      |((with_reducible refine gate_builtin (b:=.append) (xs:=#[.tmp 74,.tmp 76]) rfl ?_);at_builtin;have hE:=kEntry_mkM (entryAt s.log k) (Kd.R_lower (Kd.R_mono (Kd.R_bound V9.out) (fun q hq=>(⟨NW.out q hq.2.1,hq.2.1⟩:own q=0/\wr.heap.size<=q))) HBW.out) (Kd.R_lower (Kd.R_mono (Kd.R_bound V10.out) (fun q hq=>(⟨NW.out q hq.2.1,hq.2.1⟩:own q=0/\wr.heap.size<=q))) HBW.out);refine Kd.R_append kEntry (w0:=w) w.heap.size rfl (.tmp 74) (.tmp 76) 25 119 (.agg #[.int .i64 0,.int .i64 0,.int .i64 0,.slice none 0 0,.slice none 0 0,.int .i64 0]) 80 rfl Try.underlying25 (by kernel_rfl) rfl (by decide) (by decide) (.slice Avl lk0.length cvl) lk0 (entryAt s.log k) [.int .i64 (entryAt s.log k).task,.int .i64 (entryAt s.log k).act,.int .i64 (entryAt s.log k).when_,.slice a9 (entryAt s.log k).reads.length e9,.slice a10 (entryAt s.log k).puts.length e10,.int .i64 (entryAt s.log k).from_] (fun q=>own q=4\/(own q=0/\wr.heap.size<=q)) (fun q=>own q=0/\wr.heap.size<=q) rfl rfl hE (fun q hq=>⟨.inr hq,fun he=>by have h1:own q=4:=HS.out.log.1 q he.symm;omega⟩) (fun q hq=> .inr ⟨HS.out.new0 q hq,Nat.le_trans HR.out.size hq⟩) (Kd.R_mono HS.out.log (fun q hq=> .inl hq)) HB.out HB.out.size (by rw [HLK.out];omega) ?_;intro v1 wn hv hb hg hat;obtain ⟨own3,hs3,hlow3⟩:=HS.out.logGrow (B1:=wr.heap.size) HR.out.size hg (log':=s.log.take (k+1)) (fun q hq=>NW.out q hq) HBW.out (by rw [TS.out];exact hv);have HS3:=am hs3;have OO:Aside0 (own3 gs=0/\own3 gr=0/\own3 b9=0):=⟨(hlow3 gs LS.out.1).trans OS.out,(hlow3 gr LS.out.2.1).trans OR.out,(hlow3 b9 LS.out.2.2).trans O9.out⟩;have NG:∀ q,own q=0->some q ≠ (Value.slice Avl lk0.length cvl).ownBlock:=fun q hq he=>(by have h1:own q=4:=HS.out.log.1 q he.symm;rw [hq] at h1;cases h1);have BKs3:=am (blk_grown BKs.out hg (NG gs OS.out));have BKr3:=am (blk_grown BKr.out hg (NG gr OR.out));have BK93:=am (blk_grown BK9.out hg (NG b9 O9.out));have HB3:=am hb;have V:=am hv;clear HS HB HR BKs BKr BK9 BKt BKtc BKsc BK9c V9 V10 hE hs3 hlow3 hv hb hg hat NG;have BK9c:=zc8 BK93.out;have BKsc:=zc8 BKs3.out)
      |((with_reducible refine gate_store (t:=25) (p:=78) rfl ?_);refine set_ev (u:=v1) rfl rfl _ _ rfl (g:=b9) (off:=3) rfl rfl (R_cells V.out) (R_oneCell V.out) (by kernel_rfl) ⟨⟨_,by rw [zc8 BK93.out];rfl⟩,blk_frozen BK93.out _⟩ ?_;intro wz hwn;have bk:=blk_set BK93.out 3 v1;rw [<-hwn] at bk;have BK9:=am (show wz.heap[b9]? = some (.cells #[.slice Ac s.cells.length dc,.slice Av2 s.tasks.length cv2,.int .i64 s.clock,v1] 27 (0,0)) from bk);have bs:=blk_far (p:=⟨b9,3,none⟩) BKs3.out NS.out v1;rw [<-hwn] at bs;have BKs:=am bs;have br:=blk_far (p:=⟨b9,3,none⟩) BKr3.out NR.out v1;rw [<-hwn] at br;have BKr:=am br;have HS:=am (show Sy _ _ _ _ _ _ wz by rw [hwn];exact HS3.out.far OO.out.2.2 3 v1);have HB:=am (show Below w.heap.size w wz by rw [hwn];exact below_set HB3.out L9.out);clear bk bs br hwn BK93 BKs3 BKr3 HS3 HB3 V BK9c BKsc;have BKsc:=zc8 BKs.out;have BK9c:=zc8 BK9.out))
      go_roundw
      case rel=>exact ⟨k+1,by omega,by go_num,_,v1,HS,BK9,BKs,BKr,HB,OO⟩
      case measure=>simp [intOf];omega
     ·obtain rfl:k=s.log.length:=by omega
      have HSf:=am (show Sy w.heap.size own s (.slice Ac s.cells.length dc) (.slice Av2 s.tasks.length cv2) (.slice Avl s.log.length cvl) wr by have h:=HS.out;rw [HTK.out,List.take_length] at h;exact h);have BK9f:Aside0 (wr.heap[b9]? = some (.cells #[.slice Ac s.cells.length dc,.slice Av2 s.tasks.length cv2,.int .i64 s.clock,.slice Avl s.log.length cvl] 27 (0,0))):=⟨by have h:=BK9.out;rw [HTK.out,List.take_length] at h;exact h⟩;clear HS BK9 BK9c;have BK9c:=zc8 BK9f.out
      go_wp2_with (first
      |((with_reducible refine gate_dst (N:=79) rfl ?_);refine wpList_load_mid rfl 27 (.tmp 3) rfl b9 0 rfl _ _ (lC BK9f.out) Try.underlying27 rfl (by kernel_rfl) ?_)
      |((with_reducible refine gate_store (t:=27) (p:=2) rfl ?_);refine store_block rfl rfl 27 (.tmp 2) (.tmp 79) rfl rfl rfl BKr.out rfl (by kernel_rfl) (aB rfl) ?_;intro wz hbox hg;have BKz:=am hbox;have HSz:=am (HSf.out.move hg.size (fun q hq hl=>hg.block q hl (fun he=>by injection he with he;rw [he] at hq;exact hq OR.out)));have HBz:=am (pw_below_grown HB.out _ HB.out.size hg (fun z hz=>by cases hz;exact LR.out));clear hbox hg))
      exact bodyPost_ret (results_single Try.results87 (.cell gr 27 #[.slice Ac s.cells.length dc,.slice Av2 s.tasks.length cv2,.int .i64 s.clock,.slice Avl s.log.length cvl] (0,0) _ rfl BKz.out Try.underlying27 rfl (by kernel_rfl) .nil)) rfl ⟨own,_,_,_,rfl,HSz.out,HBz.out⟩
theorem Sy.toSt {w0:World} {own:Nat->Nat} {p:Prog} {s:Sys} {vp vb vc vt vl:Value} {W:World} {g:Nat} (h:Sy w0.heap.size own s vc vt vl W) (hb:Below w0.heap.size w0 W) (hp:kProg.K w0 p [vp,vb]) (hg:own g=0) (hl:w0.heap.size<=g) (hblk:W.heap[g]? = some (.cells #[vp,vb,vc,vt,.int .i64 s.clock,vl] 152 (0,0))):
  ∃ own',St 152 w0 g own' vp vb p s vc vt vl W/\∀ k,k ≠ g->own' k=own k:=by
 have hoff:∀ k,k ≠ g->tagB own (some g) 1 k=own k:=fun k hk=>tagB_off (fun he=>hk (by injection he with he;exact he.symm))
 have h1:=h.retag (own':=tagB own (some g) 1) (fun k hk=>(hoff k (by omega)).trans (h.low k hk)) (fun k hk=>(hoff k (by have:=blk_lt hblk;omega)).trans (h.new0 k hk)) (fun k hk=>hoff k (fun he=>hk (by rw [he];exact hg)));exact ⟨tagB own (some g) 1,⟨hb,h1.low,h1.new0,hp,tagB_at rfl,hblk,h1.cells,h1.tasks,h1.town,h1.log⟩,hoff⟩
theorem seg4 {W:World} {g:Nat} {a0 a1 a2 a3 a4 a5 b2 b3 b4 b5:Value} {T:TypeId} (h:W.heap[g]? = some (.cells #[a0,a1,a2,a3,a4,a5] T (0,0))):
  (W.setCells g 2 [b2,b3,b4,b5]).heap[g]? = some (.cells #[a0,a1,b2,b3,b4,b5] T (0,0))/\(∀ q,q ≠ g->(W.setCells g 2 [b2,b3,b4,b5]).heap[q]? = W.heap[q]?)/\(W.setCells g 2 [b2,b3,b4,b5]).heap.size=W.heap.size:=by
 refine ⟨?_,fun q hq=>setCells_far _ _ q hq,(setCells_same g _ _ W).2.2.2⟩
 have:=blk_set (blk_set (blk_set (blk_set h 2 b2) 3 b3) 4 b4) 5 b5
 simpa [World.setCells] using this
theorem seg6 {W:World} {g:Nat} {a0 a1 a2 a3 a4 a5:Value} {T:TypeId} (h:W.heap[g]? = some (.cells #[a0,a1,a2,a3,a4,a5] T (0,0))) {j:Nat} {u:Value} (hu: [a2,a3,a4,a5][j]? = some u):W.cell? ⟨g,2+j,none⟩=some u:=by
 rw [zc8 h (2+j)]
 match j,hu with
 | 0,hu=>exact hu
 | 1,hu=>exact hu
 | 2,hu=>exact hu
 | 3,hu=>exact hu
theorem below_seg {w W:World} {g o:Nat} {l:List Value} (h:Below w.heap.size w W) (hg:w.heap.size<=g):Below w.heap.size w (W.setCells g o l):=by
 obtain ⟨s1,s2,s3,s4⟩:=setCells_same g l o W;exact ⟨s1.trans h.os,s2.trans h.tape,s3.trans h.output,by rw [s4];exact h.size,fun k hk=>(setCells_far l _ k (by omega)).trans (h.block k hk)⟩
theorem l11Do_calls {N:Nat} (p:Prog) (s:Sys) (pcs cs:List Value) (task:Int) (w:World) (hp:kProg.K w p pcs) (hs:kSys.K w s cs) (hinv:Inv p s N) (hN:N<=1048576):
  Calls Try.prog 88 #[.agg pcs.toArray,.agg cs.toArray,.int .i64 task] w fun e w'=>∃ cs',e= .returned (.tuple #[.agg cs'.toArray,.bool (canDo s task)])/\Below w.heap.size w w'/\
   ((canDo s task=false/\cs'=cs)\/(canDo s task=true/\∃ own vc vt vl,cs'= [vc,vt,.int .i64 (step p s task.toNat).clock,vl]/\Sy w.heap.size own (step p s task.toNat) vc vt vl w')):=by
 have HPK:=am hp;have HSK:=am hs;obtain ⟨Ac,cc,Ab,cb,rfl,-⟩:=kProg_open hp;obtain ⟨A0,c0,A1,c1,A3,c3,rfl,-⟩:=kSys_open hs;have hn:s.tasks.length<=1048576:=Nat.le_trans hinv.many hN;have hm:s.cells.length<=1048576:=Nat.le_trans hinv.cn (by decide);have hl:s.log.length<=1048576:=by have:=hinv.room;omega
 have LEN:Aside0 (∀ i,i < s.tasks.length->(taskAt s.tasks i).regs.length<=1048576/\(taskAt s.tasks i).old.length<=1048576/\(taskAt s.tasks i).reads.length<=1048576/\(taskAt s.tasks i).puts.length<=1048576):=⟨fun i hi=>⟨by rw [show (taskAt s.tasks i).regs.length=3 from (hinv.task i hi).regs.len];decide,by rw [show (taskAt s.tasks i).old.length=3 from (hinv.task i hi).old.len];decide,Nat.le_trans (hinv.reads hi) (by decide),Nat.le_trans (hinv.puts hi) (by decide)⟩⟩;have LOG:Aside0 (∀ e ∈ s.log,e.reads.length<=1048576/\e.puts.length<=1048576):=⟨fun e he=>⟨Nat.le_trans (hinv.logs e he).1 (by decide),Nat.le_trans (hinv.logs e he).2 (by decide)⟩⟩;clear hp hs;go_enter Try.func88,Try.ntmps88;by_cases hin:0<=task/\task<=(s.tasks.length:Int) - 1
 ·have HI:Aside0 ((decide ((0:Int)<=task) && decide (task<=(s.tasks.length:Int) - 1))=true):=⟨by simp [hin]⟩
  obtain ⟨i,hti⟩:=Int.eq_ofNat_of_zero_le hin.1;subst hti;have hi:i < s.tasks.length:=by omega
  clear hin
  cases hr:ready s i with
  | false=>
   have HR:=am hr;have HC:Aside0 (canDo s (i:Int)=false):=⟨by unfold canDo;rw [Int.toNat_natCast,hr,Bool.and_false]⟩;clear hr
   go_wp2_with (first
   |((with_reducible refine gate_dst (N:=3) rfl ?_);refine box_event rfl (N:=3) rfl (t:=48) (by go_simp<;>rfl) ?_;intro gp hg wn hbox hb;have Lgp:=am (show w.heap.size<=gp from Nat.le_of_eq hg.symm);have BP:=am hbox;have HB:=am hb;clear hbox hb hg;have BPc:=zc8 BP.out)
   |((with_reducible refine gate_dst (N:=4) rfl ?_);refine box_event rfl (N:=4) rfl (t:=27) (by go_simp<;>rfl) ?_;intro gs hg wn hbox hb;have Lgs:=am (show w.heap.size<=gs from Nat.le_trans HB.out.size (Nat.le_of_eq hg.symm));have BS:=am hbox;replace BP:=am (zb8 BP.out hb);replace HB:=am (below_step HB.out hb);clear hbox hb hg;have BPc:=zc8 BP.out;have BSc:=zc8 BS.out)
   |((with_reducible refine gate_dst (N:=6) rfl ?_);refine box_event rfl (N:=6) rfl (t:=27) (by go_simp<;>rfl) ?_;intro gr hg wn hbox hb;have Lgr:=am (show w.heap.size<=gr from Nat.le_trans HB.out.size (Nat.le_of_eq hg.symm));have BR:=am hbox;replace BP:=am (zb8 BP.out hb);replace BS:=am (zb8 BS.out hb);replace HB:=am (below_step HB.out hb);clear hbox hb hg;have BPc:=zc8 BP.out;have BSc:=zc8 BS.out;have BRc:=zc8 BR.out)
   |((with_reducible refine gate_dst (N:=9) rfl ?_);refine wpList_load_mid rfl 48 (.tmp 3) rfl gp 0 rfl _ _ (lC BP.out) Try.underlying48 rfl (by kernel_rfl) ?_)
   |((with_reducible refine gate_dst (N:=10) rfl ?_);refine wpList_load_mid rfl 27 (.tmp 4) rfl gs 0 rfl _ _ (lC BS.out) Try.underlying27 rfl (by kernel_rfl) ?_)
   |((with_reducible refine gate_dst (N:=12) rfl ?_);refine box_event rfl (N:=12) rfl (t:=152) (by go_simp<;>rfl) ?_;intro g hg wn hbox hb;have NRG:=am (show gr ≠ g from fun he=>by have h1:=blk_lt BR.out;omega);have Lg:=am (show w.heap.size<=g from Nat.le_trans HB.out.size (Nat.le_of_eq hg.symm));have BG:=am hbox;replace BP:=am (zb8 BP.out hb);replace BS:=am (zb8 BS.out hb);replace BR:=am (zb8 BR.out hb);replace HB:=am (below_step HB.out hb);clear hbox hb hg;have BPc:=zc8 BP.out;have BSc:=zc8 BS.out;have BRc:=zc8 BR.out;have BGc:=zc8 BG.out)
   |(go_at_call 50;refine (l6In_calls _ _ _ _).mono ?_;rw [HI.out];rintro e w9 ⟨rfl,rfl⟩)
   |(go_at_call 121;refine (ready_calls i _ (⟨BG.out,kProg.K_below HB.out HPK.out,kSys.K_below HB.out HSK.out⟩:RO g _ _ p s _ _ _ _) hi hn).mono ?_;rw [HR.out];rintro e w9 ⟨rfl,hb⟩;replace BP:=am (zb8 BP.out hb);replace BS:=am (zb8 BS.out hb);replace BR:=am (zb8 BR.out hb);replace BG:=am (zb8 BG.out hb);replace HB:=am (below_step HB.out hb);clear hb BPc BSc BRc BGc;have BPc:=zc8 BP.out;have BSc:=zc8 BS.out;have BRc:=zc8 BR.out;have BGc:=zc8 BG.out)
   |((with_reducible refine gate_dst (N:=26) rfl ?_);refine wpList_load_mid rfl 27 (.tmp 4) rfl gs 0 rfl _ _ (lC BS.out) Try.underlying27 rfl (by kernel_rfl) ?_)
   |((with_reducible refine gate_store (t:=27) (p:=6) rfl ?_);refine store_block rfl rfl 27 (.tmp 6) (.tmp 26) rfl rfl rfl BR.out rfl (by kernel_rfl) (aB rfl) ?_;intro wz hbox hg;have BZ:=am hbox;have HBz:=am (pw_below_grown HB.out _ HB.out.size hg (fun z hz=>by cases hz;exact Lgr.out));clear hbox hg))
   exact bodyPost_ret (results_ct Try.results88 _ wz gr 27 #[.slice A0 s.cells.length c0,.slice A1 s.tasks.length c1,.int .i64 s.clock,.slice A3 s.log.length c3] (0,0) _ rfl BZ.out Try.underlying27 rfl (by kernel_rfl)) rfl ⟨_,by rw [HC.out];rfl,HBz.out,.inl ⟨HC.out,rfl⟩⟩
  | true=>
   have HR:=am hr;have HC:Aside0 (canDo s (i:Int)=true):=⟨by unfold canDo;rw [Int.toNat_natCast,hr,Bool.and_true,inB_iff];omega⟩;clear hr
   go_wp2_with (first
   |((with_reducible refine gate_dst (N:=3) rfl ?_);refine box_event rfl (N:=3) rfl (t:=48) (by go_simp<;>rfl) ?_;intro gp hg wn hbox hb;have Lgp:=am (show w.heap.size<=gp from Nat.le_of_eq hg.symm);have BP:=am hbox;have HB:=am hb;clear hbox hb hg;have BPc:=zc8 BP.out)
   |((with_reducible refine gate_dst (N:=4) rfl ?_);refine box_event rfl (N:=4) rfl (t:=27) (by go_simp<;>rfl) ?_;intro gs hg wn hbox hb;have Lgs:=am (show w.heap.size<=gs from Nat.le_trans HB.out.size (Nat.le_of_eq hg.symm));have BS:=am hbox;replace BP:=am (zb8 BP.out hb);replace HB:=am (below_step HB.out hb);clear hbox hb hg;have BPc:=zc8 BP.out;have BSc:=zc8 BS.out)
   |((with_reducible refine gate_dst (N:=6) rfl ?_);refine box_event rfl (N:=6) rfl (t:=27) (by go_simp<;>rfl) ?_;intro gr hg wn hbox hb;have Lgr:=am (show w.heap.size<=gr from Nat.le_trans HB.out.size (Nat.le_of_eq hg.symm));have BR:=am hbox;replace BP:=am (zb8 BP.out hb);replace BS:=am (zb8 BS.out hb);replace HB:=am (below_step HB.out hb);clear hbox hb hg;have BPc:=zc8 BP.out;have BSc:=zc8 BS.out;have BRc:=zc8 BR.out)
   |((with_reducible refine gate_dst (N:=9) rfl ?_);refine wpList_load_mid rfl 48 (.tmp 3) rfl gp 0 rfl _ _ (lC BP.out) Try.underlying48 rfl (by kernel_rfl) ?_)
   |((with_reducible refine gate_dst (N:=10) rfl ?_);refine wpList_load_mid rfl 27 (.tmp 4) rfl gs 0 rfl _ _ (lC BS.out) Try.underlying27 rfl (by kernel_rfl) ?_)
   |((with_reducible refine gate_dst (N:=12) rfl ?_);refine box_event rfl (N:=12) rfl (t:=152) (by go_simp<;>rfl) ?_;intro g hg wn hbox hb;have NRG:=am (show gr ≠ g from fun he=>by have h1:=blk_lt BR.out;omega);have Lg:=am (show w.heap.size<=g from Nat.le_trans HB.out.size (Nat.le_of_eq hg.symm));have BG:=am hbox;replace BP:=am (zb8 BP.out hb);replace BS:=am (zb8 BS.out hb);replace BR:=am (zb8 BR.out hb);replace HB:=am (below_step HB.out hb);clear hbox hb hg;have BPc:=zc8 BP.out;have BSc:=zc8 BS.out;have BRc:=zc8 BR.out;have BGc:=zc8 BG.out)
   |(go_at_call 50;refine (l6In_calls _ _ _ _).mono ?_;rw [HI.out];rintro e w9 ⟨rfl,rfl⟩)
   |(go_at_call 121;refine (ready_calls i _ (⟨BG.out,kProg.K_below HB.out HPK.out,kSys.K_below HB.out HSK.out⟩:RO g _ _ p s _ _ _ _) hi hn).mono ?_;rw [HR.out];rintro e w9 ⟨rfl,hb⟩;replace BP:=am (zb8 BP.out hb);replace BS:=am (zb8 BS.out hb);replace BR:=am (zb8 BR.out hb);replace BG:=am (zb8 BG.out hb);replace HB:=am (below_step HB.out hb);clear hb BPc BSc BRc BGc;have BPc:=zc8 BP.out;have BSc:=zc8 BS.out;have BRc:=zc8 BR.out;have BGc:=zc8 BG.out)
   |((with_reducible refine gate_dst (N:=28) rfl ?_);refine wpList_load_mid rfl 27 (.tmp 4) rfl gs 0 rfl _ _ (lC BS.out) Try.underlying27 rfl (by kernel_rfl) ?_)
   |(go_at_call 87;refine (l11Copy_calls s [.slice A0 s.cells.length c0,.slice A1 s.tasks.length c1,.int .i64 s.clock,.slice A3 s.log.length c3] _ (kSys.K_below HB.out HSK.out) hn hm hl LEN.out LOG.out).mono ?_;rintro e w9 ⟨ownc,vc,vt,vl,rfl,hsy,hb⟩;obtain ⟨Vc,kc,e1⟩:=Kd.R_slice hsy.cells;obtain ⟨Vt,kt,e2⟩:=Kd.R_slice hsy.tasks;obtain ⟨Vl,kl,e3⟩:=Kd.R_slice hsy.log;rw [zip_len] at e2;subst e1 e2 e3;have OG:=am (hsy.low g (blk_lt BG.out));have OR:=am (hsy.low gr (blk_lt BR.out));have NGR:Aside0 (gr ≠ g):=⟨fun he=>NRG.out he⟩;have HS:=am (hsy.lower HB.out.size);replace BP:=am (zb8 BP.out hb);replace BS:=am (zb8 BS.out hb);replace BR:=am (zb8 BR.out hb);replace BG:=am (zb8 BG.out hb);replace HB:=am (below_step HB.out hb);clear hb hsy BPc BSc BRc BGc;have BPc:=zc8 BP.out;have BSc:=zc8 BS.out;have BRc:=zc8 BR.out;have BGc:=zc8 BG.out)
   |((with_reducible refine gate_store (t:=27) (p:=31) rfl ?_);refine seg_ev rfl rfl _ _ rfl (g:=g) (off:=2) rfl [.slice Vc s.cells.length kc,.slice Vt s.tasks.length kt,.int .i64 s.clock,.slice Vl s.log.length kl] rfl (by kernel_rfl) (aB rfl) (fun j hj=>⟨by rw [zc8 BG.out];have hj4:j < 4:=hj;match j,hj4 with | 0,_=>rfl | 1,_=>rfl | 2,_=>rfl | 3,_=>rfl,blk_frozen BG.out _⟩) ?_;intro wn hwn;obtain ⟨k1,k2,k3⟩:=seg4 (b2:=.slice Vc s.cells.length kc) (b3:=.slice Vt s.tasks.length kt) (b4:=.int .i64 s.clock) (b5:=.slice Vl s.log.length kl) BG.out;rw [<-hwn] at k1 k2 k3;have BG2:=am k1;have HS2:=am (HS.out.move (Nat.le_of_eq k3.symm) (fun q hq _=>k2 q (fun he=>by rw [he] at hq;exact hq OG.out)));have BR2:=am ((k2 gr NRG.out).trans BR.out);have HB2:=am (show Below w.heap.size w wn by rw [hwn];exact below_seg HB.out Lg.out);obtain ⟨own1,hst,hof⟩:=HS2.out.toSt HB2.out HPK.out OG.out Lg.out BG2.out;have OR1:=am ((hof gr NRG.out).trans OR.out);have H:=am hst;have SZ:=am (blk_lt BR2.out);clear k1 k2 k3 hwn hst hof BG BR BP BS HB HS BPc BSc BRc BGc HS2;have BGc:=zc8 BG2.out)
   |(go_at_call 122;refine (step_calls i _ H.out hinv hN hi HR.out).mono ?_;rintro e w9 ⟨rfl,own2,vt2,vl2,h1,f1⟩;obtain ⟨Vt2,kt2,e2⟩:=h1.tslice;obtain ⟨Vl2,kl2,e3⟩:=h1.lslice;subst e2 e3;have BR3:=am ((f1.block gr SZ.out OR1.out).trans BR2.out);have OR3:=am (f1.keep gr SZ.out OR1.out);obtain ⟨sn,hsn⟩:∃ x,x=step p s i:=⟨_,rfl⟩;rw [<-hsn] at h1;have HSN:=am hsn;have H3:=am h1;clear h1 f1 hsn H BR2 BG2 BGc;have BGc:=zc8 H3.out.blk)
   |((with_reducible refine gate_dst (N:=38) rfl ?_);refine wpList_load_mid rfl 27 (.tmp 37) rfl g 2 rfl _ _ (fun j u hu=>seg6 H3.out.blk hu) Try.underlying27 rfl (by kernel_rfl) ?_)
   |((with_reducible refine gate_store (t:=27) (p:=6) rfl ?_);refine store_block rfl rfl 27 (.tmp 6) (.tmp 38) rfl rfl rfl BR3.out rfl (by kernel_rfl) (aB rfl) ?_;intro wz hbox hg;have BZ:=am hbox;have HSZ:=am (H3.out.sy.move hg.size (fun q hq hl=>hg.block q hl (fun he=>by injection he with he;rw [he] at hq;exact hq OR3.out)));have HBz:=am (pw_below_grown H3.out.below _ H3.out.below.size hg (fun z hz=>by cases hz;exact Lgr.out));clear hbox hg))
   exact bodyPost_ret (results_ct Try.results88 _ wz gr 27 #[.slice Vc s.cells.length kc,.slice Vt2 sn.tasks.length kt2,.int .i64 sn.clock,.slice Vl2 sn.log.length kl2] (0,0) _ rfl BZ.out Try.underlying27 rfl (by kernel_rfl)) rfl ⟨_,by rw [HC.out];rfl,HBz.out,.inr ⟨HC.out,own2,_,_,_,by rw [Int.toNat_natCast,<-HSN.out],by rw [Int.toNat_natCast,<-HSN.out];exact HSZ.out⟩⟩
 ·have HI:Aside0 ((decide ((0:Int)<=task) && decide (task<=(s.tasks.length:Int) - 1))=false):=⟨by
   rw [Bool.eq_false_iff];intro h;simp at h;omega⟩
  have HC:Aside0 (canDo s task=false):=⟨by unfold canDo;rw [show inB task 0 ((s.tasks.length:Int) - 1)=false from HI.out,Bool.false_and]⟩;clear hin
  go_wp2_with (first
  |((with_reducible refine gate_dst (N:=3) rfl ?_);refine box_event rfl (N:=3) rfl (t:=48) (by go_simp<;>rfl) ?_;intro gp hg wn hbox hb;have Lgp:=am (show w.heap.size<=gp from Nat.le_of_eq hg.symm);have BP:=am hbox;have HB:=am hb;clear hbox hb hg;have BPc:=zc8 BP.out)
  |((with_reducible refine gate_dst (N:=4) rfl ?_);refine box_event rfl (N:=4) rfl (t:=27) (by go_simp<;>rfl) ?_;intro gs hg wn hbox hb;have Lgs:=am (show w.heap.size<=gs from Nat.le_trans HB.out.size (Nat.le_of_eq hg.symm));have BS:=am hbox;replace BP:=am (zb8 BP.out hb);replace HB:=am (below_step HB.out hb);clear hbox hb hg;have BPc:=zc8 BP.out;have BSc:=zc8 BS.out)
  |((with_reducible refine gate_dst (N:=6) rfl ?_);refine box_event rfl (N:=6) rfl (t:=27) (by go_simp<;>rfl) ?_;intro gr hg wn hbox hb;have Lgr:=am (show w.heap.size<=gr from Nat.le_trans HB.out.size (Nat.le_of_eq hg.symm));have BR:=am hbox;replace BP:=am (zb8 BP.out hb);replace BS:=am (zb8 BS.out hb);replace HB:=am (below_step HB.out hb);clear hbox hb hg;have BPc:=zc8 BP.out;have BSc:=zc8 BS.out;have BRc:=zc8 BR.out)
  |((with_reducible refine gate_dst (N:=9) rfl ?_);refine wpList_load_mid rfl 48 (.tmp 3) rfl gp 0 rfl _ _ (lC BP.out) Try.underlying48 rfl (by kernel_rfl) ?_)
  |((with_reducible refine gate_dst (N:=10) rfl ?_);refine wpList_load_mid rfl 27 (.tmp 4) rfl gs 0 rfl _ _ (lC BS.out) Try.underlying27 rfl (by kernel_rfl) ?_)
  |((with_reducible refine gate_dst (N:=12) rfl ?_);refine box_event rfl (N:=12) rfl (t:=152) (by go_simp<;>rfl) ?_;intro g hg wn hbox hb;have NRG:=am (show gr ≠ g from fun he=>by have h1:=blk_lt BR.out;omega);have Lg:=am (show w.heap.size<=g from Nat.le_trans HB.out.size (Nat.le_of_eq hg.symm));have BG:=am hbox;replace BP:=am (zb8 BP.out hb);replace BS:=am (zb8 BS.out hb);replace BR:=am (zb8 BR.out hb);replace HB:=am (below_step HB.out hb);clear hbox hb hg;have BPc:=zc8 BP.out;have BSc:=zc8 BS.out;have BRc:=zc8 BR.out;have BGc:=zc8 BG.out)
  |(go_at_call 50;refine (l6In_calls _ _ _ _).mono ?_;rw [HI.out];rintro e w9 ⟨rfl,rfl⟩)
  |((with_reducible refine gate_dst (N:=26) rfl ?_);refine wpList_load_mid rfl 27 (.tmp 4) rfl gs 0 rfl _ _ (lC BS.out) Try.underlying27 rfl (by kernel_rfl) ?_)
  |((with_reducible refine gate_store (t:=27) (p:=6) rfl ?_);refine store_block rfl rfl 27 (.tmp 6) (.tmp 26) rfl rfl rfl BR.out rfl (by kernel_rfl) (aB rfl) ?_;intro wz hbox hg;have BZ:=am hbox;have HBz:=am (pw_below_grown HB.out _ HB.out.size hg (fun z hz=>by cases hz;exact Lgr.out));clear hbox hg))
  exact bodyPost_ret (results_ct Try.results88 _ wz gr 27 #[.slice A0 s.cells.length c0,.slice A1 s.tasks.length c1,.int .i64 s.clock,.slice A3 s.log.length c3] (0,0) _ rfl BZ.out Try.underlying27 rfl (by kernel_rfl)) rfl ⟨_,by rw [HC.out];rfl,HBz.out,.inl ⟨HC.out,rfl⟩⟩
end Go.Proofs.Ytimamoimphjakaa.Eq
namespace Go.Proofs.Ytimamoimphjakaa.Eq
theorem sumL_take {α:Type} (f:α->Nat) (d:α) (l:List α) {k:Nat} (h:k < l.length):sumL f (l.take (k+1))=sumL f (l.take k)+f (l.getD k d):=by
 rw [List.take_succ_eq_append_getElem h,sumL_append];simp [sumL,h]
theorem sumL_congr {α:Type} {f g:α->Nat}:∀ {l:List α},(∀ a ∈ l,f a=g a)->sumL f l=sumL g l
 | [],_=>rfl
 | a :: l,h=>by
  unfold sumL;rw [h a (by simp),sumL_congr (fun b hb=>h b (by simp [hb]))]
theorem sumL_le {α:Type} {f:α->Nat} {m:Nat}:∀ {l:List α},(∀ a ∈ l,f a<=m)->sumL f l<=l.length*m
 | [],_=>by simp [sumL]
 | a :: l,h=>by
  have h1:=h a (by simp);have h2:=sumL_le (l:=l) (fun b hb=>h b (by simp [hb]));simp only [sumL,List.length_cons,Nat.add_mul,Nat.one_mul];omega
theorem act_mem {p:Prog} (h:formOk p=true) {b:Int} (hb:0<=b/\b < p.bodies.length) {a:Act} (ha:a ∈ actsAt p.bodies b.toNat):actOk p.cells.length p.bodies.length b a=true:=by
 obtain ⟨k,hk,rfl⟩:=List.mem_iff_getElem.1 ha
 have:=form_act h hb hk
 simpa [actAt,hk] using this
theorem kid_behind {p:Prog} (h:formOk p=true) {b:Int} (hb:0<=b/\b < p.bodies.length) {a:Act} (ha:a ∈ actsAt p.bodies b.toNat):a.kids.length<=2/\∀ k ∈ a.kids,b+1<=k/\k < p.bodies.length:=by
 have hok:=act_mem h hb ha;by_cases h2:a.kind=2
 ·obtain ⟨h3,_,h4⟩:=act_kids hok h2
  refine ⟨h3,fun k hk=> ?_⟩;obtain ⟨j,hj,rfl⟩:=List.mem_iff_getElem.1 hk;have:=h4 j hj;simp only [numAt,List.getD_eq_getElem?_getD,List.getElem?_eq_getElem hj,Option.getD_some] at this;omega
 ·have:a.kids= []:=by
   unfold actOk at hok;split at hok
   ·cases hok
   ·rename_i hn
    exact Classical.byContradiction fun hne=>hn (.inr (.inl ⟨h2,hne⟩))
  rw [this];exact ⟨by simp,fun k hk=>by simp at hk⟩
theorem treeN_more {p:Prog} (h:formOk p=true):∀ (n:Nat) (b:Int),0<=b->b < p.bodies.length->(p.bodies.length:Int) - b<=n->treeN p.bodies (n+1) b=treeN p.bodies n b
 | 0,b,h0,h1,hn=>by omega
 | n+1,b,h0,h1,hn=>by
  rw [treeN,treeN]
  congr 1
  refine sumL_congr fun a ha=>sumL_congr fun k hk=> ?_
  have:=(kid_behind h ⟨h0,h1⟩ ha).2 k hk
  exact treeN_more h n k (by omega) (by omega) (by omega)
theorem treeOf_eq {p:Prog} (h:formOk p=true) {b:Int} (h0:0<=b) (h1:b < p.bodies.length):treeOf p b=1+sumL (fun a:Act=>sumL (treeOf p) a.kids) (actsAt p.bodies b.toNat):=by
 have hl:=form_cells h;unfold treeOf;rw [<-treeN_more h 4 b h0 h1 (by omega),treeN]
def treeMax:Nat->Nat
 | 0=>1
 | n+1=>1+8*treeMax n
theorem treeN_le {p:Prog} (h:formOk p=true):∀ (n:Nat) (b:Int),0<=b->b < p.bodies.length->treeN p.bodies n b<=treeMax n
 | 0,b,_,_=>Nat.le_refl _
 | n+1,b,h0,h1=>by
  rw [treeN,treeMax];have h4:=form_acts h ⟨h0,h1⟩
  have:sumL (fun a:Act=>sumL (treeN p.bodies n) a.kids) (actsAt p.bodies b.toNat)<=(actsAt p.bodies b.toNat).length*(2*treeMax n):=by
   refine sumL_le fun a ha=> ?_
   obtain ⟨h2,h3⟩:=kid_behind h ⟨h0,h1⟩ ha;refine Nat.le_trans (sumL_le (m:=treeMax n) fun k hk=>treeN_le h n k (by have:=h3 k hk;omega) (h3 k hk).2) ?_;exact Nat.mul_le_mul_right _ h2
  have h5:(actsAt p.bodies b.toNat).length*(2*treeMax n)<=4*(2*treeMax n):=Nat.mul_le_mul_right _ h4;omega
theorem treeOf_le {p:Prog} (h:formOk p=true) {b:Int} (h0:0<=b) (h1:b < p.bodies.length):treeOf p b<=4681:=treeN_le h 4 b h0 h1
end Go.Proofs.Ytimamoimphjakaa.Eq
namespace Go.Proofs.Ytimamoimphjakaa.Eq
open Go.RowKit Go.Proofs.YtimamoimphjakaaW.PrintWords Go.Proofs.YtimamoimphjakaaW.PrintLast Go.Proofs.YtimamoimphjakaaW.PrintMore
theorem l1Deed_calls (d:Deed) (cells:Int) (w:World) (h0:0<=cells) (h1:cells<=1048576):
  Calls Try.prog 141 #[.agg #[.int .i64 d.kind,.int .i64 d.a,.int .i64 d.b],.int .i64 cells] w fun e w'=>e= .returned (.bool (deedOk d cells))/\Below w.heap.size w w':=by
 go_enter Try.func141,Try.ntmps141;obtain ⟨ba,hba⟩:∃ b,inB d.a 0 2=b:=⟨_,rfl⟩;have HA:Aside0 ((decide ((0:Int)<=d.a) && decide (d.a<=2))=ba):=⟨hba⟩;clear hba;by_cases k1:d.kind=1
 ·have y1:(d.kind == 1)=true:=by simp [k1]
  have K1:=am k1;clear k1;obtain ⟨bz,hbz⟩:∃ b,inB d.b 0 (cells - 1)=b:=⟨_,rfl⟩;have HY:Aside0 ((decide ((0:Int)<=d.b) && decide (d.b<=(cells - 1)))=bz):=⟨hbz⟩;clear hbz
  cases ba with
  | false=>
   go_wp2_with (first
   |((with_reducible refine gate_dst (N:=2) rfl ?_);refine box_event rfl (N:=2) rfl (t:=111) (by go_simp<;>rfl) ?_;intro gd hg w2 hbox hb;have BK:=am hbox;have HB:=am hb;have BKc:=zc8 BK.out;clear hbox hb hg)
   |(go_at_call 50;refine (l6In_calls _ _ _ _).mono ?_;(first|rw [HA.out] | rw [HY.out]);rintro e w9 ⟨rfl,rfl⟩))
   go_ret
   have hr:deedOk d cells=false:=by
    unfold deedOk;rw [if_pos K1.out,show inB d.a 0 2=false from HA.out,Bool.false_and]
   rw [hr]
   exact ⟨rfl,HB.out⟩
  | true=>
   go_wp2_with (first
   |((with_reducible refine gate_dst (N:=2) rfl ?_);refine box_event rfl (N:=2) rfl (t:=111) (by go_simp<;>rfl) ?_;intro gd hg w2 hbox hb;have BK:=am hbox;have HB:=am hb;have BKc:=zc8 BK.out;clear hbox hb hg)
   |(go_at_call 50;refine (l6In_calls _ _ _ _).mono ?_;(first|rw [HA.out] | rw [HY.out]);rintro e w9 ⟨rfl,rfl⟩))
   go_ret
   have hr:deedOk d cells=bz:=by
    unfold deedOk;rw [if_pos K1.out,show inB d.a 0 2=true from HA.out,show inB d.b 0 (cells - 1)=bz from HY.out,Bool.true_and]
   rw [hr];exact ⟨rfl,HB.out⟩
 ·have y1:(d.kind == 1)=false:=by simp [k1]
  have K1:=am k1;clear k1;by_cases k2:d.kind=2
  ·have y2:(d.kind == 2)=true:=by simp [k2]
   have K2:=am k2;clear k2;obtain ⟨bx,hbx⟩:∃ b,inB d.a 0 (cells - 1)=b:=⟨_,rfl⟩;have HX:Aside0 ((decide ((0:Int)<=d.a) && decide (d.a<=(cells - 1)))=bx):=⟨hbx⟩;clear hbx;obtain ⟨bz,hbz⟩:∃ b,inB d.b 0 2=b:=⟨_,rfl⟩;have HY:Aside0 ((decide ((0:Int)<=d.b) && decide (d.b<=2))=bz):=⟨hbz⟩;clear hbz
   cases bx with
   | false=>
    go_wp2_with (first
    |((with_reducible refine gate_dst (N:=2) rfl ?_);refine box_event rfl (N:=2) rfl (t:=111) (by go_simp<;>rfl) ?_;intro gd hg w2 hbox hb;have BK:=am hbox;have HB:=am hb;have BKc:=zc8 BK.out;clear hbox hb hg)
    |(go_at_call 50;refine (l6In_calls _ _ _ _).mono ?_;(first|rw [HA.out] | rw [HX.out] | rw [HY.out]);rintro e w9 ⟨rfl,rfl⟩))
    go_ret
    have hr:deedOk d cells=false:=by
     unfold deedOk;rw [if_neg K1.out,if_pos K2.out,show inB d.a 0 (cells - 1)=false from HX.out,Bool.false_and]
    rw [hr]
    exact ⟨rfl,HB.out⟩
   | true=>
    go_wp2_with (first
    |((with_reducible refine gate_dst (N:=2) rfl ?_);refine box_event rfl (N:=2) rfl (t:=111) (by go_simp<;>rfl) ?_;intro gd hg w2 hbox hb;have BK:=am hbox;have HB:=am hb;have BKc:=zc8 BK.out;clear hbox hb hg)
    |(go_at_call 50;refine (l6In_calls _ _ _ _).mono ?_;(first|rw [HA.out] | rw [HX.out] | rw [HY.out]);rintro e w9 ⟨rfl,rfl⟩))
    go_ret
    have hr:deedOk d cells=bz:=by
     unfold deedOk;rw [if_neg K1.out,if_pos K2.out,show inB d.a 0 (cells - 1)=true from HX.out,show inB d.b 0 2=bz from HY.out,Bool.true_and]
    rw [hr];exact ⟨rfl,HB.out⟩
  ·have y2:(d.kind == 2)=false:=by simp [k2]
   have K2:=am k2;clear k2;by_cases k3:d.kind=3
   ·have y3:(d.kind == 3)=true:=by simp [k3]
    have K3:=am k3;clear k3;obtain ⟨bz,hbz⟩:∃ b,inB d.b 0 99=b:=⟨_,rfl⟩;have HY:Aside0 ((decide ((0:Int)<=d.b) && decide (d.b<=99))=bz):=⟨hbz⟩;clear hbz
    cases ba with
    | false=>
     go_wp2_with (first
     |((with_reducible refine gate_dst (N:=2) rfl ?_);refine box_event rfl (N:=2) rfl (t:=111) (by go_simp<;>rfl) ?_;intro gd hg w2 hbox hb;have BK:=am hbox;have HB:=am hb;have BKc:=zc8 BK.out;clear hbox hb hg)
     |(go_at_call 50;refine (l6In_calls _ _ _ _).mono ?_;(first|rw [HA.out] | rw [HY.out]);rintro e w9 ⟨rfl,rfl⟩))
     go_ret
     have hr:deedOk d cells=false:=by
      unfold deedOk;rw [if_neg K1.out,if_neg K2.out,if_pos K3.out,show inB d.a 0 2=false from HA.out,Bool.false_and]
     rw [hr]
     exact ⟨rfl,HB.out⟩
    | true=>
     go_wp2_with (first
     |((with_reducible refine gate_dst (N:=2) rfl ?_);refine box_event rfl (N:=2) rfl (t:=111) (by go_simp<;>rfl) ?_;intro gd hg w2 hbox hb;have BK:=am hbox;have HB:=am hb;have BKc:=zc8 BK.out;clear hbox hb hg)
     |(go_at_call 50;refine (l6In_calls _ _ _ _).mono ?_;(first|rw [HA.out] | rw [HY.out]);rintro e w9 ⟨rfl,rfl⟩))
     go_ret
     have hr:deedOk d cells=bz:=by
      unfold deedOk;rw [if_neg K1.out,if_neg K2.out,if_pos K3.out,show inB d.a 0 2=true from HA.out,show inB d.b 0 99=bz from HY.out,Bool.true_and]
     rw [hr];exact ⟨rfl,HB.out⟩
   ·have y3:(d.kind == 3)=false:=by simp [k3]
    have K3:=am k3;clear k3;by_cases k4:d.kind=4
    ·have y4:(d.kind == 4)=true:=by simp [k4]
     have K4:=am k4;clear k4;obtain ⟨bz,hbz⟩:∃ b,inB d.b 0 2=b:=⟨_,rfl⟩;have HY:Aside0 ((decide ((0:Int)<=d.b) && decide (d.b<=2))=bz):=⟨hbz⟩;clear hbz
     cases ba with
     | false=>
      go_wp2_with (first
      |((with_reducible refine gate_dst (N:=2) rfl ?_);refine box_event rfl (N:=2) rfl (t:=111) (by go_simp<;>rfl) ?_;intro gd hg w2 hbox hb;have BK:=am hbox;have HB:=am hb;have BKc:=zc8 BK.out;clear hbox hb hg)
      |(go_at_call 50;refine (l6In_calls _ _ _ _).mono ?_;(first|rw [HA.out] | rw [HY.out]);rintro e w9 ⟨rfl,rfl⟩))
      go_ret
      have hr:deedOk d cells=false:=by
       unfold deedOk;rw [if_neg K1.out,if_neg K2.out,if_neg K3.out,if_pos K4.out,show inB d.a 0 2=false from HA.out,Bool.false_and]
      rw [hr]
      exact ⟨rfl,HB.out⟩
     | true=>
      go_wp2_with (first
      |((with_reducible refine gate_dst (N:=2) rfl ?_);refine box_event rfl (N:=2) rfl (t:=111) (by go_simp<;>rfl) ?_;intro gd hg w2 hbox hb;have BK:=am hbox;have HB:=am hb;have BKc:=zc8 BK.out;clear hbox hb hg)
      |(go_at_call 50;refine (l6In_calls _ _ _ _).mono ?_;(first|rw [HA.out] | rw [HY.out]);rintro e w9 ⟨rfl,rfl⟩))
      go_ret
      have hr:deedOk d cells=bz:=by
       unfold deedOk;rw [if_neg K1.out,if_neg K2.out,if_neg K3.out,if_pos K4.out,show inB d.a 0 2=true from HA.out,show inB d.b 0 2=bz from HY.out,Bool.true_and]
      rw [hr];exact ⟨rfl,HB.out⟩
    ·have y4:(d.kind == 4)=false:=by simp [k4]
     have K4:=am k4;clear k4;by_cases k5:d.kind=5
     ·have y5:(d.kind == 5)=true:=by simp [k5]
      have K5:=am k5;clear k5
      cases ba with
      | false=>
       go_wp2_with (first
       |((with_reducible refine gate_dst (N:=2) rfl ?_);refine box_event rfl (N:=2) rfl (t:=111) (by go_simp<;>rfl) ?_;intro gd hg w2 hbox hb;have BK:=am hbox;have HB:=am hb;have BKc:=zc8 BK.out;clear hbox hb hg)
       |(go_at_call 50;refine (l6In_calls _ _ _ _).mono ?_;(first|rw [HA.out]);rintro e w9 ⟨rfl,rfl⟩))
       go_ret
       have hr:deedOk d cells=false:=by
        unfold deedOk;rw [if_neg K1.out,if_neg K2.out,if_neg K3.out,if_neg K4.out,if_pos K5.out,show inB d.a 0 2=false from HA.out,Bool.false_and]
       rw [hr]
       exact ⟨rfl,HB.out⟩
      | true=>
       by_cases z:d.b=0
       ·have yz:(d.b == 0)=true:=by simp [z]
        have Z:=am z;clear z
        go_wp2_with (first
        |((with_reducible refine gate_dst (N:=2) rfl ?_);refine box_event rfl (N:=2) rfl (t:=111) (by go_simp<;>rfl) ?_;intro gd hg w2 hbox hb;have BK:=am hbox;have HB:=am hb;have BKc:=zc8 BK.out;clear hbox hb hg)
        |(go_at_call 50;refine (l6In_calls _ _ _ _).mono ?_;(first|rw [HA.out]);rintro e w9 ⟨rfl,rfl⟩))
        go_ret
        have hr:deedOk d cells=true:=by
         unfold deedOk;rw [if_neg K1.out,if_neg K2.out,if_neg K3.out,if_neg K4.out,if_pos K5.out,show inB d.a 0 2=true from HA.out,decide_eq_true Z.out,Bool.true_and]
        rw [hr];exact ⟨rfl,HB.out⟩
       ·have yz:(d.b == 0)=false:=by simp [z]
        have Z:=am z;clear z
        go_wp2_with (first
        |((with_reducible refine gate_dst (N:=2) rfl ?_);refine box_event rfl (N:=2) rfl (t:=111) (by go_simp<;>rfl) ?_;intro gd hg w2 hbox hb;have BK:=am hbox;have HB:=am hb;have BKc:=zc8 BK.out;clear hbox hb hg)
        |(go_at_call 50;refine (l6In_calls _ _ _ _).mono ?_;(first|rw [HA.out]);rintro e w9 ⟨rfl,rfl⟩))
        go_ret
        have hr:deedOk d cells=false:=by
         unfold deedOk;rw [if_neg K1.out,if_neg K2.out,if_neg K3.out,if_neg K4.out,if_pos K5.out,show inB d.a 0 2=true from HA.out,decide_eq_false Z.out,Bool.true_and]
        rw [hr];exact ⟨rfl,HB.out⟩
     ·have y5:(d.kind == 5)=false:=by simp [k5]
      have K5:=am k5;clear k5
      go_wp2_with (first
      |((with_reducible refine gate_dst (N:=2) rfl ?_);refine box_event rfl (N:=2) rfl (t:=111) (by go_simp<;>rfl) ?_;intro gd hg w2 hbox hb;have BK:=am hbox;have HB:=am hb;have BKc:=zc8 BK.out;clear hbox hb hg)
      |(go_at_call 50;refine (l6In_calls _ _ _ _).mono ?_;(first|rw [HA.out]);rintro e w9 ⟨rfl,rfl⟩))
      go_ret
      have hr:deedOk d cells=false:=by
       unfold deedOk;rw [if_neg K1.out,if_neg K2.out,if_neg K3.out,if_neg K4.out,if_neg K5.out]
      rw [hr];exact ⟨rfl,HB.out⟩
theorem l1Kids_calls (A:Option Addr) (c:Nat) (ks:List Int) (body bodies:Int) (w:World) (hx:(Kd.int .i64).C w A ks.length ks) (hn:ks.length<=1048576) (h0:0<=body/\body<=1048576) (h1:0<=bodies/\bodies<=1048576):
  Calls Try.prog 142 #[.slice A ks.length c,.int .i64 body,.int .i64 bodies] w fun e w'=>e= .returned (.bool (kidsOk ks body bodies))/\w=w':=by
 have HX:=am hx;clear hx;obtain ⟨h00,h01⟩:=h0;obtain ⟨h10,h11⟩:=h1;go_enter Try.func142,Try.ntmps142;go_wp2;go_loopw [7] (fun j w'=>∃ k:Nat,k<=ks.length/\j= .int .i64 k/\Aside0 (∀ i,i < k->inB (numAt ks i) (body+1) (bodies - 1)=true)/\w=w') (fun j _=>ks.length - (intOf j).toNat)
 case atStart=>exact ⟨0,Nat.zero_le _,rfl,⟨fun i hi=>by omega⟩,rfl⟩
 case round=>
  obtain ⟨k,hk,rfl,HJ,rfl⟩:=hrel;by_cases hlt:k < ks.length
  ·have q0:(0:Int)<=(k:Int):=by omega
   have q1:(k:Int) < (ks.length:Int):=by omega
   obtain ⟨ad,rfl,gx⟩:=Kd.at_int HX.out (k:Int) q0 q1;simp only [Int.toNat_natCast] at gx;obtain ⟨x,hxx⟩:∃ x,x=numAt ks k:=⟨_,rfl⟩;rw [show rd ks (k:Int)=x from hxx.symm] at gx;have HXX:=am hxx;clear hxx
   cases hb:inB x (body+1) (bodies - 1) with
   | true=>
    have HI:Aside0 ((decide (body+1<=x) && decide (x<=bodies - 1))=true):=⟨hb⟩;clear hb;go_wp2_with (first|(go_at_call 50;refine (l6In_calls _ _ _ _).mono ?_;(first|rw [HI.out]);rintro e w9 ⟨rfl,rfl⟩))
    go_roundw
    case rel=>exact ⟨k+1,by omega,by go_num,⟨fun i hi=>by rcases Nat.lt_or_ge i k with h | h;exact HJ.out i h;obtain rfl:i=k:=(by omega);rw [<-HXX.out];exact HI.out⟩,trivial⟩
    case measure=>simp [intOf];omega
   | false=>
    have HI:Aside0 ((decide (body+1<=x) && decide (x<=bodies - 1))=false):=⟨hb⟩;clear hb;go_wp2_with (first|(go_at_call 50;refine (l6In_calls _ _ _ _).mono ?_;(first|rw [HI.out]);rintro e w9 ⟨rfl,rfl⟩))
    go_ret
    have hr:kidsOk ks body bodies=false:=by
     unfold kidsOk;rw [allB_no hlt (by rw [<-HXX.out];exact HI.out),Bool.false_and]
    rw [hr];exact ⟨rfl,rfl⟩
  ·obtain rfl:k=ks.length:=by omega
   obtain ⟨bz,hbz⟩:∃ b,inB (ks.length:Int) 1 2=b:=⟨_,rfl⟩;have HI:Aside0 ((decide ((1:Int)<=(ks.length:Int)) && decide ((ks.length:Int)<=2))=bz):=⟨hbz⟩;clear hbz;go_wp2_with (first|(go_at_call 50;refine (l6In_calls _ _ _ _).mono ?_;(first|rw [HI.out]);rintro e w9 ⟨rfl,rfl⟩))
   go_ret
   have hr:kidsOk ks body bodies=bz:=by
    unfold kidsOk;rw [allB_iff.2 HJ.out,Bool.true_and];exact HI.out
   rw [hr];exact ⟨rfl,rfl⟩
theorem l1Act_calls (p:Prog) (a:Act) (pcs acs:List Value) (body:Int) (w:World) (hp:kProg.K w p pcs) (ha:kAct.K w a acs) (hc:p.cells.length<=1048576) (hbd:p.bodies.length<=1048576) (hb0:0<=body) (hb1:body<=1048576) (hdn:a.deeds.length<=1048576) (hkn:a.kids.length<=1048576):
  Calls Try.prog 123 #[.agg pcs.toArray,.int .i64 body,.agg acs.toArray] w fun e w'=>e= .returned (.bool (actOk p.cells.length p.bodies.length body a))/\Below w.heap.size w w':=by
 obtain ⟨Ac,cc,Ab,cb,rfl,-⟩:=kProg_open hp;obtain ⟨Ad,cd,Ak,ck,rfl,-,gd,-,gk⟩:=kAct_open ha;have HDS:=am gd;have HKS:=am gk;clear hp ha gd gk;go_enter Try.func123,Try.ntmps123;by_cases kk:a.kind=1
 ·skip
  have z1:(a.kind != 1)=false:=by simp [kk]
  have z2:(a.kind != 2)=true:=by simp [kk]
  have z4:(a.kind != 4)=true:=by simp [kk]
  have y1:(a.kind == 1)=true:=by simp [kk]
  have KK:=am kk;clear kk;by_cases e_kids:a.kids= []
  ·have u_kids:decide (0 < a.kids.length)=false:=by rw [e_kids];rfl
   have v_kids:decide (0 < (a.kids.length:Int))=false:=by rw [e_kids];rfl
   have E_kids:=am e_kids;clear e_kids;by_cases r0:a.reg=0
   ·have u_reg:(a.reg != 0)=false:=by simp [r0]
    have E_reg:=am r0;clear r0
    go_wp2_with (first
    |((with_reducible refine gate_dst (N:=3) rfl ?_);refine box_event rfl (N:=3) rfl (t:=48) (by go_simp<;>rfl) ?_;intro gp hg w1 hbox hb;have BP:=am hbox;have HB:=am hb;have BPc:=zc8 BP.out;clear hbox hb hg)
    |((with_reducible refine gate_dst (N:=5) rfl ?_);refine box_event rfl (N:=5) rfl (t:=108) (by go_simp<;>rfl) ?_;intro ga hg w2 hbox hb;have BA:=am hbox;replace HB:=am (below_step HB.out hb);replace BP:=am (zb8 BP.out hb);clear BPc hbox hb hg;have BPc:=zc8 BP.out;have BAc:=zc8 BA.out))
    go_loopw [7] (fun j w'=>∃ k:Nat,k<=a.deeds.length/\j= .int .i64 k/\Aside0 (∀ i,i < k->deedOk (deedAt a.deeds i) p.cells.length=true)/\Aside0 (w'.heap[gp]? = some (.cells #[.slice Ac p.cells.length cc,.slice Ab p.bodies.length cb] 48 (0,0)))/\Aside0 (w'.heap[ga]? = some (.cells #[.int .i64 a.kind,.slice Ad a.deeds.length cd,.slice Ak a.kids.length ck,.int .i64 a.reg] 108 (0,0)))/\Aside0 (Below w.heap.size w w')) (fun j _=>a.deeds.length - (intOf j).toNat)
    case atStart=>exact ⟨0,Nat.zero_le _,rfl,⟨fun i hi=>by omega⟩,BP,BA,HB⟩
    case round=>
     clear BP BA HB BPc BAc;obtain ⟨k,hk,rfl,HJ,BP,BA,HB⟩:=hrel;have BPc:=zc8 BP.out;have BAc:=zc8 BA.out;by_cases hlt:k < a.deeds.length
     ·obtain ⟨bd,od,cs,rfl,hcl,hK,hcc,-⟩:=C_field HDS.out zDeed k hlt (by decide)
      obtain ⟨d,hd⟩:∃ d,d=deedAt a.deeds k:=⟨_,rfl⟩;rw [show a.deeds.getD k zDeed=d from hd.symm] at hK;have e:=kDeed_open hK;subst e;have p0:=hcc 0 _ rfl;have p1:=hcc 1 _ rfl;have p2:=hcc 2 _ rfl;simp only [show kDeed.sz=3 from rfl,Nat.add_zero] at p0 p1 p2;have D0:=am p0;have D1:=am p1;have D2:=am p2;have DX:=am hd;have q0:(0:Int)<=(k:Int):=by omega
      have q1:(k:Int) < (a.deeds.length:Int):=by omega
      clear hcc hK hcl hd p0 p1 p2
      cases hdo:deedOk d p.cells.length with
      | true=>
       have HD:=am hdo;clear hdo;go_wp2;refine st9 (n:=10) (S:=fun W=>W.heap[gp]? = some (.cells #[.slice Ac p.cells.length cc,.slice Ab p.bodies.length cb] 48 (0,0))/\W.heap[ga]? = some (.cells #[.int .i64 a.kind,.slice (some ⟨bd,od,none⟩) a.deeds.length cd,.slice Ak a.kids.length ck,.int .i64 a.reg] 108 (0,0))/\W.cell? ⟨bd,od+k*3,none⟩=some (.int .i64 d.kind)/\W.cell? ⟨bd,od+k*3+1,none⟩=some (.int .i64 d.a)/\W.cell? ⟨bd,od+k*3+2,none⟩=some (.int .i64 d.b)) (ds:= []) (by kernel_rfl) rfl ⟨blk_drew BP.out,blk_drew BA.out,(show wr.cell? ⟨bd,od+k*3,none⟩=_ from cellB HB.out D0.out),(show wr.cell? ⟨bd,od+k*3+1,none⟩=_ from cellB HB.out D1.out),(show wr.cell? ⟨bd,od+k*3+2,none⟩=_ from cellB HB.out D2.out)⟩ (fun hHeld=> ?_);have hb:=below_drew (Below.refl wr.heap.size wr);generalize wr.drew=w7 at hb hHeld ⊢;have HB7:=am (below_step HB.out hb);clear hb HB BP BA BPc BAc;refine ba9 (fuel:=2) (n:=8) [0,1,2,3,4,5,6,7] (by kernel_rfl) (fun N _ _ _ _ h=>by cases N <;> exact h) hHeld ?_
       iterate 8 (
        refine stillS_step (v:= ?_) (a':= ?_) rfl (Or.inl ⟨by rfl, ?_⟩) ?_ ?_;rotate_left
        ·rintro W ⟨s0,s2,s3,s4,s5⟩
         have t0:=zc8 s0;have t2:=zc8 s2;clear s0 s2;go_simp;with_reducible rfl
        rotate_left
        ·simp only [Act.put,sA,sZ,sS,i64_w]
         rfl)
       refine stillS_nil ?_;refine on9 (i:=8) (N:=some 57) rfl rfl (by kernel_rfl) (by decide) (fun K hK=> ?_);refine goes_ Try.func141 (by kernel_rfl) rfl #[.agg #[.int .i64 d.kind,.int .i64 d.a,.int .i64 d.b],.int .i64 p.cells.length] (by rfl) rfl rfl (by (try simp only [List.map_toArray,List.map_cons,List.map_nil]);first | done | rfl) ?_;refine (l1Deed_calls d p.cells.length _ (by omega) (by omega)).mono ?_;rw [HD.out];rintro e wn ⟨rfl,hb⟩;refine ⟨_,rfl, ?_⟩;refine hK.out _ _ ⟨zb8 hHeld.1 hb,zb8 hHeld.2.1 hb,cellB hb hHeld.2.2.1,cellB hb hHeld.2.2.2.1,cellB hb hHeld.2.2.2.2⟩ (fun hHeld=> ?_);clear hK K;refine norm_ (a':= ?_) ?_ ?_;rotate_left
       ·show Act.put _ (some 57) _=_
        simp only [Act.put,sA,sZ,sS,i64_w];rfl
       have HB:=am (below_step HB7.out hb);refine ba9 (fuel:=0) (n:=1) [9] (by kernel_rfl) (fun N _ _ _ _ h=>by cases N <;> exact h) hHeld ?_
       iterate 1 (
        refine stillS_step (v:= ?_) (a':= ?_) rfl (Or.inl ⟨by rfl, ?_⟩) ?_ ?_;rotate_left
        ·intro W hW
         go_simp
         with_reducible rfl
        rotate_left
        ·simp only [Act.put,sA,sZ,sS,i64_w]
         rfl)
       refine stillS_nil ?_;have BP:=am hHeld.1;have BA:=am hHeld.2.1;clear hHeld HB7 hb;have BPc:=zc8 BP.out;have BAc:=zc8 BA.out;refine done_ (by kernel_rfl) ?_;go_wp2;go_roundw
       case rel=>exact ⟨k+1,by omega,by go_num,⟨fun i hi=>by rcases Nat.lt_or_ge i k with h | h;exact HJ.out i h;obtain rfl:i=k:=(by omega);rw [<-DX.out];exact HD.out⟩,BP,BA,HB⟩
       case measure=>simp [intOf];omega
      | false=>
       have HD:=am hdo;clear hdo;go_wp2;refine st9 (n:=10) (S:=fun W=>W.heap[gp]? = some (.cells #[.slice Ac p.cells.length cc,.slice Ab p.bodies.length cb] 48 (0,0))/\W.heap[ga]? = some (.cells #[.int .i64 a.kind,.slice (some ⟨bd,od,none⟩) a.deeds.length cd,.slice Ak a.kids.length ck,.int .i64 a.reg] 108 (0,0))/\W.cell? ⟨bd,od+k*3,none⟩=some (.int .i64 d.kind)/\W.cell? ⟨bd,od+k*3+1,none⟩=some (.int .i64 d.a)/\W.cell? ⟨bd,od+k*3+2,none⟩=some (.int .i64 d.b)) (ds:= []) (by kernel_rfl) rfl ⟨blk_drew BP.out,blk_drew BA.out,(show wr.cell? ⟨bd,od+k*3,none⟩=_ from cellB HB.out D0.out),(show wr.cell? ⟨bd,od+k*3+1,none⟩=_ from cellB HB.out D1.out),(show wr.cell? ⟨bd,od+k*3+2,none⟩=_ from cellB HB.out D2.out)⟩ (fun hHeld=> ?_);have hb:=below_drew (Below.refl wr.heap.size wr);generalize wr.drew=w7 at hb hHeld ⊢;have HB7:=am (below_step HB.out hb);clear hb HB BP BA BPc BAc;refine ba9 (fuel:=2) (n:=8) [0,1,2,3,4,5,6,7] (by kernel_rfl) (fun N _ _ _ _ h=>by cases N <;> exact h) hHeld ?_
       iterate 8 (
        refine stillS_step (v:= ?_) (a':= ?_) rfl (Or.inl ⟨by rfl, ?_⟩) ?_ ?_;rotate_left
        ·rintro W ⟨s0,s2,s3,s4,s5⟩
         have t0:=zc8 s0;have t2:=zc8 s2;clear s0 s2;go_simp;with_reducible rfl
        rotate_left
        ·simp only [Act.put,sA,sZ,sS,i64_w]
         rfl)
       refine stillS_nil ?_;refine on9 (i:=8) (N:=some 57) rfl rfl (by kernel_rfl) (by decide) (fun K hK=> ?_);refine goes_ Try.func141 (by kernel_rfl) rfl #[.agg #[.int .i64 d.kind,.int .i64 d.a,.int .i64 d.b],.int .i64 p.cells.length] (by rfl) rfl rfl (by (try simp only [List.map_toArray,List.map_cons,List.map_nil]);first | done | rfl) ?_;refine (l1Deed_calls d p.cells.length _ (by omega) (by omega)).mono ?_;rw [HD.out];rintro e wn ⟨rfl,hb⟩;refine ⟨_,rfl, ?_⟩;refine hK.out _ _ ⟨zb8 hHeld.1 hb,zb8 hHeld.2.1 hb,cellB hb hHeld.2.2.1,cellB hb hHeld.2.2.2.1,cellB hb hHeld.2.2.2.2⟩ (fun hHeld=> ?_);clear hK K;refine norm_ (a':= ?_) ?_ ?_;rotate_left
       ·show Act.put _ (some 57) _=_
        simp only [Act.put,sA,sZ,sS,i64_w];rfl
       have HB:=am (below_step HB7.out hb);refine ba9 (fuel:=0) (n:=1) [9] (by kernel_rfl) (fun N _ _ _ _ h=>by cases N <;> exact h) hHeld ?_
       iterate 1 (
        refine stillS_step (v:= ?_) (a':= ?_) rfl (Or.inl ⟨by rfl, ?_⟩) ?_ ?_;rotate_left
        ·intro W hW
         go_simp
         with_reducible rfl
        rotate_left
        ·simp only [Act.put,sA,sZ,sS,i64_w]
         rfl)
       refine stillS_nil ?_;have BP:=am hHeld.1;have BA:=am hHeld.2.1;clear hHeld HB7 hb;have BPc:=zc8 BP.out;have BAc:=zc8 BA.out;refine done_ (by kernel_rfl) ?_;go_wp2;go_ret
       have hr:actOk p.cells.length p.bodies.length body a=false:=by
        unfold actOk;rw [if_neg (fun h=>by rcases h with h | h | h;exact (fun h=>h.1 KK.out) h;exact (fun h=>h.2 E_kids.out) h;exact (fun h=>h.2 E_reg.out) h),if_pos KK.out];unfold deedsOk;rw [allB_no hlt (by rw [<-DX.out];exact HD.out),Bool.false_and]
       rw [hr];exact ⟨rfl,HB.out⟩
     ·obtain rfl:k=a.deeds.length:=by omega
      go_wp2;go_ret
      have hr:actOk p.cells.length p.bodies.length body a=decide ((a.deeds.length:Int)<=5):=by
       unfold actOk;rw [if_neg (fun h=>by rcases h with h | h | h;exact (fun h=>h.1 KK.out) h;exact (fun h=>h.2 E_kids.out) h;exact (fun h=>h.2 E_reg.out) h),if_pos KK.out];unfold deedsOk;rw [allB_iff.2 HJ.out,Bool.true_and];exact decide_eq_decide.2 (by omega)
      rw [hr];exact ⟨rfl,HB.out⟩
   ·have u_reg:(a.reg != 0)=true:=by simp [r0]
    have E_reg:=am r0;clear r0
    go_wp2_with (first
    |((with_reducible refine gate_dst (N:=3) rfl ?_);refine box_event rfl (N:=3) rfl (t:=48) (by go_simp<;>rfl) ?_;intro gp hg w1 hbox hb;have BP:=am hbox;have HB:=am hb;have BPc:=zc8 BP.out;clear hbox hb hg)
    |((with_reducible refine gate_dst (N:=5) rfl ?_);refine box_event rfl (N:=5) rfl (t:=108) (by go_simp<;>rfl) ?_;intro ga hg w2 hbox hb;have BA:=am hbox;replace HB:=am (below_step HB.out hb);replace BP:=am (zb8 BP.out hb);clear BPc hbox hb hg;have BPc:=zc8 BP.out;have BAc:=zc8 BA.out))
    go_ret
    have hr:actOk p.cells.length p.bodies.length body a=false:=by
     unfold actOk;rw [if_pos (.inr (.inr ⟨(by have:=KK.out;omega),E_reg.out⟩))]
    rw [hr];exact ⟨rfl,HB.out⟩
  ·have l_kids:=List.length_pos_iff.2 e_kids
   have u_kids:decide (0 < a.kids.length)=true:=decide_eq_true l_kids;have v_kids:decide (0 < (a.kids.length:Int))=true:=decide_eq_true (by omega);have E_kids:=am e_kids;clear e_kids l_kids
   go_wp2_with (first
   |((with_reducible refine gate_dst (N:=3) rfl ?_);refine box_event rfl (N:=3) rfl (t:=48) (by go_simp<;>rfl) ?_;intro gp hg w1 hbox hb;have BP:=am hbox;have HB:=am hb;have BPc:=zc8 BP.out;clear hbox hb hg)
   |((with_reducible refine gate_dst (N:=5) rfl ?_);refine box_event rfl (N:=5) rfl (t:=108) (by go_simp<;>rfl) ?_;intro ga hg w2 hbox hb;have BA:=am hbox;replace HB:=am (below_step HB.out hb);replace BP:=am (zb8 BP.out hb);clear BPc hbox hb hg;have BPc:=zc8 BP.out;have BAc:=zc8 BA.out))
   go_ret
   have hr:actOk p.cells.length p.bodies.length body a=false:=by
    unfold actOk;rw [if_pos (.inr (.inl ⟨(by have:=KK.out;omega),E_kids.out⟩))]
   rw [hr];exact ⟨rfl,HB.out⟩
 ·have n1:=kk
  clear kk;by_cases kk:a.kind=2
  ·skip
   have z1:(a.kind != 1)=true:=by simp [kk]
   have z2:(a.kind != 2)=false:=by simp [kk]
   have z4:(a.kind != 4)=true:=by simp [kk]
   have y1:(a.kind == 1)=false:=by simp [kk]
   have y2:(a.kind == 2)=true:=by simp [kk]
   have KK:=am kk;clear kk n1;by_cases e_deeds:a.deeds= []
   ·have u_deeds:decide (0 < a.deeds.length)=false:=by rw [e_deeds];rfl
    have v_deeds:decide (0 < (a.deeds.length:Int))=false:=by rw [e_deeds];rfl
    have E_deeds:=am e_deeds;clear e_deeds;by_cases r0:a.reg=0
    ·have u_reg:(a.reg != 0)=false:=by simp [r0]
     have E_reg:=am r0;clear r0;obtain ⟨bz,hbz⟩:∃ b,kidsOk a.kids body p.bodies.length=b:=⟨_,rfl⟩;have HZ:=am hbz;clear hbz
     go_wp2_with (first
     |((with_reducible refine gate_dst (N:=3) rfl ?_);refine box_event rfl (N:=3) rfl (t:=48) (by go_simp<;>rfl) ?_;intro gp hg w1 hbox hb;have BP:=am hbox;have HB:=am hb;have BPc:=zc8 BP.out;clear hbox hb hg)
     |((with_reducible refine gate_dst (N:=5) rfl ?_);refine box_event rfl (N:=5) rfl (t:=108) (by go_simp<;>rfl) ?_;intro ga hg w2 hbox hb;have BA:=am hbox;replace HB:=am (below_step HB.out hb);replace BP:=am (zb8 BP.out hb);clear BPc hbox hb hg;have BPc:=zc8 BP.out;have BAc:=zc8 BA.out)
     |(go_at_call 142;refine (l1Kids_calls Ak ck a.kids body p.bodies.length _ (Kd.C_below HKS.out HB.out) hkn ⟨hb0,hb1⟩ ⟨by omega,by omega⟩).mono ?_;rw [HZ.out];rintro e w9 ⟨rfl,rfl⟩))
     go_ret
     have hr:actOk p.cells.length p.bodies.length body a=bz:=by
      unfold actOk;rw [if_neg (fun h=>by rcases h with h | h | h;exact (fun h=>h.2 E_deeds.out) h;exact (fun h=>h.1 KK.out) h;exact (fun h=>h.2 E_reg.out) h),if_neg (by have:=KK.out;omega),if_pos KK.out];exact HZ.out
     rw [hr];exact ⟨rfl,HB.out⟩
    ·have u_reg:(a.reg != 0)=true:=by simp [r0]
     have E_reg:=am r0;clear r0
     go_wp2_with (first
     |((with_reducible refine gate_dst (N:=3) rfl ?_);refine box_event rfl (N:=3) rfl (t:=48) (by go_simp<;>rfl) ?_;intro gp hg w1 hbox hb;have BP:=am hbox;have HB:=am hb;have BPc:=zc8 BP.out;clear hbox hb hg)
     |((with_reducible refine gate_dst (N:=5) rfl ?_);refine box_event rfl (N:=5) rfl (t:=108) (by go_simp<;>rfl) ?_;intro ga hg w2 hbox hb;have BA:=am hbox;replace HB:=am (below_step HB.out hb);replace BP:=am (zb8 BP.out hb);clear BPc hbox hb hg;have BPc:=zc8 BP.out;have BAc:=zc8 BA.out))
     go_ret
     have hr:actOk p.cells.length p.bodies.length body a=false:=by
      unfold actOk;rw [if_pos (.inr (.inr ⟨(by have:=KK.out;omega),E_reg.out⟩))]
     rw [hr];exact ⟨rfl,HB.out⟩
   ·have l_deeds:=List.length_pos_iff.2 e_deeds
    have u_deeds:decide (0 < a.deeds.length)=true:=decide_eq_true l_deeds;have v_deeds:decide (0 < (a.deeds.length:Int))=true:=decide_eq_true (by omega);have E_deeds:=am e_deeds;clear e_deeds l_deeds
    go_wp2_with (first
    |((with_reducible refine gate_dst (N:=3) rfl ?_);refine box_event rfl (N:=3) rfl (t:=48) (by go_simp<;>rfl) ?_;intro gp hg w1 hbox hb;have BP:=am hbox;have HB:=am hb;have BPc:=zc8 BP.out;clear hbox hb hg)
    |((with_reducible refine gate_dst (N:=5) rfl ?_);refine box_event rfl (N:=5) rfl (t:=108) (by go_simp<;>rfl) ?_;intro ga hg w2 hbox hb;have BA:=am hbox;replace HB:=am (below_step HB.out hb);replace BP:=am (zb8 BP.out hb);clear BPc hbox hb hg;have BPc:=zc8 BP.out;have BAc:=zc8 BA.out))
    go_ret
    have hr:actOk p.cells.length p.bodies.length body a=false:=by
     unfold actOk;rw [if_pos (.inl ⟨(by have:=KK.out;omega),E_deeds.out⟩)]
    rw [hr];exact ⟨rfl,HB.out⟩
  ·have n2:=kk
   clear kk;by_cases kk:a.kind=3
   ·skip
    have z1:(a.kind != 1)=true:=by simp [kk]
    have z2:(a.kind != 2)=true:=by simp [kk]
    have z4:(a.kind != 4)=true:=by simp [kk]
    have y1:(a.kind == 1)=false:=by simp [kk]
    have y2:(a.kind == 2)=false:=by simp [kk]
    have y3:(a.kind == 3)=true:=by simp [kk]
    have KK:=am kk;clear kk n1 n2;by_cases e_deeds:a.deeds= []
    ·have u_deeds:decide (0 < a.deeds.length)=false:=by rw [e_deeds];rfl
     have v_deeds:decide (0 < (a.deeds.length:Int))=false:=by rw [e_deeds];rfl
     have E_deeds:=am e_deeds;clear e_deeds;by_cases e_kids:a.kids= []
     ·have u_kids:decide (0 < a.kids.length)=false:=by rw [e_kids];rfl
      have v_kids:decide (0 < (a.kids.length:Int))=false:=by rw [e_kids];rfl
      have E_kids:=am e_kids;clear e_kids;by_cases r0:a.reg=0
      ·have u_reg:(a.reg != 0)=false:=by simp [r0]
       have E_reg:=am r0;clear r0
       go_wp2_with (first
       |((with_reducible refine gate_dst (N:=3) rfl ?_);refine box_event rfl (N:=3) rfl (t:=48) (by go_simp<;>rfl) ?_;intro gp hg w1 hbox hb;have BP:=am hbox;have HB:=am hb;have BPc:=zc8 BP.out;clear hbox hb hg)
       |((with_reducible refine gate_dst (N:=5) rfl ?_);refine box_event rfl (N:=5) rfl (t:=108) (by go_simp<;>rfl) ?_;intro ga hg w2 hbox hb;have BA:=am hbox;replace HB:=am (below_step HB.out hb);replace BP:=am (zb8 BP.out hb);clear BPc hbox hb hg;have BPc:=zc8 BP.out;have BAc:=zc8 BA.out))
       go_ret
       have hr:actOk p.cells.length p.bodies.length body a=true:=by
        unfold actOk;rw [if_neg (fun h=>by rcases h with h | h | h;exact (fun h=>h.2 E_deeds.out) h;exact (fun h=>h.2 E_kids.out) h;exact (fun h=>h.2 E_reg.out) h),if_neg (by have:=KK.out;omega),if_neg (by have:=KK.out;omega),if_pos KK.out]
       rw [hr];exact ⟨rfl,HB.out⟩
      ·have u_reg:(a.reg != 0)=true:=by simp [r0]
       have E_reg:=am r0;clear r0
       go_wp2_with (first
       |((with_reducible refine gate_dst (N:=3) rfl ?_);refine box_event rfl (N:=3) rfl (t:=48) (by go_simp<;>rfl) ?_;intro gp hg w1 hbox hb;have BP:=am hbox;have HB:=am hb;have BPc:=zc8 BP.out;clear hbox hb hg)
       |((with_reducible refine gate_dst (N:=5) rfl ?_);refine box_event rfl (N:=5) rfl (t:=108) (by go_simp<;>rfl) ?_;intro ga hg w2 hbox hb;have BA:=am hbox;replace HB:=am (below_step HB.out hb);replace BP:=am (zb8 BP.out hb);clear BPc hbox hb hg;have BPc:=zc8 BP.out;have BAc:=zc8 BA.out))
       go_ret
       have hr:actOk p.cells.length p.bodies.length body a=false:=by
        unfold actOk;rw [if_pos (.inr (.inr ⟨(by have:=KK.out;omega),E_reg.out⟩))]
       rw [hr];exact ⟨rfl,HB.out⟩
     ·have l_kids:=List.length_pos_iff.2 e_kids
      have u_kids:decide (0 < a.kids.length)=true:=decide_eq_true l_kids;have v_kids:decide (0 < (a.kids.length:Int))=true:=decide_eq_true (by omega);have E_kids:=am e_kids;clear e_kids l_kids
      go_wp2_with (first
      |((with_reducible refine gate_dst (N:=3) rfl ?_);refine box_event rfl (N:=3) rfl (t:=48) (by go_simp<;>rfl) ?_;intro gp hg w1 hbox hb;have BP:=am hbox;have HB:=am hb;have BPc:=zc8 BP.out;clear hbox hb hg)
      |((with_reducible refine gate_dst (N:=5) rfl ?_);refine box_event rfl (N:=5) rfl (t:=108) (by go_simp<;>rfl) ?_;intro ga hg w2 hbox hb;have BA:=am hbox;replace HB:=am (below_step HB.out hb);replace BP:=am (zb8 BP.out hb);clear BPc hbox hb hg;have BPc:=zc8 BP.out;have BAc:=zc8 BA.out))
      go_ret
      have hr:actOk p.cells.length p.bodies.length body a=false:=by
       unfold actOk;rw [if_pos (.inr (.inl ⟨(by have:=KK.out;omega),E_kids.out⟩))]
      rw [hr];exact ⟨rfl,HB.out⟩
    ·have l_deeds:=List.length_pos_iff.2 e_deeds
     have u_deeds:decide (0 < a.deeds.length)=true:=decide_eq_true l_deeds;have v_deeds:decide (0 < (a.deeds.length:Int))=true:=decide_eq_true (by omega);have E_deeds:=am e_deeds;clear e_deeds l_deeds
     go_wp2_with (first
     |((with_reducible refine gate_dst (N:=3) rfl ?_);refine box_event rfl (N:=3) rfl (t:=48) (by go_simp<;>rfl) ?_;intro gp hg w1 hbox hb;have BP:=am hbox;have HB:=am hb;have BPc:=zc8 BP.out;clear hbox hb hg)
     |((with_reducible refine gate_dst (N:=5) rfl ?_);refine box_event rfl (N:=5) rfl (t:=108) (by go_simp<;>rfl) ?_;intro ga hg w2 hbox hb;have BA:=am hbox;replace HB:=am (below_step HB.out hb);replace BP:=am (zb8 BP.out hb);clear BPc hbox hb hg;have BPc:=zc8 BP.out;have BAc:=zc8 BA.out))
     go_ret
     have hr:actOk p.cells.length p.bodies.length body a=false:=by
      unfold actOk;rw [if_pos (.inl ⟨(by have:=KK.out;omega),E_deeds.out⟩)]
     rw [hr];exact ⟨rfl,HB.out⟩
   ·have n3:=kk
    clear kk;by_cases kk:a.kind=4
    ·skip
     have z1:(a.kind != 1)=true:=by simp [kk]
     have z2:(a.kind != 2)=true:=by simp [kk]
     have z4:(a.kind != 4)=false:=by simp [kk]
     have y1:(a.kind == 1)=false:=by simp [kk]
     have y2:(a.kind == 2)=false:=by simp [kk]
     have y3:(a.kind == 3)=false:=by simp [kk]
     have y4:(a.kind == 4)=true:=by simp [kk]
     have KK:=am kk;clear kk n1 n2 n3;by_cases e_deeds:a.deeds= []
     ·have u_deeds:decide (0 < a.deeds.length)=false:=by rw [e_deeds];rfl
      have v_deeds:decide (0 < (a.deeds.length:Int))=false:=by rw [e_deeds];rfl
      have E_deeds:=am e_deeds;clear e_deeds;by_cases e_kids:a.kids= []
      ·have u_kids:decide (0 < a.kids.length)=false:=by rw [e_kids];rfl
       have v_kids:decide (0 < (a.kids.length:Int))=false:=by rw [e_kids];rfl
       have E_kids:=am e_kids;clear e_kids;obtain ⟨bz,hbz⟩:∃ b,inB a.reg 0 2=b:=⟨_,rfl⟩;have HI:Aside0 ((decide ((0:Int)<=a.reg) && decide (a.reg<=2))=bz):=⟨hbz⟩;clear hbz
       go_wp2_with (first
       |((with_reducible refine gate_dst (N:=3) rfl ?_);refine box_event rfl (N:=3) rfl (t:=48) (by go_simp<;>rfl) ?_;intro gp hg w1 hbox hb;have BP:=am hbox;have HB:=am hb;have BPc:=zc8 BP.out;clear hbox hb hg)
       |((with_reducible refine gate_dst (N:=5) rfl ?_);refine box_event rfl (N:=5) rfl (t:=108) (by go_simp<;>rfl) ?_;intro ga hg w2 hbox hb;have BA:=am hbox;replace HB:=am (below_step HB.out hb);replace BP:=am (zb8 BP.out hb);clear BPc hbox hb hg;have BPc:=zc8 BP.out;have BAc:=zc8 BA.out)
       |(go_at_call 50;refine (l6In_calls _ _ _ _).mono ?_;(first|rw [HI.out]);rintro e w9 ⟨rfl,rfl⟩))
       go_ret
       have hr:actOk p.cells.length p.bodies.length body a=bz:=by
        unfold actOk;rw [if_neg (fun h=>by rcases h with h | h | h;exact (fun h=>h.2 E_deeds.out) h;exact (fun h=>h.2 E_kids.out) h;exact (fun h=>h.1 KK.out) h),if_neg (by have:=KK.out;omega),if_neg (by have:=KK.out;omega),if_neg (by have:=KK.out;omega),if_pos KK.out];exact HI.out
       rw [hr];exact ⟨rfl,HB.out⟩
      ·have l_kids:=List.length_pos_iff.2 e_kids
       have u_kids:decide (0 < a.kids.length)=true:=decide_eq_true l_kids;have v_kids:decide (0 < (a.kids.length:Int))=true:=decide_eq_true (by omega);have E_kids:=am e_kids;clear e_kids l_kids
       go_wp2_with (first
       |((with_reducible refine gate_dst (N:=3) rfl ?_);refine box_event rfl (N:=3) rfl (t:=48) (by go_simp<;>rfl) ?_;intro gp hg w1 hbox hb;have BP:=am hbox;have HB:=am hb;have BPc:=zc8 BP.out;clear hbox hb hg)
       |((with_reducible refine gate_dst (N:=5) rfl ?_);refine box_event rfl (N:=5) rfl (t:=108) (by go_simp<;>rfl) ?_;intro ga hg w2 hbox hb;have BA:=am hbox;replace HB:=am (below_step HB.out hb);replace BP:=am (zb8 BP.out hb);clear BPc hbox hb hg;have BPc:=zc8 BP.out;have BAc:=zc8 BA.out))
       go_ret
       have hr:actOk p.cells.length p.bodies.length body a=false:=by
        unfold actOk;rw [if_pos (.inr (.inl ⟨(by have:=KK.out;omega),E_kids.out⟩))]
       rw [hr];exact ⟨rfl,HB.out⟩
     ·have l_deeds:=List.length_pos_iff.2 e_deeds
      have u_deeds:decide (0 < a.deeds.length)=true:=decide_eq_true l_deeds;have v_deeds:decide (0 < (a.deeds.length:Int))=true:=decide_eq_true (by omega);have E_deeds:=am e_deeds;clear e_deeds l_deeds
      go_wp2_with (first
      |((with_reducible refine gate_dst (N:=3) rfl ?_);refine box_event rfl (N:=3) rfl (t:=48) (by go_simp<;>rfl) ?_;intro gp hg w1 hbox hb;have BP:=am hbox;have HB:=am hb;have BPc:=zc8 BP.out;clear hbox hb hg)
      |((with_reducible refine gate_dst (N:=5) rfl ?_);refine box_event rfl (N:=5) rfl (t:=108) (by go_simp<;>rfl) ?_;intro ga hg w2 hbox hb;have BA:=am hbox;replace HB:=am (below_step HB.out hb);replace BP:=am (zb8 BP.out hb);clear BPc hbox hb hg;have BPc:=zc8 BP.out;have BAc:=zc8 BA.out))
      go_ret
      have hr:actOk p.cells.length p.bodies.length body a=false:=by
       unfold actOk;rw [if_pos (.inl ⟨(by have:=KK.out;omega),E_deeds.out⟩)]
      rw [hr];exact ⟨rfl,HB.out⟩
    ·have n4:=kk
     clear kk;have N1:=am n1;have N2:=am n2;have N3:=am n3;have N4:=am n4;have z1:(a.kind != 1)=true:=by simp [n1]
     have z2:(a.kind != 2)=true:=by simp [n2]
     have z4:(a.kind != 4)=true:=by simp [n4]
     have y1:(a.kind == 1)=false:=by simp [n1]
     have y2:(a.kind == 2)=false:=by simp [n2]
     have y3:(a.kind == 3)=false:=by simp [n3]
     have y4:(a.kind == 4)=false:=by simp [n4]
     clear n1 n2 n3 n4;by_cases e_deeds:a.deeds= []
     ·have u_deeds:decide (0 < a.deeds.length)=false:=by rw [e_deeds];rfl
      have v_deeds:decide (0 < (a.deeds.length:Int))=false:=by rw [e_deeds];rfl
      have E_deeds:=am e_deeds;clear e_deeds;by_cases e_kids:a.kids= []
      ·have u_kids:decide (0 < a.kids.length)=false:=by rw [e_kids];rfl
       have v_kids:decide (0 < (a.kids.length:Int))=false:=by rw [e_kids];rfl
       have E_kids:=am e_kids;clear e_kids;by_cases r0:a.reg=0
       ·have u_reg:(a.reg != 0)=false:=by simp [r0]
        have E_reg:=am r0;clear r0
        go_wp2_with (first
        |((with_reducible refine gate_dst (N:=3) rfl ?_);refine box_event rfl (N:=3) rfl (t:=48) (by go_simp<;>rfl) ?_;intro gp hg w1 hbox hb;have BP:=am hbox;have HB:=am hb;have BPc:=zc8 BP.out;clear hbox hb hg)
        |((with_reducible refine gate_dst (N:=5) rfl ?_);refine box_event rfl (N:=5) rfl (t:=108) (by go_simp<;>rfl) ?_;intro ga hg w2 hbox hb;have BA:=am hbox;replace HB:=am (below_step HB.out hb);replace BP:=am (zb8 BP.out hb);clear BPc hbox hb hg;have BPc:=zc8 BP.out;have BAc:=zc8 BA.out))
        go_ret
        have hr:actOk p.cells.length p.bodies.length body a=false:=by
         unfold actOk;rw [if_neg (fun h=>by rcases h with h | h | h;exact (fun h=>h.2 E_deeds.out) h;exact (fun h=>h.2 E_kids.out) h;exact (fun h=>h.2 E_reg.out) h),if_neg N1.out,if_neg N2.out,if_neg N3.out,if_neg N4.out]
        rw [hr];exact ⟨rfl,HB.out⟩
       ·have u_reg:(a.reg != 0)=true:=by simp [r0]
        have E_reg:=am r0;clear r0
        go_wp2_with (first
        |((with_reducible refine gate_dst (N:=3) rfl ?_);refine box_event rfl (N:=3) rfl (t:=48) (by go_simp<;>rfl) ?_;intro gp hg w1 hbox hb;have BP:=am hbox;have HB:=am hb;have BPc:=zc8 BP.out;clear hbox hb hg)
        |((with_reducible refine gate_dst (N:=5) rfl ?_);refine box_event rfl (N:=5) rfl (t:=108) (by go_simp<;>rfl) ?_;intro ga hg w2 hbox hb;have BA:=am hbox;replace HB:=am (below_step HB.out hb);replace BP:=am (zb8 BP.out hb);clear BPc hbox hb hg;have BPc:=zc8 BP.out;have BAc:=zc8 BA.out))
        go_ret
        have hr:actOk p.cells.length p.bodies.length body a=false:=by
         unfold actOk;rw [if_pos (.inr (.inr ⟨N4.out,E_reg.out⟩))]
        rw [hr];exact ⟨rfl,HB.out⟩
      ·have l_kids:=List.length_pos_iff.2 e_kids
       have u_kids:decide (0 < a.kids.length)=true:=decide_eq_true l_kids;have v_kids:decide (0 < (a.kids.length:Int))=true:=decide_eq_true (by omega);have E_kids:=am e_kids;clear e_kids l_kids
       go_wp2_with (first
       |((with_reducible refine gate_dst (N:=3) rfl ?_);refine box_event rfl (N:=3) rfl (t:=48) (by go_simp<;>rfl) ?_;intro gp hg w1 hbox hb;have BP:=am hbox;have HB:=am hb;have BPc:=zc8 BP.out;clear hbox hb hg)
       |((with_reducible refine gate_dst (N:=5) rfl ?_);refine box_event rfl (N:=5) rfl (t:=108) (by go_simp<;>rfl) ?_;intro ga hg w2 hbox hb;have BA:=am hbox;replace HB:=am (below_step HB.out hb);replace BP:=am (zb8 BP.out hb);clear BPc hbox hb hg;have BPc:=zc8 BP.out;have BAc:=zc8 BA.out))
       go_ret
       have hr:actOk p.cells.length p.bodies.length body a=false:=by
        unfold actOk;rw [if_pos (.inr (.inl ⟨N2.out,E_kids.out⟩))]
       rw [hr];exact ⟨rfl,HB.out⟩
     ·have l_deeds:=List.length_pos_iff.2 e_deeds
      have u_deeds:decide (0 < a.deeds.length)=true:=decide_eq_true l_deeds;have v_deeds:decide (0 < (a.deeds.length:Int))=true:=decide_eq_true (by omega);have E_deeds:=am e_deeds;clear e_deeds l_deeds
      go_wp2_with (first
      |((with_reducible refine gate_dst (N:=3) rfl ?_);refine box_event rfl (N:=3) rfl (t:=48) (by go_simp<;>rfl) ?_;intro gp hg w1 hbox hb;have BP:=am hbox;have HB:=am hb;have BPc:=zc8 BP.out;clear hbox hb hg)
      |((with_reducible refine gate_dst (N:=5) rfl ?_);refine box_event rfl (N:=5) rfl (t:=108) (by go_simp<;>rfl) ?_;intro ga hg w2 hbox hb;have BA:=am hbox;replace HB:=am (below_step HB.out hb);replace BP:=am (zb8 BP.out hb);clear BPc hbox hb hg;have BPc:=zc8 BP.out;have BAc:=zc8 BA.out))
      go_ret
      have hr:actOk p.cells.length p.bodies.length body a=false:=by
       unfold actOk;rw [if_pos (.inl ⟨N1.out,E_deeds.out⟩)]
      rw [hr];exact ⟨rfl,HB.out⟩
structure ProgSz (p:Prog):Prop where
 cells:p.cells.length<=1048576
 bodies:p.bodies.length<=1048576
 acts:∀ b ∈ p.bodies,b.length<=1048576/\∀ a ∈ b,a.deeds.length<=1048576/\a.kids.length<=1048576
theorem l1Form_calls (p:Prog) (pcs:List Value) (w:World) (hp:kProg.K w p pcs) (hz:ProgSz p):
  Calls Try.prog 89 #[.agg pcs.toArray] w fun e w'=>e= .returned (.bool (formOk p))/\Below w.heap.size w w':=by
 have HPK:=am hp;obtain ⟨Ac,cc,Ab,cb,rfl,-,gc,-,gb⟩:=kProg_open hp;have HCL:=am gc;have HBD:=am gb;have hzc:=hz.cells;have hzb:=hz.bodies;have HZ:=am hz.acts;clear hp gc gb hz;go_enter Try.func89,Try.ntmps89;by_cases c3:p.cells.length<=3
 ·have u3:decide (3 < p.cells.length)=false:=decide_eq_false (by omega)
  have v3:decide ((3:Int) < (p.cells.length:Int))=false:=decide_eq_false (by omega);have C3:=am c3
  cases hbi:inB (p.bodies.length:Int) 1 4 with
  | false=>
   have HI:Aside0 ((decide ((1:Int)<=(p.bodies.length:Int)) && decide ((p.bodies.length:Int)<=4))=false):=⟨hbi⟩;clear hbi
   go_wp2_with (first
   |((with_reducible refine gate_dst (N:=1) rfl ?_);refine box_event rfl (N:=1) rfl (t:=48) (by go_simp<;>rfl) ?_;intro gp hg w1 hbox hb;have BP:=am hbox;have HB:=am hb;have BPc:=zc8 BP.out;clear hbox hb hg)
   |(go_at_call 50;refine (l6In_calls _ _ _ _).mono ?_;(first|rw [HI.out]);rintro e w9 ⟨rfl,rfl⟩))
   go_ret
   have hr:formOk p=false:=by
    unfold formOk;rw [show inB (p.bodies.length:Int) 1 4=false from HI.out,Bool.and_false,Bool.false_and,Bool.false_and]
   rw [hr]
   exact ⟨rfl,HB.out⟩
  | true=>
   have HI:Aside0 ((decide ((1:Int)<=(p.bodies.length:Int)) && decide ((p.bodies.length:Int)<=4))=true):=⟨hbi⟩;have hb4:=(inB_iff.1 hbi).2;clear hbi
   go_wp2_with (first
   |((with_reducible refine gate_dst (N:=1) rfl ?_);refine box_event rfl (N:=1) rfl (t:=48) (by go_simp<;>rfl) ?_;intro gp hg w1 hbox hb;have BP:=am hbox;have HB:=am hb;have BPc:=zc8 BP.out;clear hbox hb hg)
   |(go_at_call 50;refine (l6In_calls _ _ _ _).mono ?_;(first|rw [HI.out]);rintro e w9 ⟨rfl,rfl⟩))
   go_loopw [3] (fun j w'=>∃ k:Nat,k<=p.cells.length/\j= .int .i64 k/\Aside0 (∀ i,i < k->inB (numAt p.cells i) 0 99=true)/\Aside0 (w'.heap[gp]? = some (.cells #[.slice Ac p.cells.length cc,.slice Ab p.bodies.length cb] 48 (0,0)))/\Aside0 (Below w.heap.size w w')) (fun j _=>p.cells.length - (intOf j).toNat)
   case atStart=>exact ⟨0,Nat.zero_le _,rfl,⟨fun i hi=>by omega⟩,BP,HB⟩
   case round=>
    clear BP HB BPc;obtain ⟨k,hk,rfl,HJ,BP,HB⟩:=hrel;have BPc:=zc8 BP.out;by_cases hlt:k < p.cells.length
    ·have q0:(0:Int)<=(k:Int):=by omega
     have q1:(k:Int) < (p.cells.length:Int):=by omega
     obtain ⟨ad,rfl,gx⟩:=Kd.at_int (Kd.C_below HCL.out HB.out) (k:Int) q0 q1;simp only [Int.toNat_natCast] at gx;obtain ⟨x,hxx⟩:∃ x,x=numAt p.cells k:=⟨_,rfl⟩;rw [show rd p.cells (k:Int)=x from hxx.symm] at gx;have HXX:=am hxx;clear hxx
     cases hbx:inB x 0 99 with
     | true=>
      have HX:Aside0 ((decide ((0:Int)<=x) && decide (x<=99))=true):=⟨hbx⟩;clear hbx
      go_wp2_with (first
      |(go_at_call 50;refine (l6In_calls _ _ _ _).mono ?_;(first|rw [HX.out]);rintro e w9 ⟨rfl,rfl⟩))
      go_roundw
      case rel=>exact ⟨k+1,by omega,by go_num,⟨fun i hi=>by rcases Nat.lt_or_ge i k with h | h;exact HJ.out i h;obtain rfl:i=k:=(by omega);rw [<-HXX.out];exact HX.out⟩,BP,HB⟩
      case measure=>simp [intOf];omega
     | false=>
      have HX:Aside0 ((decide ((0:Int)<=x) && decide (x<=99))=false):=⟨hbx⟩;clear hbx
      go_wp2_with (first
      |(go_at_call 50;refine (l6In_calls _ _ _ _).mono ?_;(first|rw [HX.out]);rintro e w9 ⟨rfl,rfl⟩))
      go_ret
      have hr:formOk p=false:=by
       unfold formOk;rw [allB_no (n:=p.cells.length) hlt (by rw [<-HXX.out];exact HX.out),Bool.and_false,Bool.false_and]
      rw [hr];exact ⟨rfl,HB.out⟩
    ·obtain rfl:k=p.cells.length:=by omega
     have HCS:=am (allB_iff.2 HJ.out);clear HJ hlt hk;go_wp2;go_loopw [4] (fun j w'=>∃ k:Nat,k<=p.bodies.length/\j= .int .i64 k/\Aside0 (∀ i,i < k->bodyOk p.cells.length p.bodies.length i (actsAt p.bodies i)=true)/\Aside0 (w'.heap[gp]? = some (.cells #[.slice Ac p.cells.length cc,.slice Ab p.bodies.length cb] 48 (0,0)))/\Aside0 (Below w.heap.size w w')) (fun j _=>p.bodies.length - (intOf j).toNat)
     case atStart=>exact ⟨0,Nat.zero_le _,rfl,⟨fun i hi=>by omega⟩,BP,HB⟩
     case round=>
      clear BP HB BPc;obtain ⟨k,hk,rfl,HJ,BP,HB⟩:=hrel;have BPc:=zc8 BP.out;by_cases hlt:k < p.bodies.length
      ·obtain ⟨bb,ob,cs2,rfl,hcl2,hK2,hcc2,-⟩:=C_field HBD.out ([]:List Act) k hlt (by decide)
       obtain ⟨Aa,ca,rfl,la,ga2⟩:=hK2;have p2:=hcc2 0 _ rfl;simp only [show (Kd.slice 108 kAct).sz=1 from rfl,Nat.mul_one,Nat.add_zero] at p2;have GA2:=am (show kAct.C w Aa (actsAt p.bodies k).length (actsAt p.bodies k) from ga2);rw [show (p.bodies.getD k []).length=(actsAt p.bodies k).length from rfl] at p2;have P2:=am p2;have hmem:actsAt p.bodies k ∈ p.bodies:=by rw [actsAt_eq hlt];exact List.getElem_mem hlt
       have HZk:=am (HZ.out _ hmem);have p2w:=cellB HB.out p2;have q0:(0:Int)<=(k:Int):=by omega
       have q1:(k:Int) < (p.bodies.length:Int):=by omega
       clear hcc2 hcl2 ga2 la p2 hmem;by_cases c4:(actsAt p.bodies k).length<=4
       ·have u4:decide (4 < (actsAt p.bodies k).length)=false:=decide_eq_false (by omega)
        have v4:decide ((4:Int) < ((actsAt p.bodies k).length:Int))=false:=decide_eq_false (by omega);go_wp2;go_loopw [5] (fun j w'=>∃ m:Nat,m<=(actsAt p.bodies k).length/\j= .int .i64 m/\Aside0 (∀ i,i < m->actOk p.cells.length p.bodies.length k (actAt (actsAt p.bodies k) i)=true)/\Aside0 (w'.heap[gp]? = some (.cells #[.slice Ac p.cells.length cc,.slice (some ⟨bb,ob,none⟩) p.bodies.length cb] 48 (0,0)))/\Aside0 (Below w.heap.size w w')) (fun j _=>(actsAt p.bodies k).length - (intOf j).toNat)
        case atStart=>exact ⟨0,Nat.zero_le _,rfl,⟨fun i hi=>by omega⟩,BP,HB⟩
        case round=>
         clear BP HB BPc p2w;obtain ⟨m,hm,rfl,HM,BP,HB⟩:=hrel;have BPc:=zc8 BP.out;have p2w:=cellB HB.out P2.out;by_cases hmt:m < (actsAt p.bodies k).length
         ·obtain ⟨ba,oa,cs3,rfl,hcl3,hK3,hcc3,-⟩:=C_field GA2.out zAct m hmt (by decide)
          obtain ⟨a,hax⟩:∃ x,x=actAt (actsAt p.bodies k) m:=⟨_,rfl⟩;rw [show (actsAt p.bodies k).getD m zAct=a from hax.symm] at hK3;have HK:=am hK3;have AX:=am hax;have SZ:Aside0 _:=⟨HZk.out.2 a (by rw [hax];have h9:actAt (actsAt p.bodies k) m=(actsAt p.bodies k)[m]:=(by simp [actAt,hmt]);rw [h9];exact List.getElem_mem hmt)⟩;obtain ⟨Ad,cd,Ak,ck,rfl,-⟩:=kAct_open hK3;have HC:=am hcc3;have r0:(0:Int)<=(m:Int):=by omega
          have r1:(m:Int) < ((actsAt p.bodies k).length:Int):=by omega
          clear hcc3 hK3 hcl3 hax
          cases hao:actOk p.cells.length p.bodies.length k a with
          | true=>
           have HD:=am hao;clear hao;go_wp2;clear p2w;refine st9 (n:=12) (S:=fun W=>W.heap[gp]? = some (.cells #[.slice Ac p.cells.length cc,.slice (some ⟨bb,ob,none⟩) p.bodies.length cb] 48 (0,0))/\W.cell? ⟨bb,ob+k,none⟩=some (.slice (some ⟨ba,oa,none⟩) (actsAt p.bodies k).length ca)/\∀ j u, [.int .i64 a.kind,.slice Ad a.deeds.length cd,.slice Ak a.kids.length ck,.int .i64 a.reg][j]? = some u->W.cell? ⟨ba,oa+m*4+j,none⟩=some u) (ds:= []) (by kernel_rfl) rfl ⟨blk_drew BP.out,(show wr.cell? ⟨bb,ob+k,none⟩=_ from cellB HB.out P2.out),fun j u hu=>(show wr.cell? ⟨ba,oa+m*4+j,none⟩=_ from cellB HB.out (HC.out j u hu))⟩ (fun hHeld=> ?_);have hb:=below_drew (Below.refl wr.heap.size wr);generalize wr.drew=w7 at hb hHeld ⊢;have HB7:=am (below_step HB.out hb);clear hb HB BP BPc;refine ba9 (fuel:=2) (n:=10) [0,1,2,3,4,5,6,7,8,9] (by kernel_rfl) (fun N _ _ _ _ h=>by cases N <;> exact h) hHeld ?_
           iterate 10 (
            refine stillS_step (v:= ?_) (a':= ?_) rfl (Or.inl ⟨by rfl, ?_⟩) ?_ ?_;rotate_left
            ·rintro W ⟨s0,s2,s3⟩
             have t0:=zc8 s0;have u0:=s3 0 _ rfl;have u1:=s3 1 _ rfl;have u2:=s3 2 _ rfl;have u3:=s3 3 _ rfl;rw [Nat.add_zero] at u0;clear s0 s3;go_simp;with_reducible rfl
            rotate_left
            ·simp only [Act.put,sA,sZ,sS,i64_w]
             rfl)
           refine stillS_nil ?_;refine on9 (i:=10) (N:=some 65) rfl rfl (by kernel_rfl) (by decide) (fun K hK=> ?_);refine goes_ Try.func123 (by kernel_rfl) rfl #[.agg #[.slice Ac p.cells.length cc,.slice (some ⟨bb,ob,none⟩) p.bodies.length cb],.int .i64 k,.agg #[.int .i64 a.kind,.slice Ad a.deeds.length cd,.slice Ak a.kids.length ck,.int .i64 a.reg]] (by rfl) rfl rfl (by (try simp only [List.map_toArray,List.map_cons,List.map_nil]);first | done | rfl) ?_;refine (l1Act_calls p a _ _ (k:Int) _ (kProg.K_below HB7.out HPK.out) (kAct.K_below HB7.out HK.out) (by omega) (by omega) (by omega) (by omega) SZ.out.1 SZ.out.2).mono ?_;rw [HD.out];rintro e wn ⟨rfl,hb⟩;refine ⟨_,rfl, ?_⟩;refine hK.out _ _ ⟨zb8 hHeld.1 hb,cellB hb hHeld.2.1,fun j u hu=>cellB hb (hHeld.2.2 j u hu)⟩ (fun hHeld=> ?_);clear hK K;refine norm_ (a':= ?_) ?_ ?_;rotate_left
           ·show Act.put _ (some 65) _=_
            simp only [Act.put,sA,sZ,sS,i64_w];rfl
           have HB:=am (below_step HB7.out hb);refine ba9 (fuel:=0) (n:=1) [11] (by kernel_rfl) (fun N _ _ _ _ h=>by cases N <;> exact h) hHeld ?_
           iterate 1 (
            refine stillS_step (v:= ?_) (a':= ?_) rfl (Or.inl ⟨by rfl, ?_⟩) ?_ ?_;rotate_left
            ·intro W hW
             go_simp
             with_reducible rfl
            rotate_left
            ·simp only [Act.put,sA,sZ,sS,i64_w]
             rfl)
           refine stillS_nil ?_;have BP:=am hHeld.1;clear hHeld HB7 hb;have BPc:=zc8 BP.out;refine done_ (by kernel_rfl) ?_;go_wp2;go_roundw
           case rel=>exact ⟨m+1,by omega,by go_num,⟨fun i hi=>by rcases Nat.lt_or_ge i m with h | h;exact HM.out i h;obtain rfl:i=m:=(by omega);rw [<-AX.out];exact HD.out⟩,BP,HB⟩
           case measure=>simp [intOf];omega
          | false=>
           have HD:=am hao;clear hao;go_wp2;clear p2w;refine st9 (n:=12) (S:=fun W=>W.heap[gp]? = some (.cells #[.slice Ac p.cells.length cc,.slice (some ⟨bb,ob,none⟩) p.bodies.length cb] 48 (0,0))/\W.cell? ⟨bb,ob+k,none⟩=some (.slice (some ⟨ba,oa,none⟩) (actsAt p.bodies k).length ca)/\∀ j u, [.int .i64 a.kind,.slice Ad a.deeds.length cd,.slice Ak a.kids.length ck,.int .i64 a.reg][j]? = some u->W.cell? ⟨ba,oa+m*4+j,none⟩=some u) (ds:= []) (by kernel_rfl) rfl ⟨blk_drew BP.out,(show wr.cell? ⟨bb,ob+k,none⟩=_ from cellB HB.out P2.out),fun j u hu=>(show wr.cell? ⟨ba,oa+m*4+j,none⟩=_ from cellB HB.out (HC.out j u hu))⟩ (fun hHeld=> ?_);have hb:=below_drew (Below.refl wr.heap.size wr);generalize wr.drew=w7 at hb hHeld ⊢;have HB7:=am (below_step HB.out hb);clear hb HB BP BPc;refine ba9 (fuel:=2) (n:=10) [0,1,2,3,4,5,6,7,8,9] (by kernel_rfl) (fun N _ _ _ _ h=>by cases N <;> exact h) hHeld ?_
           iterate 10 (
            refine stillS_step (v:= ?_) (a':= ?_) rfl (Or.inl ⟨by rfl, ?_⟩) ?_ ?_;rotate_left
            ·rintro W ⟨s0,s2,s3⟩
             have t0:=zc8 s0;have u0:=s3 0 _ rfl;have u1:=s3 1 _ rfl;have u2:=s3 2 _ rfl;have u3:=s3 3 _ rfl;rw [Nat.add_zero] at u0;clear s0 s3;go_simp;with_reducible rfl
            rotate_left
            ·simp only [Act.put,sA,sZ,sS,i64_w]
             rfl)
           refine stillS_nil ?_;refine on9 (i:=10) (N:=some 65) rfl rfl (by kernel_rfl) (by decide) (fun K hK=> ?_);refine goes_ Try.func123 (by kernel_rfl) rfl #[.agg #[.slice Ac p.cells.length cc,.slice (some ⟨bb,ob,none⟩) p.bodies.length cb],.int .i64 k,.agg #[.int .i64 a.kind,.slice Ad a.deeds.length cd,.slice Ak a.kids.length ck,.int .i64 a.reg]] (by rfl) rfl rfl (by (try simp only [List.map_toArray,List.map_cons,List.map_nil]);first | done | rfl) ?_;refine (l1Act_calls p a _ _ (k:Int) _ (kProg.K_below HB7.out HPK.out) (kAct.K_below HB7.out HK.out) (by omega) (by omega) (by omega) (by omega) SZ.out.1 SZ.out.2).mono ?_;rw [HD.out];rintro e wn ⟨rfl,hb⟩;refine ⟨_,rfl, ?_⟩;refine hK.out _ _ ⟨zb8 hHeld.1 hb,cellB hb hHeld.2.1,fun j u hu=>cellB hb (hHeld.2.2 j u hu)⟩ (fun hHeld=> ?_);clear hK K;refine norm_ (a':= ?_) ?_ ?_;rotate_left
           ·show Act.put _ (some 65) _=_
            simp only [Act.put,sA,sZ,sS,i64_w];rfl
           have HB:=am (below_step HB7.out hb);refine ba9 (fuel:=0) (n:=1) [11] (by kernel_rfl) (fun N _ _ _ _ h=>by cases N <;> exact h) hHeld ?_
           iterate 1 (
            refine stillS_step (v:= ?_) (a':= ?_) rfl (Or.inl ⟨by rfl, ?_⟩) ?_ ?_;rotate_left
            ·intro W hW
             go_simp
             with_reducible rfl
            rotate_left
            ·simp only [Act.put,sA,sZ,sS,i64_w]
             rfl)
           refine stillS_nil ?_;have BP:=am hHeld.1;clear hHeld HB7 hb;have BPc:=zc8 BP.out;refine done_ (by kernel_rfl) ?_;go_wp2;go_ret
           have hr:formOk p=false:=by
            unfold formOk;rw [allB_no (n:=p.bodies.length) hlt (by unfold bodyOk;rw [allB_no hmt (by rw [<-AX.out];exact HD.out),Bool.and_false]),Bool.and_false]
           rw [hr];exact ⟨rfl,HB.out⟩
         ·obtain rfl:m=(actsAt p.bodies k).length:=by omega
          go_wp2;go_roundw
          case rel=>exact ⟨k+1,by omega,by go_num,⟨fun i hi=>by rcases Nat.lt_or_ge i k with h | h;exact HJ.out i h;obtain rfl:i=k:=(by omega);unfold bodyOk;rw [allB_iff.2 HM.out,decide_eq_true c4];rfl⟩,BP,HB⟩
          case measure=>simp [intOf];omega
       ·have u4:decide (4 < (actsAt p.bodies k).length)=true:=decide_eq_true (by omega)
        have v4:decide ((4:Int) < ((actsAt p.bodies k).length:Int))=true:=decide_eq_true (by omega);have C4:=am c4;clear c4;go_wp2;go_ret
        have hr:formOk p=false:=by
         unfold formOk;rw [allB_no (n:=p.bodies.length) hlt (by unfold bodyOk;rw [decide_eq_false C4.out,Bool.false_and]),Bool.and_false]
        rw [hr];exact ⟨rfl,HB.out⟩
      ·obtain rfl:k=p.bodies.length:=by omega
       go_wp2;go_ret
       have hr:formOk p=true:=by
        unfold formOk;rw [allB_iff.2 HJ.out,HCS.out,show inB (p.bodies.length:Int) 1 4=true from HI.out,decide_eq_true C3.out];rfl
       rw [hr];exact ⟨rfl,HB.out⟩
 ·have u3:decide (3 < p.cells.length)=true:=decide_eq_true (by omega)
  have v3:decide ((3:Int) < (p.cells.length:Int))=true:=decide_eq_true (by omega);have C3:=am c3;clear c3
  go_wp2_with (first
  |((with_reducible refine gate_dst (N:=1) rfl ?_);refine box_event rfl (N:=1) rfl (t:=48) (by go_simp<;>rfl) ?_;intro gp hg w1 hbox hb;have BP:=am hbox;have HB:=am hb;have BPc:=zc8 BP.out;clear hbox hb hg))
  go_ret
  have hr:formOk p=false:=by
   unfold formOk;rw [decide_eq_false C3.out,Bool.false_and,Bool.false_and,Bool.false_and]
  rw [hr];exact ⟨rfl,HB.out⟩
theorem acc_le {p:Prog} (hf:formOk p=true) {b:Int} (h0:0<=b) (h1:b < p.bodies.length) (k:Nat):sumL (fun a:Act=>sumL (treeOf p) a.kids) ((actsAt p.bodies b.toNat).take k)<=37448:=by
 have h4:=form_acts hf ⟨h0,h1⟩;refine Nat.le_trans (sumL_le (m:=9362) fun a ha=> ?_) ?_
 ·obtain ⟨h2,h3⟩:=kid_behind hf ⟨h0,h1⟩ (List.mem_of_mem_take ha)
  refine Nat.le_trans (sumL_le (m:=4681) fun x hx=>treeOf_le hf (by have:=h3 x hx;omega) (h3 x hx).2) ?_;omega
 ·rw [List.length_take]
  have:min k (actsAt p.bodies b.toNat).length<=4:=by omega
  omega
theorem kid_le {p:Prog} (hf:formOk p=true) {b:Int} (h0:0<=b) (h1:b < p.bodies.length) {a:Act} (ha:a ∈ actsAt p.bodies b.toNat) (m:Nat):sumL (treeOf p) (a.kids.take m)<=9362:=by
 obtain ⟨h2,h3⟩:=kid_behind hf ⟨h0,h1⟩ ha;refine Nat.le_trans (sumL_le (m:=4681) fun x hx=>treeOf_le hf (by have:=h3 x (List.mem_of_mem_take hx);omega) (h3 x (List.mem_of_mem_take hx)).2) ?_;rw [List.length_take];have:min m a.kids.length<=2:=by omega
 omega
theorem l1Tree_calls (p:Prog) (pcs:List Value) (hf:formOk p=true):∀ (n:Nat) (b:Int) (w:World),kProg.K w p pcs->0<=b->b < p.bodies.length->(p.bodies.length:Int) - b<=n->
  Calls Try.prog 90 #[.agg pcs.toArray,.int .i64 b] w fun e w'=>e= .returned (.int .i64 (treeOf p b))/\Below w.heap.size w w':=by
 intro n
 induction n with
 | zero=>intro b w _ h0 h1 hn;omega
 | succ n ih=>
 intro b w hp h0 h1 hn;have IH:=am ih;clear ih;obtain ⟨kb,rfl⟩:=Int.eq_ofNat_of_zero_le h0;have hkb:kb < p.bodies.length:=by omega
 have HAC:Aside0 (∀ k,sumL (fun a:Act=>sumL (treeOf p) a.kids) ((actsAt p.bodies kb).take k)<=37448):=⟨fun k=>acc_le hf h0 h1 k⟩;have HTR:Aside0 (treeOf p (kb:Int)=1+sumL (fun a:Act=>sumL (treeOf p) a.kids) (actsAt p.bodies kb)):=⟨treeOf_eq hf h0 h1⟩;have HPK:=am hp;have HF:=am hf;have hb4:=(form_cells hf).2.2;have ha4:(actsAt p.bodies kb).length<=4:=form_acts hf ⟨h0,h1⟩;obtain ⟨Ac,cc,Ab,cb,rfl,-,gc,-,gb⟩:=kProg_open hp;obtain ⟨bb,ob,cs2,rfl,hcl2,hK2,hcc2,-⟩:=C_field gb ([]:List Act) kb hkb (by decide);obtain ⟨Aa,ca,rfl,la,ga2⟩:=hK2;have p2:=hcc2 0 _ rfl;simp only [show (Kd.slice 108 kAct).sz=1 from rfl,Nat.mul_one,Nat.add_zero] at p2;have GA2:=am (show kAct.C w Aa (actsAt p.bodies kb).length (actsAt p.bodies kb) from ga2);rw [show (p.bodies.getD kb []).length=(actsAt p.bodies kb).length from rfl] at p2;have P2:=am p2;have q0:(0:Int)<=(kb:Int):=by omega
 have q1:(kb:Int) < (p.bodies.length:Int):=by omega
 clear hp hf gc gb hcc2 hcl2 ga2 la p2 h0 h1;go_enter Try.func90,Try.ntmps90
 go_wp2_with (first
 |((with_reducible refine gate_dst (N:=2) rfl ?_);refine box_event rfl (N:=2) rfl (t:=48) (by go_simp<;>rfl) ?_;intro gp hg w1 hbox hb;have BP:=am hbox;have HB:=am hb;have BPc:=zc8 BP.out;clear hbox hb hg))
 go_loopw [5,6] (fun v j w'=>∃ k:Nat,k<=(actsAt p.bodies kb).length/\j= .int .i64 k/\v= .int .i64 ((1+sumL (fun a:Act=>sumL (treeOf p) a.kids) ((actsAt p.bodies kb).take k):Nat))/\Aside0 (w'.heap[gp]? = some (.cells #[.slice Ac p.cells.length cc,.slice (some ⟨bb,ob,none⟩) p.bodies.length cb] 48 (0,0)))/\Aside0 (Below w.heap.size w w')) (fun _ j _=>(actsAt p.bodies kb).length - (intOf j).toNat)
 case atStart=>exact ⟨0,Nat.zero_le _,rfl,by simp [sumL],BP,HB⟩
 case round=>
  clear BP HB BPc;obtain ⟨k,hk,rfl,rfl,BP,HB⟩:=hrel;obtain ⟨acc,hacc⟩:∃ x:Nat,x=(1+sumL (fun a:Act=>sumL (treeOf p) a.kids) ((actsAt p.bodies kb).take k):Nat):=⟨_,rfl⟩;have hacl:acc<=37449:=by have:=HAC.out k;omega
  simp only [<-hacc];have HACC:=am hacc;clear hacc;have BPc:=zc8 BP.out;have p2w:=cellB HB.out P2.out;by_cases hmt:k < (actsAt p.bodies kb).length
  ·obtain ⟨ba,oa,cs3,rfl,hcl3,hK3,hcc3,-⟩:=C_field GA2.out zAct k hmt (by decide)
   obtain ⟨a,hax⟩:∃ x,x=actAt (actsAt p.bodies kb) k:=⟨_,rfl⟩;rw [show (actsAt p.bodies kb).getD k zAct=a from hax.symm] at hK3
   have hmem:a ∈ actsAt p.bodies kb:=by
    have h9:actAt (actsAt p.bodies kb) k=(actsAt p.bodies kb)[k]:=by simp [actAt,hmt]
    rw [hax,h9];exact List.getElem_mem hmt
   have AX:=am hax;have KB:=am (kid_behind HF.out (b:=(kb:Int)) ⟨q0,q1⟩ hmem);have KL:Aside0 (∀ m,sumL (treeOf p) (a.kids.take m)<=9362):=⟨fun m=>kid_le HF.out (b:=(kb:Int)) q0 q1 hmem m⟩;have hk2:a.kids.length<=2:=KB.out.1;obtain ⟨Ad,cd,Ak,ck,rfl,-,-,-,gk⟩:=kAct_open hK3;have HKS:=am gk;have pk:=hcc3 2 _ rfl;simp only [show kAct.sz=4 from rfl] at pk;have PK:=am pk;have pkw:=cellB HB.out pk;have r0:(0:Int)<=(k:Int):=by omega
   have r1:(k:Int) < ((actsAt p.bodies kb).length:Int):=by omega
   clear hcc3 hK3 hcl3 hax hmem pk gk;go_wp2;go_loopw [5,8] (fun v j w'=>∃ m:Nat,m<=a.kids.length/\j= .int .i64 m/\v= .int .i64 ((acc+sumL (treeOf p) (a.kids.take m):Nat):Int)/\Aside0 (w'.heap[gp]? = some (.cells #[.slice Ac p.cells.length cc,.slice (some ⟨bb,ob,none⟩) p.bodies.length cb] 48 (0,0)))/\Aside0 (Below w.heap.size w w')) (fun _ j _=>a.kids.length - (intOf j).toNat)
   case atStart=>exact ⟨0,Nat.zero_le _,rfl,by simp [sumL],BP,HB⟩
   case round=>
    clear BP HB BPc p2w pkw;obtain ⟨m,hm,rfl,rfl,BP,HB⟩:=hrel;obtain ⟨ac2,hac2⟩:∃ x:Nat,x=acc+sumL (treeOf p) (a.kids.take m):=⟨_,rfl⟩;have hac2l:ac2<=50000:=by have:=KL.out m;omega
    simp only [<-hac2];have HAC2:=am hac2;clear hac2;have BPc:=zc8 BP.out;by_cases hlt:m < a.kids.length
    ·have s0:(0:Int)<=(m:Int):=by omega
     have s1:(m:Int) < (a.kids.length:Int):=by omega
     obtain ⟨kid,hkid⟩:∃ x,x=numAt a.kids m:=⟨_,rfl⟩;have hkr:=KB.out.2 kid (by rw [hkid];have h9:numAt a.kids m=a.kids[m]:=(by simp [numAt,hlt]);rw [h9];exact List.getElem_mem hlt);have KR:=am hkr;obtain ⟨tk0,htk⟩:∃ x,x=treeOf p kid:=⟨_,rfl⟩;have htl:tk0<=4681:=by rw [htk];exact treeOf_le HF.out (by omega) hkr.2
     have HTK:=am htk.symm;have HKD:=am hkid;obtain ⟨ad,had,-⟩:=Kd.at_int HKS.out (m:Int) s0 s1;subst had;clear hkid htk hkr;go_wp2;refine st9 (n:=9) (S:=fun W=>W.heap[gp]? = some (.cells #[.slice Ac p.cells.length cc,.slice (some ⟨bb,ob,none⟩) p.bodies.length cb] 48 (0,0))/\(Kd.int .i64).C W (some ad) a.kids.length a.kids) (ds:= []) (by kernel_rfl) rfl ⟨blk_drew BP.out,Kd.C_below (Kd.C_below HKS.out HB.out) (below_drew (Below.refl _ _))⟩ (fun hHeld=> ?_);have hb:=below_drew (Below.refl wr.heap.size wr);generalize wr.drew=w7 at hb hHeld ⊢;have HB7:=am (below_step HB.out hb);clear hb HB BP BPc;refine ba9 (fuel:=3) (n:=6) [0,1,2,3,4,5] (by kernel_rfl) (fun N _ _ _ _ h=>by cases N <;> exact h) hHeld ?_
     iterate 6 (
      refine stillS_step (v:= ?_) (a':= ?_) rfl (Or.inl ⟨by rfl, ?_⟩) ?_ ?_;rotate_left
      ·rintro W ⟨s00,s2⟩
       have t0:=zc8 s00;obtain ⟨ad1,hh,gx⟩:=Kd.at_int s2 (m:Int) s0 s1;cases hh;simp only [Int.toNat_natCast] at gx;rw [show rd a.kids (m:Int)=kid from HKD.out.symm] at gx;clear s00 s2;go_simp;with_reducible rfl
      rotate_left
      ·simp only [Act.put,sA,sZ,sS,i64_w]
       rfl)
     refine stillS_nil ?_;refine on9 (i:=6) (N:=some 40) rfl rfl (by kernel_rfl) (by decide) (fun K hK=> ?_);refine goes_ Try.func90 (by kernel_rfl) rfl #[.agg #[.slice Ac p.cells.length cc,.slice (some ⟨bb,ob,none⟩) p.bodies.length cb],.int .i64 kid] (by rfl) rfl rfl (by (try simp only [List.map_toArray,List.map_cons,List.map_nil]);first | done | rfl) ?_;refine (IH.out kid _ (kProg.K_below HB7.out HPK.out) (by have:=KR.out;omega) KR.out.2 (by have:=KR.out;omega)).mono ?_;rw [HTK.out];rintro e wn ⟨rfl,hb⟩;refine ⟨_,rfl, ?_⟩;refine hK.out _ _ ⟨zb8 hHeld.1 hb,Kd.C_below hHeld.2 hb⟩ (fun hHeld=> ?_);clear hK K;refine norm_ (a':= ?_) ?_ ?_;rotate_left
     ·show Act.put _ (some 40) _=_
      simp only [Act.put,sA,sZ,sS,i64_w];rfl
     have HB:=am (below_step HB7.out hb);refine ba9 (fuel:=0) (n:=2) [7,8] (by kernel_rfl) (fun N _ _ _ _ h=>by cases N <;> exact h) hHeld ?_
     iterate 2 (
      refine stillS_step (v:= ?_) (a':= ?_) rfl (Or.inl ⟨by rfl, ?_⟩) ?_ ?_;rotate_left
      ·intro W hW
       go_simp
       with_reducible rfl
      rotate_left
      ·simp only [Act.put,sA,sZ,sS,i64_w]
       rfl)
     refine stillS_nil ?_;have BP:=am hHeld.1;clear hHeld HB7 hb;have BPc:=zc8 BP.out;refine done_ (by kernel_rfl) ?_;go_wp2;go_roundw
     case rel=>exact ⟨m+1,by omega,by go_num,by rw [show ((acc+sumL (treeOf p) (a.kids.take (m+1)):Nat):Int)=(ac2:Int)+(tk0:Int) by rw [sumL_take (treeOf p) 0 a.kids hlt,show a.kids.getD m 0=kid from HKD.out.symm,HTK.out,HAC2.out];omega,show wrap64 ((ac2:Int)+(tk0:Int))=(ac2:Int)+(tk0:Int) from (by unfold wrap64;omega)],BP,HB⟩
     case measure=>simp [intOf];omega
    ·obtain rfl:m=a.kids.length:=by omega
     have hfin:ac2=(1+sumL (fun a:Act=>sumL (treeOf p) a.kids) ((actsAt p.bodies kb).take (k+1)):Nat):=by
      rw [HAC2.out,List.take_length,HACC.out,sumL_take (fun a:Act=>sumL (treeOf p) a.kids) zAct (actsAt p.bodies kb) hmt,show (actsAt p.bodies kb).getD k zAct=a from AX.out.symm];omega
     have HFIN:=am hfin;clear hfin;go_wp2;go_roundw
     case rel=>exact ⟨k+1,by omega,by go_num,by rw [HFIN.out],BP,HB⟩
     case measure=>simp [intOf];omega
  ·obtain rfl:k=(actsAt p.bodies kb).length:=by omega
   go_wp2;go_ret;have hr:treeOf p (kb:Int)=acc:=by rw [HTR.out,HACC.out,List.take_length]
   rw [hr];exact ⟨rfl,HB.out⟩
theorem progOk_calls (p:Prog) (pcs:List Value) (w:World) (hp:kProg.K w p pcs) (hz:ProgSz p):
  Calls Try.prog 56 #[.agg pcs.toArray] w fun e w'=>e= .returned (.bool (progOk p))/\Below w.heap.size w w':=by
 have HPK:=am hp;obtain ⟨Ac,cc,Ab,cb,rfl,-⟩:=kProg_open hp;have HZ:=am hz;clear hp hz;go_enter Try.func56,Try.ntmps56
 cases hf:formOk p with
 | false=>
  have HF:=am hf;clear hf
  go_wp2_with (first
  |((with_reducible refine gate_dst (N:=1) rfl ?_);refine box_event rfl (N:=1) rfl (t:=48) (by go_simp<;>rfl) ?_;intro gp hg w1 hbox hb;have BP:=am hbox;have HB:=am hb;have BPc:=zc8 BP.out;clear hbox hb hg)
  |(go_at_call 89;refine (l1Form_calls p _ _ (kProg.K_below HB.out HPK.out) HZ.out).mono ?_;rw [HF.out];rintro e w9 ⟨rfl,hb⟩;replace HB:=am (below_step HB.out hb);replace BP:=am (zb8 BP.out hb);clear hb BPc;have BPc:=zc8 BP.out))
  go_ret;have hr:progOk p=false:=by unfold progOk;rw [HF.out,Bool.false_and]
  rw [hr]
  exact ⟨rfl,HB.out⟩
 | true=>
  have HF:=am hf;have hb1:=(form_cells hf).2.1;have HB1:=am hb1;obtain ⟨n,hn⟩:∃ x,x=treeOf p 0:=⟨_,rfl⟩;have HN:=am hn.symm;clear hf hn hb1
  go_wp2_with (first
  |((with_reducible refine gate_dst (N:=1) rfl ?_);refine box_event rfl (N:=1) rfl (t:=48) (by go_simp<;>rfl) ?_;intro gp hg w1 hbox hb;have BP:=am hbox;have HB:=am hb;have BPc:=zc8 BP.out;clear hbox hb hg)
  |(go_at_call 89;refine (l1Form_calls p _ _ (kProg.K_below HB.out HPK.out) HZ.out).mono ?_;rw [HF.out];rintro e w9 ⟨rfl,hb⟩;replace HB:=am (below_step HB.out hb);replace BP:=am (zb8 BP.out hb);clear hb BPc;have BPc:=zc8 BP.out)
  |(go_at_call 90;refine (l1Tree_calls p _ HF.out p.bodies.length 0 _ (kProg.K_below HB.out HPK.out) (by omega) (by have:=HB1.out;omega) (by omega)).mono ?_;rw [HN.out];rintro e w9 ⟨rfl,hb⟩;replace HB:=am (below_step HB.out hb);clear hb BP BPc))
  go_ret
  have hr:progOk p=decide ((n:Int)<=7):=by
   unfold progOk;rw [HF.out,HN.out,Bool.true_and];exact decide_eq_decide.2 (by omega)
  rw [hr];exact ⟨rfl,HB.out⟩
end Go.Proofs.Ytimamoimphjakaa.Eq
