import Derived.Test.YtimamoimphjakaaU4
set_option maxHeartbeats 8000000
set_option maxRecDepth 100000
set_option linter.unusedVariables false
set_option linter.unusedSimpArgs false
namespace Go.Proofs.Ytimamoimphjakaa.Eq
open Go.RowKit Go.Proofs.YtimamoimphjakaaW.PrintWords Go.Proofs.YtimamoimphjakaaW.PrintLast Go.Proofs.YtimamoimphjakaaW.PrintMore
theorem lit_ok:progOk (⟨[1], [[(⟨2, [], [1,1],0⟩:Act)], [(⟨1, [⟨1,0,0⟩,⟨4,0,0⟩,⟨2,0,0⟩], [],0⟩:Act)]]⟩:Prog)=true:=by rfl
theorem lit_sz:ProgSz (⟨[1], [[(⟨2, [], [1,1],0⟩:Act)], [(⟨1, [⟨1,0,0⟩,⟨4,0,0⟩,⟨2,0,0⟩], [],0⟩:Act)]]⟩:Prog):=drawn_sz (by decide) (by decide) (by simp [Rd.ActIn])
theorem wrap_succ {m n:Nat} (h:m < n) (hn:n<=10):wrap64 ((m:Int)+1)=(m:Int)+1:=Rd.wrap_in (by omega) (by omega)
theorem meas1 {n m:Nat} (h:m < n):n - (intOf (.int .i64 ((m:Int)+1))).toNat < n - (intOf (.int .i64 (m:Int))).toNat:=by simp [intOf];omega
theorem meas2 {n m:Nat} (h:m < n) (hw:wrap64 ((m:Int)+1)=(m:Int)+1):n - (intOf (.int .i64 (wrap64 ((m:Int)+1)))).toNat < n - (intOf (.int .i64 (m:Int))).toNat:=by rw [hw];exact meas1 h
section
variable {P:Program} {a:Go.Act} {oi:Oper} {Q:Exit->Go.Act->World->Prop}
theorem lit1_ {N:Option Tmp} {w:World} {e:TypeId} {c:Value} {K:Go.Act->World->Prop} {ys:Nat->Option Bool} (hw:Region.wanted oi ys=true) (hN:oi.dst=N) (hrun:(execOp a.eval oi).run P w= .ok (.value (.slice (some ⟨w.heap.size,0,none⟩) 1 1)) (w.alloc (.cells #[c] e (0,0))))
  (h:K (a.put N (.slice (some ⟨w.heap.size,0,none⟩) 1 1)) (w.alloc (.cells #[c] e (0,0)))):if Region.wanted oi ys=true then Oper.wp P oi a w K Q else K (a.put N undef) w:=by
 rw [if_pos hw];subst hN;unfold Oper.wp;rw [hrun];exact h
end
def ProgPost (w0 w:World) (g:Nat) (b:List Int) (q0:Int) (e:Ending) (w':World):Prop:=∃ (p:Prog) (vc vb:Value) (q:Int),e= .returned (.agg #[vc,vb])/\progOk p=true/\ProgSz p/\1<=p.cells.length/\(Kd.int .i64).R 3 w' w.heap.size (fun _=>True) vc p.cells/\(Kd.slice 108 kAct).R 104 w' w.heap.size (fun _=>True) vb p.bodies/\Rd.IsS101 w0 w' g b q/\q0<=q/\q<=q0+5000/\Below w0.heap.size w0 w'/\KeepBut w w' g none
theorem l71Prog_calls (w0 w:World) (g:Nat) (b:List Int) (q0:Int) (hI:Rd.IsS101 w0 w g b q0) (hB:Below w0.heap.size w0 w) (hc:Rd.Code b) (h0:0<=q0) (h1:q0<=500000):
  Calls Try.prog 53 #[.pointer (some ⟨g,0,none⟩)] w fun e w'=>ProgPost w0 w g b q0 e w':=by
 have HD:=am (Rds.start hI hB h0);have HC:=am hc;have HQ0:=am h1;clear hI hB hc h0 h1;go_enter Try.func53,Try.ntmps53
 go_wp2_with (first
 |((with_reducible refine gate_dst (N:=2) rfl ?_);refine box_event rfl (N:=2) rfl (t:=48) (by go_simp<;>rfl) ?_;intro gz hg0 wn hbox hb;have BZ_0:=am hbox;have LBZ:=am (show w.heap.size<=gz from Nat.le_trans HD.out.size (Nat.le_of_eq hg0.symm));clear hbox hg0;replace HD:=am (HD.out.grow hb);clear hb;have BZ:=BZ_0;clear BZ_0;have BZc:=zc8 BZ.out))
 go_loopw [3] (fun j w'=>∃ i:Nat,i<=10/\j= .int .i64 i/\∃ q,Aside0 (Rds w0 w g b q w')/\Aside0 (q0<=q/\q<=q0+420*(i:Int))/\Aside0 (w'.heap[gz]? = some (.cells #[.slice none 0 0,.slice none 0 0] 48 (0,0)))) (fun j _=>10 - (intOf j).toNat)
 case atStart=>exact ⟨0,by decide,rfl,_,HD,⟨by omega⟩,BZ⟩
 case round=>
  clear HD BZ BZc;obtain ⟨i,hi,rfl,q,HD,HQ,BZ⟩:=hrel;have BZc:=zc8 BZ.out;by_cases hlt:i < 10
  ·have q1:(i:Int) < 10:=by omega
   go_wp2_with (first
   |((with_reducible refine gate_dst (N:=13) rfl ?_);refine Kd.R_lit (Kd.int .i64) (w0:=_) w.heap.size 3 rfl (N:=13) rfl (xs:=([]:List Int)) (inner:= []) (ok:=(fun _=>True)) (okp:=(fun _=>True)) (by go_simp<;>rfl) (Reps.none _ _) (fun _ _=>trivial) trivial (Below.refl _ _) HD.out.size (by simp) ?_;intro v1 wl hv1 hb1 hg hx9;clear hb1 hx9;obtain ⟨a0,c0,ev⟩:=Kd.R_slice hv1;subst ev;have VC_0:=am (show (Kd.int .i64).R 3 wl w.heap.size (fun _=>True) (.slice a0 0 c0) ([]:List Int) from hv1);clear hv1;have hb:=grown_below hg;replace BZ:=am (zb8 BZ.out hb);replace HD:=am (HD.out.grow hb);clear BZc;have BZc:=zc8 BZ.out;clear hb hg;have VC:=VC_0;clear VC_0)
   |((with_reducible refine gate_dst (N:=4) rfl ?_);refine box_event rfl (N:=4) rfl (t:=48) (by go_simp<;>rfl) ?_;intro gq hg0 wn hbox hb;have BQ_0:=am hbox;have LBQ:=am (show w.heap.size<=gq from Nat.le_trans HD.out.size (Nat.le_of_eq hg0.symm));have NZQ:=am (show gz ≠ gq from fun he=>by have:=blk_lt BZ.out;omega);clear hbox hg0;replace VC:=am (Kd.R_below VC.out hb);replace BZ:=am (zb8 BZ.out hb);replace HD:=am (HD.out.grow hb);clear BZc;have BZc:=zc8 BZ.out;clear hb;have BQ:=BQ_0;clear BQ_0;have BQc:=zc8 BQ.out)
   |((with_reducible refine gate_store (t:=48) (p:=4) rfl ?_);refine store_block rfl rfl 48 (.tmp 4) (.tmp 14) rfl rfl rfl BQ.out rfl (by kernel_rfl) (aB rfl) ?_;intro wn hbox hg;have BQ_0:=am hbox;replace VC:=am (R_grownT VC.out BQ.out (by decide) hg);replace BZ:=am (blk_grown BZ.out hg (fun he=>NZQ.out (by injection he)));replace HD:=am (HD.out.grown hg (fun k hk=>by cases hk;exact LBQ.out));clear BQ BQc BZc;have BZc:=zc8 BZ.out;have BQ:=BQ_0;clear BQ_0 hbox hg;have BQc:=zc8 BQ.out)
   |(go_at_call 49;refine (pick_rds HD.out HC.out (by have:=HQ.out;have:=HQ0.out;(try have:=HNX.out);(try have:=HNB.out);omega) 3).mono ?_;rintro e wn ⟨x,q2,rfl,hx,hq2,hd,hk⟩;replace HQ:=am (show q0<=q2/\q2<=q0+420*(i:Int)+2 from by have:=HQ.out;(try have:=HNX.out);(try have:=HNB.out);omega);clear hq2;replace VC:=am (HD.out.rowK hk VC.out (by decide));replace BZ:=am (HD.out.blkK hk BZ.out (by decide));replace BQ:=am (HD.out.blkK hk BQ.out (by decide));replace HD:=am (hd);clear BZc BQc;have BZc:=zc8 BZ.out;have BQc:=zc8 BQ.out;clear hk hd;have bx_:x<=2:=by omega))
   obtain ⟨nx,hnx⟩:∃ y:Nat,(y:Int)=1+(x:Int):=⟨1+x,by omega⟩;rw [<-hnx];have HNX:Aside0 (1<=nx/\nx<=3):=⟨by omega⟩;clear hx hnx bx_;go_loopw [6] (fun j w'=>∃ m:Nat,m<=nx/\j= .int .i64 m/\∃ q vc cs,Aside0 (Rds w0 w g b q w')/\Aside0 (q0<=q/\q<=q0+420*(i:Int)+2+(m:Int))/\Aside0 ((Kd.int .i64).R 3 w' w.heap.size (fun _=>True) vc cs)/\Aside0 (cs.length=m)/\Aside0 (w'.heap[gq]? = some (.cells #[vc,.slice none 0 0] 48 (0,0)))/\Aside0 (w'.heap[gz]? = some (.cells #[.slice none 0 0,.slice none 0 0] 48 (0,0)))) (fun j _=>nx - (intOf j).toNat)
   case atStart=>exact ⟨0,Nat.zero_le _,rfl,_,_, [],HD,⟨by have:=HQ.out;omega⟩,VC,⟨rfl⟩,BQ,BZ⟩
   case round=>
    clear HD HQ VC BQ BZ BQc BZc;clear q;obtain ⟨m,hm,rfl,q,vc,cs,HD,HQ,VC,HLC,BQ,BZ⟩:=hrel;obtain ⟨A,cA,ev⟩:=Kd.R_slice VC.out;subst ev;obtain ⟨lk,hlk⟩:∃ z:Nat,z=cs.length:=⟨_,rfl⟩;rw [<-hlk] at VC BQ;have LK:=am hlk;clear hlk;have BZc:=zc8 BZ.out;have BQc:=zc8 BQ.out;by_cases hlm:m < nx
    ·have q2:(m:Int) < (nx:Int):=by omega
     go_wp2;refine st9 (n:=11) (S:=fun W=>W.heap[gq]? = some (.cells #[.slice A lk cA,.slice none 0 0] 48 (0,0))) (ds:= [9,10]) (by kernel_rfl) rfl (by exact blk_drew BQ.out) (fun hHeld=> ?_);have hb:=below_drew (Below.refl wr.heap.size wr);generalize wr.drew=w7 at hb hHeld ⊢;replace VC:=am (Kd.R_below VC.out hb);replace BZ:=am (zb8 BZ.out hb);replace BQ:=am (zb8 BQ.out hb);replace HD:=am (HD.out.grow hb);clear BZc BQc;have BZc:=zc8 BZ.out;have BQc:=zc8 BQ.out;clear hb;refine ba9 (fuel:=8) (n:=3) [0,1,3] (by kernel_rfl) (fun N _ _ _ _ h=>by cases N <;> exact h) hHeld ?_
     iterate 3 (
      refine stillS_step (v:= ?_) (a':= ?_) rfl (Or.inl ⟨by rfl, ?_⟩) ?_ ?_;rotate_left
      ·intro W s0
       have t0:=zc8 s0;clear s0;go_simp;with_reducible rfl
      rotate_left
      ·simp only [Act.put,sA,sZ,sS,i64_w]
       rfl)
     refine stillS_nil ?_;refine tw9 (i:=2) (j:=4) (Ni:=some 25) (Nj:=some 27) rfl rfl rfl rfl (by kernel_rfl) (by decide) (by decide) (fun K hK=> ?_) (fun K hK=> ?_)
     ·refine Kd.R_lit_step (w0:=_) (Kd.int .i64) w.heap.size 3 (by rfl) (N:=25) rfl (xs:=([0,0,1,5,99]:List Int)) (inner:= [.int .i64 0,.int .i64 0,.int .i64 1,.int .i64 5,.int .i64 99]) (ok:=(fun _=>True)) (okp:=(fun _=>True)) (by go_simp<;>rfl) (Reps.one rfl (Reps.one rfl (Reps.one rfl (Reps.one rfl (Reps.one rfl (Reps.none _ _)))))) (fun _ _=>trivial) trivial (Below.refl _ _) HD.out.size (by simp) ?_
      intro v1 wl hv1 hb1 hg hx9;clear hb1 hx9;obtain ⟨a5,c5,ev⟩:=Kd.R_slice hv1;subst ev;have V5_0:=am (show (Kd.int .i64).R 3 wl w.heap.size (fun _=>True) (.slice a5 5 c5) ([0,0,1,5,99]:List Int) from hv1);refine hK.out _ _ (zb8 hHeld (grown_below hg)) (fun hHeld=> ?_);clear hK K;refine norm_ (a':= ?_) ?_ ?_;rotate_left
      ·show Act.put _ (some 25) _=_
       simp only [Act.put,sA,sZ,sS,i64_w];rfl
      clear hv1;have hb:=grown_below hg;replace VC:=am (Kd.R_below VC.out hb);replace BZ:=am (zb8 BZ.out hb);replace BQ:=am (zb8 BQ.out hb);replace HD:=am (HD.out.grow hb);clear BZc BQc;have BZc:=zc8 BZ.out;have BQc:=zc8 BQ.out;clear hb hg;have V5:=V5_0;clear V5_0;refine on9 (i:=4) (N:=some 27) rfl rfl (by kernel_rfl) (by decide) (fun K hK=> ?_);refine goes_ Try.func49 (by kernel_rfl) rfl #[.pointer (some ⟨g,0,none⟩),.int .i64 5] (by rfl) rfl rfl (by (try simp only [List.map_toArray,List.map_cons,List.map_nil]);first | done | rfl) ?_;refine (pick_rds HD.out HC.out (by have:=HQ.out;have:=HQ0.out;have:=HNX.out;omega) 5).mono ?_;rintro e wn ⟨x,q2,rfl,hx,hq2,hd,hk⟩;refine ⟨_,rfl, ?_⟩;refine hK.out _ _ (HD.out.blkK hk hHeld (by decide)) (fun hHeld=> ?_);clear hK K;refine norm_ (a':= ?_) ?_ ?_;rotate_left
      ·show Act.put _ (some 27) _=_
       simp only [Act.put,sA,sZ,sS,i64_w];rfl
      replace HQ:=am (show q0<=q2/\q2<=q0+420*(i:Int)+3+(m:Int) from by have:=HQ.out;(try have:=HNX.out);(try have:=HNB.out);omega);clear hq2;replace VC:=am (HD.out.rowK hk VC.out (by decide));replace V5:=am (HD.out.rowK hk V5.out (by decide));replace BZ:=am (HD.out.blkK hk BZ.out (by decide));replace BQ:=am (HD.out.blkK hk BQ.out (by decide));replace HD:=am (hd);clear BZc BQc;have BZc:=zc8 BZ.out;have BQc:=zc8 BQ.out;clear hk hd;have hx5:(x:Int) < 5:=by omega
      have hx0:(0:Int)<=(x:Int):=by omega
      obtain ⟨g5,k5,ev5,-⟩:=Kd.R_form V5.out (by decide);injection ev5 with ev5 ev6 ev7;subst ev5;obtain ⟨y,cy⟩:∃ y:Int,wn.cell? ⟨g5,x,none⟩=some (.int .i64 y):=⟨_,by have h:=Kd.R_celln 0 V5.out (x:Int) hx0 hx5;rw [Int.toNat_natCast] at h;exact h.1⟩;clear ev6 ev7;refine on9 (i:=5) (N:=some 28) rfl rfl (by kernel_rfl) (by decide) (fun K hK=> ?_);refine value_ (v:=.pointer (some ⟨g5,x,none⟩)) (w1:=wn) (by rfl) rfl (by go_simp<;>rfl) ?_;refine hK.out _ _ (hHeld) (fun hHeld=> ?_);clear hK K;refine norm_ (a':= ?_) ?_ ?_;rotate_left
      ·show Act.put _ (some 28) _=_
       simp only [Act.put,sA,sZ,sS,i64_w];rfl
      refine on9 (i:=6) (N:=some 29) rfl rfl (by kernel_rfl) (by decide) (fun K hK=> ?_);refine value_ (v:=.int .i64 y) (w1:=wn) (by rfl) rfl (by go_simp<;>rfl) ?_;refine hK.out _ _ (hHeld) (fun hHeld=> ?_);clear hK K;refine norm_ (a':= ?_) ?_ ?_;rotate_left
      ·show Act.put _ (some 29) _=_
       simp only [Act.put,sA,sZ,sS,i64_w];rfl
      clear cy;refine on9 (i:=7) (N:=some 30) rfl rfl (by kernel_rfl) (by decide) (fun K hK=> ?_);refine lit1_ (e:=3) (c:=.int .i64 y) (by rfl) rfl (by go_simp<;>rfl) ?_;have hHeld0:=hHeld;refine hK.out _ _ (blk_alloc hHeld _) (fun hHeld=> ?_);clear hK K;refine norm_ (a':= ?_) ?_ ?_;rotate_left
      ·show Act.put _ (some 30) _=_
       simp only [Act.put,sA,sZ,sS,i64_w];rfl
      refine on9 (i:=8) (N:=some 31) rfl rfl (by kernel_rfl) (by decide) (fun K hK=> ?_);refine Kd.R_append_step (Kd.int .i64) (w0:=_) w.heap.size (by rfl) (.tmp 24) (.tmp 30) 29 3 (.int .i64 0) 8 rfl Try.underlying29 info_int rfl (by decide) (by decide) (.slice A lk cA) cs y [.int .i64 y] (fun _=>True) (fun _=>False) rfl rfl rfl (fun _ hk=>hk.elim) (fun _ _=>trivial) VC.out (Below.refl _ _) HD.out.size (by have:=HLC.out;have:=HNX.out;omega) ?_;intro v1 w6 hv1 hb6 hg hat6;clear hb6 hat6;have hgq:some gq ≠ (Value.slice A lk cA).ownBlock:=fun he=>Kd.R_ne VC.out BQ.out (by decide) he
      have hgz:some gz ≠ (Value.slice A lk cA).ownBlock:=fun he=>Kd.R_ne VC.out BZ.out (by decide) he
      refine hK.out _ _ (blk_grown hHeld0 hg hgq) (fun hHeld=> ?_);clear hK K;refine norm_ (a':= ?_) ?_ ?_;rotate_left
      ·show Act.put _ (some 31) _=_
       simp only [Act.put,sA,sZ,sS,i64_w];rfl
      have VN:=am hv1;replace BQ:=am (blk_grown BQ.out hg hgq);replace BZ:=am (blk_grown BZ.out hg hgz);replace HD:=am (HD.out.row VC.out hg);clear hHeld hHeld0 hv1 hg hgq hgz VC V5 BQc BZc;have BQc:=zc8 BQ.out;refine tail_ (fuel:=2) 9 (by kernel_rfl) ?_;simp only [List.drop_succ_cons,List.drop_zero]
      go_wp2_with (first
      |((with_reducible refine gate_store (t:=29) (p:=32) rfl ?_);refine set_ev (u:=v1) rfl rfl _ _ rfl (g:=gq) (off:=0) rfl rfl (R_cells VN.out) (R_oneCell VN.out) (by kernel_rfl) ⟨⟨_,by rw [zc8 BQ.out];rfl⟩,blk_frozen BQ.out _⟩ ?_;intro wz hwn;have BQ_0:=am (show wz.heap[gq]? = some (.cells #[v1,.slice none 0 0] 48 (0,0)) by rw [hwn];exact blk_set BQ.out 0 v1);replace BZ:=am (show wz.heap[gz]? = some (.cells #[.slice none 0 0,.slice none 0 0] 48 (0,0)) by rw [hwn];exact blk_far (p:=⟨gq,0,none⟩) BZ.out NZQ.out v1);replace HD:=am (show Rds w0 w g b _ wz by rw [hwn];exact HD.out.set LBQ.out 0 v1);replace VN:=am (show (Kd.int .i64).R 3 wz w.heap.size (fun _=>True) v1 _ by rw [hwn];exact R_set VN.out BQ.out (by decide) 0 v1);clear hwn BQ;have BQ:=BQ_0;clear BQ_0))
      have wm:=wrap_succ hlm (Nat.le_trans HNX.out.2 (by decide));go_roundw
      case rel=>exact ⟨m+1,by omega,by go_num,_,v1,cs ++ [y],HD,⟨by have:=HQ.out;omega⟩,VN,⟨by rw [List.length_append,HLC.out];rfl⟩,BQ,BZ⟩
      case measure=>first | exact meas1 hlm | exact meas2 hlm wm
     ·refine goes_ Try.func49 (by kernel_rfl) rfl #[.pointer (some ⟨g,0,none⟩),.int .i64 5] (by rfl) rfl rfl (by (try simp only [List.map_toArray,List.map_cons,List.map_nil]);first | done | rfl) ?_
      refine (pick_rds HD.out HC.out (by have:=HQ.out;have:=HQ0.out;have:=HNX.out;omega) 5).mono ?_;rintro e wn ⟨x,q2,rfl,hx,hq2,hd,hk⟩;refine ⟨_,rfl, ?_⟩;refine hK.out _ _ (HD.out.blkK hk hHeld (by decide)) (fun hHeld=> ?_);clear hK K;refine norm_ (a':= ?_) ?_ ?_;rotate_left
      ·show Act.put _ (some 27) _=_
       simp only [Act.put,sA,sZ,sS,i64_w];rfl
      replace HQ:=am (show q0<=q2/\q2<=q0+420*(i:Int)+3+(m:Int) from by have:=HQ.out;(try have:=HNX.out);(try have:=HNB.out);omega);clear hq2;replace VC:=am (HD.out.rowK hk VC.out (by decide));replace BZ:=am (HD.out.blkK hk BZ.out (by decide));replace BQ:=am (HD.out.blkK hk BQ.out (by decide));replace HD:=am (hd);clear BZc BQc;have BZc:=zc8 BZ.out;have BQc:=zc8 BQ.out;clear hk hd;refine on9 (i:=2) (N:=some 25) rfl rfl (by kernel_rfl) (by decide) (fun K hK=> ?_);refine Kd.R_lit_step (w0:=_) (Kd.int .i64) w.heap.size 3 (by rfl) (N:=25) rfl (xs:=([0,0,1,5,99]:List Int)) (inner:= [.int .i64 0,.int .i64 0,.int .i64 1,.int .i64 5,.int .i64 99]) (ok:=(fun _=>True)) (okp:=(fun _=>True)) (by go_simp<;>rfl) (Reps.one rfl (Reps.one rfl (Reps.one rfl (Reps.one rfl (Reps.one rfl (Reps.none _ _)))))) (fun _ _=>trivial) trivial (Below.refl _ _) HD.out.size (by simp) ?_;intro v1 wl hv1 hb1 hg hx9;clear hb1 hx9;obtain ⟨a5,c5,ev⟩:=Kd.R_slice hv1;subst ev;have V5_0:=am (show (Kd.int .i64).R 3 wl w.heap.size (fun _=>True) (.slice a5 5 c5) ([0,0,1,5,99]:List Int) from hv1);refine hK.out _ _ (zb8 hHeld (grown_below hg)) (fun hHeld=> ?_);clear hK K;refine norm_ (a':= ?_) ?_ ?_;rotate_left
      ·show Act.put _ (some 25) _=_
       simp only [Act.put,sA,sZ,sS,i64_w];rfl
      clear hv1;have hb:=grown_below hg;replace VC:=am (Kd.R_below VC.out hb);replace BZ:=am (zb8 BZ.out hb);replace BQ:=am (zb8 BQ.out hb);replace HD:=am (HD.out.grow hb);clear BZc BQc;have BZc:=zc8 BZ.out;have BQc:=zc8 BQ.out;clear hb hg;have V5:=V5_0;clear V5_0;have hx5:(x:Int) < 5:=by omega
      have hx0:(0:Int)<=(x:Int):=by omega
      obtain ⟨g5,k5,ev5,-⟩:=Kd.R_form V5.out (by decide);injection ev5 with ev5 ev6 ev7;subst ev5;obtain ⟨y,cy⟩:∃ y:Int,wl.cell? ⟨g5,x,none⟩=some (.int .i64 y):=⟨_,by have h:=Kd.R_celln 0 V5.out (x:Int) hx0 hx5;rw [Int.toNat_natCast] at h;exact h.1⟩;clear ev6 ev7;refine on9 (i:=5) (N:=some 28) rfl rfl (by kernel_rfl) (by decide) (fun K hK=> ?_);refine value_ (v:=.pointer (some ⟨g5,x,none⟩)) (w1:=wl) (by rfl) rfl (by go_simp<;>rfl) ?_;refine hK.out _ _ (hHeld) (fun hHeld=> ?_);clear hK K;refine norm_ (a':= ?_) ?_ ?_;rotate_left
      ·show Act.put _ (some 28) _=_
       simp only [Act.put,sA,sZ,sS,i64_w];rfl
      refine on9 (i:=6) (N:=some 29) rfl rfl (by kernel_rfl) (by decide) (fun K hK=> ?_);refine value_ (v:=.int .i64 y) (w1:=wl) (by rfl) rfl (by go_simp<;>rfl) ?_;refine hK.out _ _ (hHeld) (fun hHeld=> ?_);clear hK K;refine norm_ (a':= ?_) ?_ ?_;rotate_left
      ·show Act.put _ (some 29) _=_
       simp only [Act.put,sA,sZ,sS,i64_w];rfl
      clear cy;refine on9 (i:=7) (N:=some 30) rfl rfl (by kernel_rfl) (by decide) (fun K hK=> ?_);refine lit1_ (e:=3) (c:=.int .i64 y) (by rfl) rfl (by go_simp<;>rfl) ?_;have hHeld0:=hHeld;refine hK.out _ _ (blk_alloc hHeld _) (fun hHeld=> ?_);clear hK K;refine norm_ (a':= ?_) ?_ ?_;rotate_left
      ·show Act.put _ (some 30) _=_
       simp only [Act.put,sA,sZ,sS,i64_w];rfl
      refine on9 (i:=8) (N:=some 31) rfl rfl (by kernel_rfl) (by decide) (fun K hK=> ?_);refine Kd.R_append_step (Kd.int .i64) (w0:=_) w.heap.size (by rfl) (.tmp 24) (.tmp 30) 29 3 (.int .i64 0) 8 rfl Try.underlying29 info_int rfl (by decide) (by decide) (.slice A lk cA) cs y [.int .i64 y] (fun _=>True) (fun _=>False) rfl rfl rfl (fun _ hk=>hk.elim) (fun _ _=>trivial) VC.out (Below.refl _ _) HD.out.size (by have:=HLC.out;have:=HNX.out;omega) ?_;intro v1 w6 hv1 hb6 hg hat6;clear hb6 hat6;have hgq:some gq ≠ (Value.slice A lk cA).ownBlock:=fun he=>Kd.R_ne VC.out BQ.out (by decide) he
      have hgz:some gz ≠ (Value.slice A lk cA).ownBlock:=fun he=>Kd.R_ne VC.out BZ.out (by decide) he
      refine hK.out _ _ (blk_grown hHeld0 hg hgq) (fun hHeld=> ?_);clear hK K;refine norm_ (a':= ?_) ?_ ?_;rotate_left
      ·show Act.put _ (some 31) _=_
       simp only [Act.put,sA,sZ,sS,i64_w];rfl
      have VN:=am hv1;replace BQ:=am (blk_grown BQ.out hg hgq);replace BZ:=am (blk_grown BZ.out hg hgz);replace HD:=am (HD.out.row VC.out hg);clear hHeld hHeld0 hv1 hg hgq hgz VC V5 BQc BZc;have BQc:=zc8 BQ.out;refine tail_ (fuel:=2) 9 (by kernel_rfl) ?_;simp only [List.drop_succ_cons,List.drop_zero]
      go_wp2_with (first
      |((with_reducible refine gate_store (t:=29) (p:=32) rfl ?_);refine set_ev (u:=v1) rfl rfl _ _ rfl (g:=gq) (off:=0) rfl rfl (R_cells VN.out) (R_oneCell VN.out) (by kernel_rfl) ⟨⟨_,by rw [zc8 BQ.out];rfl⟩,blk_frozen BQ.out _⟩ ?_;intro wz hwn;have BQ_0:=am (show wz.heap[gq]? = some (.cells #[v1,.slice none 0 0] 48 (0,0)) by rw [hwn];exact blk_set BQ.out 0 v1);replace BZ:=am (show wz.heap[gz]? = some (.cells #[.slice none 0 0,.slice none 0 0] 48 (0,0)) by rw [hwn];exact blk_far (p:=⟨gq,0,none⟩) BZ.out NZQ.out v1);replace HD:=am (show Rds w0 w g b _ wz by rw [hwn];exact HD.out.set LBQ.out 0 v1);replace VN:=am (show (Kd.int .i64).R 3 wz w.heap.size (fun _=>True) v1 _ by rw [hwn];exact R_set VN.out BQ.out (by decide) 0 v1);clear hwn BQ;have BQ:=BQ_0;clear BQ_0))
      have wm:=wrap_succ hlm (Nat.le_trans HNX.out.2 (by decide));go_roundw
      case rel=>exact ⟨m+1,by omega,by go_num,_,v1,cs ++ [y],HD,⟨by have:=HQ.out;omega⟩,VN,⟨by rw [List.length_append,HLC.out];rfl⟩,BQ,BZ⟩
      case measure=>first | exact meas1 hlm | exact meas2 hlm wm
    ·obtain rfl:m=nx:=by omega
     have q2:¬ (m:Int) < (m:Int):=by omega
     go_wp2_with (first
     |(go_at_call 49;refine (pick_rds HD.out HC.out (by have:=HQ.out;have:=HQ0.out;(try have:=HNX.out);(try have:=HNB.out);omega) 3).mono ?_;rintro e wn ⟨y,q2,rfl,hy,hq2,hd,hk⟩;replace HQ:=am (show q0<=q2/\q2<=q0+420*(i:Int)+6 from by have:=HQ.out;(try have:=HNX.out);(try have:=HNB.out);omega);clear hq2;replace VC:=am (HD.out.rowK hk VC.out (by decide));replace BZ:=am (HD.out.blkK hk BZ.out (by decide));replace BQ:=am (HD.out.blkK hk BQ.out (by decide));replace HD:=am (hd);clear BZc BQc;have BZc:=zc8 BZ.out;have BQc:=zc8 BQ.out;clear hk hd;have by_:y<=2:=by omega))
     obtain ⟨nb,hnb⟩:∃ z:Nat,(z:Int)=2+(y:Int):=⟨2+y,by omega⟩;rw [<-hnb];have HNB:Aside0 (2<=nb/\nb<=4):=⟨by omega⟩;clear hy hnb by_;obtain ⟨nx,hnx⟩:∃ z,z=m:=⟨_,rfl⟩;subst hnx;go_loopw [8] (fun j w'=>∃ m:Nat,m<=nb/\j= .int .i64 m/\∃ q vb bs,Aside0 (Rds w0 w g b q w')/\Aside0 (q0<=q/\q<=q0+420*(i:Int)+6+91*(m:Int))/\Aside0 ((Kd.int .i64).R 3 w' w.heap.size (fun _=>True) (.slice A lk cA) cs)/\Aside0 ((Kd.slice 108 kAct).R 104 w' w.heap.size (fun _=>True) vb bs)/\Aside0 (bs.length=m)/\Aside0 (∀ x ∈ bs,x.length<=3/\∀ a ∈ x,Rd.ActIn a)/\Aside0 (w'.heap[gq]? = some (.cells #[.slice A lk cA,vb] 48 (0,0)))/\Aside0 (w'.heap[gz]? = some (.cells #[.slice none 0 0,.slice none 0 0] 48 (0,0)))) (fun j _=>nb - (intOf j).toNat)
     case atStart=>exact ⟨0,Nat.zero_le _,rfl,_,_, [],HD,⟨by have:=HQ.out;have:=HNX.out;omega⟩,VC,⟨Kd.R_nil _ _ _ _ _⟩,⟨rfl⟩,⟨fun _ h=>by cases h⟩,BQ,BZ⟩
     case round=>
      clear HD HQ VC BQ BZ BQc BZc;clear q;obtain ⟨m,hm2,rfl,q,vb,bs,HD,HQ,VC,VB,HLB,HBI,BQ,BZ⟩:=hrel;obtain ⟨B,cB,ev⟩:=Kd.R_slice VB.out;subst ev;obtain ⟨lb,hlb⟩:∃ z:Nat,z=bs.length:=⟨_,rfl⟩;rw [<-hlb] at VB BQ;have HLBB:=am hlb;clear hlb;have BZc:=zc8 BZ.out;have BQc:=zc8 BQ.out;by_cases hlm2:m < nb
      ·have q3:(m:Int) < (nb:Int):=by omega
       go_wp2;refine st9 (n:=11) (S:=fun W=>W.heap[gq]? = some (.cells #[.slice A lk cA,.slice B lb cB] 48 (0,0))) (ds:= [9,10]) (by kernel_rfl) rfl (by exact blk_drew BQ.out) (fun hHeld=> ?_);have hb:=below_drew (Below.refl wr.heap.size wr);generalize wr.drew=w7 at hb hHeld ⊢;replace VC:=am (Kd.R_below VC.out hb);replace VB:=am (Kd.R_below VB.out hb);replace BZ:=am (zb8 BZ.out hb);replace BQ:=am (zb8 BQ.out hb);replace HD:=am (HD.out.grow hb);clear BZc BQc;have BZc:=zc8 BZ.out;have BQc:=zc8 BQ.out;clear hb;refine ba9 (fuel:=5) (n:=6) [0,1,2,3,4,5] (by kernel_rfl) (fun N _ _ _ _ h=>by cases N <;> exact h) hHeld ?_
       iterate 6 (
        refine stillS_step (v:= ?_) (a':= ?_) rfl (Or.inl ⟨by rfl, ?_⟩) ?_ ?_;rotate_left
        ·intro W s0
         have t0:=zc8 s0;clear s0;go_simp;with_reducible rfl
        rotate_left
        ·simp only [Act.put,sA,sZ,sS,i64_w]
         rfl)
       refine stillS_nil ?_;refine on9 (i:=6) (N:=some 47) rfl rfl (by kernel_rfl) (by decide) (fun K hK=> ?_);refine goes_ Try.func85 (by kernel_rfl) rfl #[.pointer (some ⟨g,0,none⟩),.int .i64 m,.int .i64 nb,.int .i64 nx] (by rfl) rfl rfl (by (try simp only [List.map_toArray,List.map_cons,List.map_nil]);first | done | rfl) ?_;refine (body_rds HD.out HC.out (by have:=HQ.out;have:=HQ0.out;have:=HNX.out;have:=HNB.out;omega) (m:Int) (nb:Int) (nx:Int)).mono ?_;rintro e wn ⟨v,acts,q2,rfl,hv,ha,hq2,hq3,hd,hk⟩;refine ⟨_,rfl, ?_⟩;refine hK.out _ _ (HD.out.blkK hk hHeld (by decide)) (fun hHeld=> ?_);clear hK K;refine norm_ (a':= ?_) ?_ ?_;rotate_left
       ·show Act.put _ (some 47) _=_
        simp only [Act.put,sA,sZ,sS,i64_w];rfl
       have LW:=am (show w.heap.size<=w7.heap.size from HD.out.size);have LB:=am (Kd.R_lt VB.out);replace HQ:=am (show q0<=q2/\q2<=q0+420*(i:Int)+6+91*((m:Int)+1) from by have:=HQ.out;(try have:=HNX.out);(try have:=HNB.out);omega);clear hq2 hq3;replace VC:=am (HD.out.rowK hk VC.out (by decide));replace VB:=am (HD.out.rowK hk VB.out (by decide));replace BZ:=am (HD.out.blkK hk BZ.out (by decide));replace BQ:=am (HD.out.blkK hk BQ.out (by decide));replace HD:=am (hd);clear BZc BQc;have BZc:=zc8 BZ.out;have BQc:=zc8 BQ.out;clear hk hd;obtain ⟨av,cv,ev⟩:=Kd.R_slice hv;subst ev;have VA:=am hv;have HA:=am ha;clear hv ha;refine on9 (i:=7) (N:=some 48) rfl rfl (by kernel_rfl) (by decide) (fun K hK=> ?_);refine lit1_ (e:=104) (c:=.slice av acts.length cv) (by rfl) rfl (by go_simp<;>rfl) ?_;have hHeld0:=hHeld;refine hK.out _ _ (blk_alloc hHeld _) (fun hHeld=> ?_);clear hK K;refine norm_ (a':= ?_) ?_ ?_;rotate_left
       ·show Act.put _ (some 48) _=_
        simp only [Act.put,sA,sZ,sS,i64_w];rfl
       refine on9 (i:=8) (N:=some 49) rfl rfl (by kernel_rfl) (by decide) (fun K hK=> ?_);refine Kd.R_append_step (Kd.slice 108 kAct) (w0:=_) w.heap.size (by rfl) (.tmp 42) (.tmp 48) 46 104 (.slice none 0 0) 24 rfl Try.underlying46 (by kernel_rfl) rfl (by decide) (by decide) (.slice B lb cB) bs acts [.slice av acts.length cv] (fun _=>True) (fun k=>w7.heap.size<=k) rfl rfl ⟨_,rfl,Kd.R_lower (Kd.R_mono (Kd.R_bound VA.out) (fun k hk=>hk.2.1)) LW.out⟩ (fun k hk=>⟨trivial,fun he=>by have:=LB.out k he.symm;omega⟩) (fun _ _=>trivial) VB.out (Below.refl _ _) HD.out.size (by have:=HLB.out;have:=HNB.out;omega) ?_;intro v1 w6 hv1 hb6 hg hat6;clear hb6 hat6;have hgq:some gq ≠ (Value.slice B lb cB).ownBlock:=fun he=>Kd.R_ne VB.out BQ.out (by decide) he
       have hgz:some gz ≠ (Value.slice B lb cB).ownBlock:=fun he=>Kd.R_ne VB.out BZ.out (by decide) he
       refine hK.out _ _ (blk_grown hHeld0 hg hgq) (fun hHeld=> ?_);clear hK K;refine norm_ (a':= ?_) ?_ ?_;rotate_left
       ·show Act.put _ (some 49) _=_
        simp only [Act.put,sA,sZ,sS,i64_w];rfl
       have VN:=am hv1;replace VC:=am (Kd.R_over VC.out VB.out (by decide) hg);replace BQ:=am (blk_grown BQ.out hg hgq);replace BZ:=am (blk_grown BZ.out hg hgz);replace HD:=am (HD.out.row VB.out hg);clear hHeld hHeld0 hv1 hg hgq hgz VB VA BQc BZc LB LW;have BQc:=zc8 BQ.out;refine tail_ (fuel:=2) 9 (by kernel_rfl) ?_;simp only [List.drop_succ_cons,List.drop_zero]
       go_wp2_with (first
       |((with_reducible refine gate_store (t:=46) (p:=50) rfl ?_);refine set_ev (u:=v1) rfl rfl _ _ rfl (g:=gq) (off:=1) rfl rfl (R_cells VN.out) (R_oneCell VN.out) (by kernel_rfl) ⟨⟨_,by rw [zc8 BQ.out];rfl⟩,blk_frozen BQ.out _⟩ ?_;intro wz hwn;have BQ_0:=am (show wz.heap[gq]? = some (.cells #[.slice A lk cA,v1] 48 (0,0)) by rw [hwn];exact blk_set BQ.out 1 v1);replace BZ:=am (show wz.heap[gz]? = some (.cells #[.slice none 0 0,.slice none 0 0] 48 (0,0)) by rw [hwn];exact blk_far (p:=⟨gq,1,none⟩) BZ.out NZQ.out v1);replace HD:=am (show Rds w0 w g b _ wz by rw [hwn];exact HD.out.set LBQ.out 1 v1);replace VC:=am (show (Kd.int .i64).R 3 wz w.heap.size (fun _=>True) (.slice A lk cA) _ by rw [hwn];exact R_set VC.out BQ.out (by decide) 1 v1);replace VN:=am (show (Kd.slice 108 kAct).R 104 wz w.heap.size (fun _=>True) v1 _ by rw [hwn];exact R_set VN.out BQ.out (by decide) 1 v1);clear hwn BQ;have BQ:=BQ_0;clear BQ_0))
       have wm:=wrap_succ hlm2 (Nat.le_trans HNB.out.2 (by decide));go_roundw
       case rel=>exact ⟨m+1,by omega,by go_num,_,v1,bs ++ [acts],HD,⟨by have:=HQ.out;omega⟩,VC,VN,⟨by rw [List.length_append,HLB.out];rfl⟩,⟨fun y hy=>by rcases List.mem_append.1 hy with hy | hy;exact HBI.out y hy;rw [List.mem_singleton.1 hy];exact HA.out⟩,BQ,BZ⟩
       case measure=>first | exact meas1 hlm2 | exact meas2 hlm2 wm
      ·obtain rfl:m=nb:=by omega
       have q3:¬ (m:Int) < (m:Int):=by omega
       obtain ⟨nb,hnb⟩:∃ z,z=m:=⟨_,rfl⟩;subst hnb
       go_wp2_with (first
       |(go_at_call 49;refine (pick_rds HD.out HC.out (by have:=HQ.out;have:=HQ0.out;(try have:=HNX.out);(try have:=HNB.out);omega) 4).mono ?_;rintro e wn ⟨z,q2,rfl,hz,hq2,hd,hk⟩;replace HQ:=am (show q0<=q2/\q2<=q0+420*(i:Int)+375 from by have:=HQ.out;(try have:=HNX.out);(try have:=HNB.out);omega);clear hq2;replace VC:=am (HD.out.rowK hk VC.out (by decide));replace VB:=am (HD.out.rowK hk VB.out (by decide));replace BZ:=am (HD.out.blkK hk BZ.out (by decide));replace BQ:=am (HD.out.blkK hk BQ.out (by decide));replace HD:=am (hd);clear BZc BQc;have BZc:=zc8 BZ.out;have BQc:=zc8 BQ.out;clear hk hd))
       ·clear hz
        obtain ⟨gb,kb9,evb,-⟩:=Kd.R_form VB.out (by have:=HLB.out;have:=HNB.out;omega);injection evb with evb evb2 evb3;subst evb;have hlb:(0:Int) < (lb:Int):=by have:=HLB.out;have:=HNB.out;have:=HLBB.out;omega
        have hlbn:0 < lb:=by omega
        clear evb2 evb3;have wnb:wrap64 ((nb:Int) - 1)=(nb:Int) - 1:=Rd.wrap_in (by have:=HNB.out;omega) (by have:=HNB.out;omega);go_wp2;refine st9 (n:=16) (S:=fun W=>W.heap[gq]? = some (.cells #[.slice A lk cA,.slice (some ⟨gb,0,none⟩) lb cB] 48 (0,0))) (ds:= [14,15]) (by kernel_rfl) rfl (by exact blk_drew BQ.out) (fun hHeld=> ?_);have hb:=below_drew (Below.refl wn.heap.size wn);generalize wn.drew=w7 at hb hHeld ⊢;replace VC:=am (Kd.R_below VC.out hb);replace VB:=am (Kd.R_below VB.out hb);replace BZ:=am (zb8 BZ.out hb);replace BQ:=am (zb8 BQ.out hb);replace HD:=am (HD.out.grow hb);clear BZc BQc;have BZc:=zc8 BZ.out;have BQc:=zc8 BQ.out;clear hb;refine ba9 (fuel:=9) (n:=7) [0,1,2,3,4,9,10] (by kernel_rfl) (fun N _ _ _ _ h=>by cases N <;> exact h) hHeld ?_
        iterate 7 (
         refine stillS_step (v:= ?_) (a':= ?_) rfl (Or.inl ⟨by rfl, ?_⟩) ?_ ?_;rotate_left
         ·intro W s0
          have t0:=zc8 s0;clear s0;go_simp;with_reducible rfl
         rotate_left
         ·simp only [Act.put,sA,sZ,sS,i64_w]
          rfl)
        refine stillS_nil ?_;refine on9 (i:=5) (N:=some 59) rfl rfl (by kernel_rfl) (by decide) (fun K hK=> ?_);refine goes_ Try.func49 (by kernel_rfl) rfl #[.pointer (some ⟨g,0,none⟩),.int .i64 (wrap64 ((nb:Int) - 1))] (by rfl) rfl rfl (by (try simp only [List.map_toArray,List.map_cons,List.map_nil]);first | done | rfl) ?_;refine (pick_rds HD.out HC.out (by have:=HQ.out;have:=HQ0.out;have:=HNX.out;have:=HNB.out;omega) (wrap64 ((nb:Int) - 1))).mono ?_;rintro e wn ⟨x,q2,rfl,hx,hq2,hd,hk⟩;refine ⟨_,rfl, ?_⟩;refine hK.out _ _ (HD.out.blkK hk hHeld (by decide)) (fun hHeld=> ?_);clear hK K;refine norm_ (a':= ?_) ?_ ?_;rotate_left
        ·show Act.put _ (some 59) _=_
         simp only [Act.put,sA,sZ,sS,i64_w];rfl
        rw [wnb] at hx;replace HQ:=am (show q0<=q2/\q2<=q0+420*(i:Int)+376 from by have:=HQ.out;(try have:=HNX.out);(try have:=HNB.out);omega);clear hq2;replace VC:=am (HD.out.rowK hk VC.out (by decide));replace VB:=am (HD.out.rowK hk VB.out (by decide));replace BZ:=am (HD.out.blkK hk BZ.out (by decide));replace BQ:=am (HD.out.blkK hk BQ.out (by decide));replace HD:=am (hd);clear BZc BQc;have BZc:=zc8 BZ.out;have BQc:=zc8 BQ.out;clear hk hd;obtain ⟨y,hy⟩:∃ y:Int,y=1+(x:Int):=⟨_,rfl⟩;have wy:wrap64 y=y:=by have:=HNB.out;exact Rd.wrap_in (by omega) (by omega)
        clear hx;refine ba9 (fuel:=7) (n:=1) [6] (by kernel_rfl) (fun N _ _ _ _ h=>by cases N <;> exact h) hHeld ?_;refine stillS_step (v:= ?_) (a':= ?_) rfl (Or.inl ⟨by rfl, ?_⟩) ?_ ?_;rotate_left
        ·intro W s0
         go_simp
         with_reducible rfl
        rotate_left
        ·simp only [Act.put,sA,sZ,sS,i64_w]
         rfl
        refine stillS_nil ?_;rw [<-hy];rw [wy];clear hy wy;refine tw9 (i:=7) (j:=11) (Ni:=some 61) (Nj:=some 65) rfl rfl rfl rfl (by kernel_rfl) (by decide) (by decide) (fun K hK=> ?_) (fun K hK=> ?_)
        ·refine Kd.R_lit_step (w0:=_) (Kd.int .i64) w.heap.size 3 (by rfl) (N:=61) rfl (xs:=([1,y]:List Int)) (inner:= [.int .i64 1,.int .i64 y]) (ok:=(fun _=>True)) (okp:=(fun _=>True)) (by go_simp<;>rfl) (Reps.one rfl (Reps.one rfl (Reps.none _ _))) (fun _ _=>trivial) trivial (Below.refl _ _) HD.out.size (by simp) ?_
         intro v1 wl hv1 hb1 hg hx9;clear hb1 hx9;obtain ⟨a7,c7,ev⟩:=Kd.R_slice hv1;subst ev;have V7_0:=am (show (Kd.int .i64).R 3 wl w.heap.size (fun _=>True) (.slice a7 2 c7) ([1,y]:List Int) from hv1);refine hK.out _ _ (zb8 hHeld (grown_below hg)) (fun hHeld=> ?_);clear hK K;refine norm_ (a':= ?_) ?_ ?_;rotate_left
         ·show Act.put _ (some 61) _=_
          simp only [Act.put,sA,sZ,sS,i64_w];rfl
         clear hv1;have hb:=grown_below hg;replace VC:=am (Kd.R_below VC.out hb);replace VB:=am (Kd.R_below VB.out hb);replace BZ:=am (zb8 BZ.out hb);replace BQ:=am (zb8 BQ.out hb);replace HD:=am (HD.out.grow hb);clear BZc BQc;have BZc:=zc8 BZ.out;have BQc:=zc8 BQ.out;clear hb hg;have V7:=V7_0;clear V7_0;refine ba9 (fuel:=5) (n:=1) [8] (by kernel_rfl) (fun N _ _ _ _ h=>by cases N <;> exact h) hHeld ?_
         iterate 1 (
          refine stillS_step (v:= ?_) (a':= ?_) rfl (Or.inl ⟨by rfl, ?_⟩) ?_ ?_;rotate_left
          ·intro W s0
           go_simp
           with_reducible rfl
          rotate_left
          ·simp only [Act.put,sA,sZ,sS,i64_w]
           rfl)
         refine stillS_nil ?_;refine on9 (i:=11) (N:=some 65) rfl rfl (by kernel_rfl) (by decide) (fun K hK=> ?_);refine goes_ Try.func86 (by kernel_rfl) rfl #[.pointer (some ⟨g,0,none⟩),.int .i64 nx] (by rfl) rfl rfl (by (try simp only [List.map_toArray,List.map_cons,List.map_nil]);first | done | rfl) ?_;refine (deeds_rds HD.out HC.out (by have:=HQ.out;have:=HQ0.out;have:=HNX.out;have:=HNB.out;omega) (nx:Int)).mono ?_;rintro e wn ⟨v,ds,q2,rfl,hv,hds,hq2,hq3,hd,hk⟩;refine ⟨_,rfl, ?_⟩;refine hK.out _ _ (HD.out.blkK hk hHeld (by decide)) (fun hHeld=> ?_);clear hK K;refine norm_ (a':= ?_) ?_ ?_;rotate_left
         ·show Act.put _ (some 65) _=_
          simp only [Act.put,sA,sZ,sS,i64_w];rfl
         have LW:=HD.out.size;replace HQ:=am (show q0<=q2/\q2<=q0+420*(i:Int)+396 from by have:=HQ.out;(try have:=HNX.out);(try have:=HNB.out);omega);clear hq2 hq3;replace VC:=am (HD.out.rowK hk VC.out (by decide));replace VB:=am (HD.out.rowK hk VB.out (by decide));replace V7:=am (HD.out.rowK hk V7.out (by decide));replace BZ:=am (HD.out.blkK hk BZ.out (by decide));replace BQ:=am (HD.out.blkK hk BQ.out (by decide));replace HD:=am (hd);clear BZc BQc;have BZc:=zc8 BZ.out;have BQc:=zc8 BQ.out;clear hk hd;obtain ⟨ad,cd,ev⟩:=Kd.R_slice hv;subst ev;have VD:=am (Kd.R_lower hv LW);have HDS:=am hds;clear hv hds LW;refine ba9 (fuel:=3) (n:=1) [12] (by kernel_rfl) (fun N _ _ _ _ h=>by cases N <;> exact h) hHeld ?_
         iterate 1 (
          refine stillS_step (v:= ?_) (a':= ?_) rfl (Or.inl ⟨by rfl, ?_⟩) ?_ ?_;rotate_left
          ·intro W s0
           go_simp
           with_reducible rfl
          rotate_left
          ·simp only [Act.put,sA,sZ,sS,i64_w]
           rfl)
         refine stillS_nil ?_;refine on9 (i:=13) (N:=some 67) rfl rfl (by kernel_rfl) (by decide) (fun K hK=> ?_);refine Kd.R_lit_step (w0:=_) kAct w.heap.size 108 (by rfl) (N:=67) rfl (xs:=([(⟨2, [], [1,y],0⟩:Act),(⟨1,ds, [],0⟩:Act)]:List Act)) (inner:= [.int .i64 2,.slice none 0 0,.slice a7 2 c7,.int .i64 0,.int .i64 1,.slice ad ds.length cd,.slice none 0 0,.int .i64 0]) (ok:=(fun _=>True)) (okp:=(fun _=>True)) (by go_simp<;>rfl) (Reps.c4 (kAct_mkM (⟨2, [], [1,y],0⟩:Act) (Kd.R_nil _ _ _ _ _) V7.out) (Reps.c4 (kAct_mkM (⟨1,ds, [],0⟩:Act) VD.out (Kd.R_nil _ _ _ _ _)) (Reps.none _ _))) (fun _ _=>trivial) trivial (Below.refl _ _) HD.out.size (by simp) ?_;intro v1 wl hv1 hb1 hg hx9;clear hb1 hx9;obtain ⟨ax,cx,ev⟩:=Kd.R_slice hv1;subst ev;have VX_0:=am (show kAct.R 108 wl w.heap.size (fun _=>True) (.slice ax 2 cx) ([(⟨2, [], [1,y],0⟩:Act),(⟨1,ds, [],0⟩:Act)]:List Act) from hv1);refine hK.out _ _ (zb8 hHeld (grown_below hg)) (fun hHeld=> ?_);clear hK K;refine norm_ (a':= ?_) ?_ ?_;rotate_left
         ·show Act.put _ (some 67) _=_
          simp only [Act.put,sA,sZ,sS,i64_w];rfl
         clear hv1 V7 VD;have hb:=grown_below hg;replace VC:=am (Kd.R_below VC.out hb);replace VB:=am (Kd.R_below VB.out hb);replace BZ:=am (zb8 BZ.out hb);replace BQ:=am (zb8 BQ.out hb);replace HD:=am (HD.out.grow hb);clear BZc BQc;have BZc:=zc8 BZ.out;have BQc:=zc8 BQ.out;clear hb hg;have VX:=VX_0;clear VX_0;have HBI2:Aside0 (∀ z ∈ bs.set 0 [(⟨2, [], [1,y],0⟩:Act),(⟨1,ds, [],0⟩:Act)],z.length<=3/\∀ a ∈ z,Rd.ActIn a):=⟨fun z hz=>by rcases List.mem_or_eq_of_mem_set hz with hz | hz;exact HBI.out z hz;rw [hz];refine ⟨by simp,fun a ha=> ?_⟩;simp only [List.mem_cons,List.not_mem_nil,or_false] at ha;rcases ha with rfl|rfl;exact ⟨by simp,by simp⟩;exact ⟨HDS.out,by simp⟩⟩;clear hHeld HBI;have HBI:=HBI2;clear HBI2;have HLB2:Aside0 ((bs.set 0 [(⟨2, [], [1,y],0⟩:Act),(⟨1,ds, [],0⟩:Act)]).length=nb):=⟨by rw [List.length_set];exact HLB.out⟩;refine tail_ (fuel:=2) 14 (by kernel_rfl) ?_;simp only [List.drop_succ_cons,List.drop_zero]
         go_wp2_with (first
         |((with_reducible refine gate_store (t:=104) (p:=68) rfl ?_);obtain ⟨ce,hce,_,hcc2,_⟩:=Kd.R_elem VB.out [] (0:Int) (Int.le_refl 0) hlb;obtain ⟨cb9,hcb9⟩:=R_type VB.out gb rfl;refine Kd.R_store (w0:=_) (Kd.slice 108 kAct) w.heap.size rfl rfl 104 (.tmp 68) (.tmp 67) rfl 104 (0:Int) 0 bs [(⟨2, [], [1,y],0⟩:Act),(⟨1,ds, [],0⟩:Act)] (.slice ax 2 cx) [.slice ax 2 cx] ce (fun _=>True) (fun k=>k ≠ gb) rfl rfl rfl rfl (by kernel_rfl) (by simp [Value.oneCell']) VB.out (Int.le_refl 0) hlb hce hcc2 (Nat.le_refl _) (by rw [List.take_zero,List.nil_append,List.drop_eq_nil_of_le (by rw [hce];exact Nat.le_refl _),List.append_nil];exact ⟨_,rfl,Kd.R_mono (R_apart VX.out hcb9 (by decide)) (fun k hk=>hk.2)⟩) (fun k hk=>⟨trivial,hk⟩) (Below.refl _ _) ?_;intro wz ho hb6 hg;clear hb6;have VB_0:=am ho;replace HD:=am (HD.out.grown hg (fun k hk=>by cases hk;exact Kd.R_base VB.out gb rfl));replace VC:=am (Kd.R_over VC.out VB.out (by decide) hg);replace BQ:=am (blk_grown BQ.out hg (fun he=>Kd.R_ne VB.out BQ.out (by decide) he));replace BZ:=am (blk_grown BZ.out hg (fun he=>Kd.R_ne VB.out BZ.out (by decide) he));clear ho hg VB VX hcb9 hce hcc2 BQc BZc;have VB:=VB_0;clear VB_0)
         |((with_reducible refine gate_dst (N:=69) rfl ?_);refine wpList_load_mid rfl 48 (.tmp 4) rfl gq 0 rfl _ _ (lC BQ.out) Try.underlying48 rfl (by kernel_rfl) ?_))
         clear HLB;have HLB:=HLB2;clear HLB2;obtain ⟨bs2,hbs2⟩:∃ z,z=bs.set 0 [(⟨2, [], [1,y],0⟩:Act),(⟨1,ds, [],0⟩:Act)]:=⟨_,rfl⟩;rw [show Int.toNat 0=0 from rfl] at VB;rw [<-hbs2] at HLB HBI VB;have BQc:=zc8 BQ.out;have BZc:=zc8 BZ.out;clear hbs2;obtain ⟨l0,m0,g0⟩:=Kd.R_reads' VC.out;obtain ⟨l1,m1,g1⟩:=Kd.R_reads' VB.out;have HPK:Aside0 (kProg.K _ (⟨cs,bs2⟩:Prog) [.slice A lk cA,.slice (some ⟨gb,0,none⟩) lb cB]):=⟨by have h:=kProg_mk (⟨cs,bs2⟩:Prog) (by rw [<-l0];exact m0) g0 (by rw [<-l1];exact m1) g1;rw [show (⟨cs,bs2⟩:Prog).cells.length=lk from l0.symm,show (⟨cs,bs2⟩:Prog).bodies.length=lb from l1.symm] at h;exact h⟩;clear g0 g1 m0 m1;have HSZ:Aside0 (ProgSz (⟨cs,bs2⟩:Prog)):=⟨drawn_sz (by have:=HLC.out;have:=HNX.out;show cs.length<=4;omega) (by have:=HLB.out;have:=HNB.out;show bs2.length<=4;omega) HBI.out⟩;obtain ⟨bOK,hOK⟩:∃ x,progOk (⟨cs,bs2⟩:Prog)=x:=⟨_,rfl⟩;have OK:=am hOK;clear hOK
         cases bOK with
         | false=>
          go_wp2_with (first
          |((with_reducible refine gate_dst (N:=69) rfl ?_);refine wpList_load_mid rfl 48 (.tmp 4) rfl gq 0 rfl _ _ (lC BQ.out) Try.underlying48 rfl (by kernel_rfl) ?_)
          |(go_at_call 56;refine (progOk_calls _ _ _ HPK.out HSZ.out).mono ?_;rw [OK.out];rintro e wn ⟨rfl,hb⟩;clear HPK;replace VC:=am (Kd.R_below VC.out hb);replace VB:=am (Kd.R_below VB.out hb);replace BZ:=am (zb8 BZ.out hb);replace BQ:=am (zb8 BQ.out hb);replace HD:=am (HD.out.grow hb);clear BZc BQc;have BZc:=zc8 BZ.out;have BQc:=zc8 BQ.out;clear hb))
          have wi:=wrap_succ hlt (by decide);go_roundw
          case rel=>exact ⟨i+1,by omega,by go_num,_,HD,⟨by have:=HQ.out;omega⟩,BZ⟩
          case measure=>first | exact meas1 hlt | exact meas2 hlt wi
         | true=>
          go_wp2_with (first
          |((with_reducible refine gate_dst (N:=69) rfl ?_);refine wpList_load_mid rfl 48 (.tmp 4) rfl gq 0 rfl _ _ (lC BQ.out) Try.underlying48 rfl (by kernel_rfl) ?_)
          |(go_at_call 56;refine (progOk_calls _ _ _ HPK.out HSZ.out).mono ?_;rw [OK.out];rintro e wn ⟨rfl,hb⟩;clear HPK;replace VC:=am (Kd.R_below VC.out hb);replace VB:=am (Kd.R_below VB.out hb);replace BZ:=am (zb8 BZ.out hb);replace BQ:=am (zb8 BQ.out hb);replace HD:=am (HD.out.grow hb);clear BZc BQc;have BZc:=zc8 BZ.out;have BQc:=zc8 BQ.out;clear hb)
          |((with_reducible refine gate_dst (N:=71) rfl ?_);refine wpList_load_mid rfl 48 (.tmp 4) rfl gq 0 rfl _ _ (lC BQ.out) Try.underlying48 rfl (by kernel_rfl) ?_)
          |((with_reducible refine gate_store (t:=48) (p:=2) rfl ?_);refine store_block rfl rfl 48 (.tmp 2) (.tmp 71) rfl rfl rfl BZ.out rfl (by kernel_rfl) (aB rfl) ?_;intro wn hbox hg;have BZ_0:=am hbox;replace VC:=am (R_grownT VC.out BZ.out (by decide) hg);replace VB:=am (R_grownT VB.out BZ.out (by decide) hg);replace HD:=am (HD.out.grown hg (fun k hk=>by cases hk;exact LBZ.out));clear BZ BZc;have BZ:=BZ_0;clear BZ_0 hbox hg;have BZc:=zc8 BZ.out))
          refine bodyPost_ret (results_single Try.results53 (.cell gz 48 #[.slice A lk cA,.slice (some ⟨gb,0,none⟩) lb cB] (0,0) _ rfl BZ.out Try.underlying48 rfl (by kernel_rfl) .nil)) rfl ?_;exact ⟨(⟨cs,bs2⟩:Prog),_,_,_,rfl,OK.out,HSZ.out,(by have:=HLC.out;have:=HNX.out;show 1<=cs.length;omega),VC.out,VB.out,HD.out.rd,HQ.out.1,by have:=HQ.out.2;omega,HD.out.below,HD.out.keep⟩
        ·refine goes_ Try.func86 (by kernel_rfl) rfl #[.pointer (some ⟨g,0,none⟩),.int .i64 nx] (by rfl) rfl rfl (by (try simp only [List.map_toArray,List.map_cons,List.map_nil]);first | done | rfl) ?_
         refine (deeds_rds HD.out HC.out (by have:=HQ.out;have:=HQ0.out;have:=HNX.out;have:=HNB.out;omega) (nx:Int)).mono ?_;rintro e wn ⟨v,ds,q2,rfl,hv,hds,hq2,hq3,hd,hk⟩;refine ⟨_,rfl, ?_⟩;refine hK.out _ _ (HD.out.blkK hk hHeld (by decide)) (fun hHeld=> ?_);clear hK K;refine norm_ (a':= ?_) ?_ ?_;rotate_left
         ·show Act.put _ (some 65) _=_
          simp only [Act.put,sA,sZ,sS,i64_w];rfl
         have LW:=HD.out.size;replace HQ:=am (show q0<=q2/\q2<=q0+420*(i:Int)+396 from by have:=HQ.out;(try have:=HNX.out);(try have:=HNB.out);omega);clear hq2 hq3;replace VC:=am (HD.out.rowK hk VC.out (by decide));replace VB:=am (HD.out.rowK hk VB.out (by decide));replace BZ:=am (HD.out.blkK hk BZ.out (by decide));replace BQ:=am (HD.out.blkK hk BQ.out (by decide));replace HD:=am (hd);clear BZc BQc;have BZc:=zc8 BZ.out;have BQc:=zc8 BQ.out;clear hk hd;obtain ⟨ad,cd,ev⟩:=Kd.R_slice hv;subst ev;have VD:=am (Kd.R_lower hv LW);have HDS:=am hds;clear hv hds LW;refine ba9 (fuel:=5) (n:=1) [12] (by kernel_rfl) (fun N _ _ _ _ h=>by cases N <;> exact h) hHeld ?_
         iterate 1 (
          refine stillS_step (v:= ?_) (a':= ?_) rfl (Or.inl ⟨by rfl, ?_⟩) ?_ ?_;rotate_left
          ·intro W s0
           go_simp
           with_reducible rfl
          rotate_left
          ·simp only [Act.put,sA,sZ,sS,i64_w]
           rfl)
         refine stillS_nil ?_;refine on9 (i:=7) (N:=some 61) rfl rfl (by kernel_rfl) (by decide) (fun K hK=> ?_);refine Kd.R_lit_step (w0:=_) (Kd.int .i64) w.heap.size 3 (by rfl) (N:=61) rfl (xs:=([1,y]:List Int)) (inner:= [.int .i64 1,.int .i64 y]) (ok:=(fun _=>True)) (okp:=(fun _=>True)) (by go_simp<;>rfl) (Reps.one rfl (Reps.one rfl (Reps.none _ _))) (fun _ _=>trivial) trivial (Below.refl _ _) HD.out.size (by simp) ?_;intro v1 wl hv1 hb1 hg hx9;clear hb1 hx9;obtain ⟨a7,c7,ev⟩:=Kd.R_slice hv1;subst ev;have V7_0:=am (show (Kd.int .i64).R 3 wl w.heap.size (fun _=>True) (.slice a7 2 c7) ([1,y]:List Int) from hv1);refine hK.out _ _ (zb8 hHeld (grown_below hg)) (fun hHeld=> ?_);clear hK K;refine norm_ (a':= ?_) ?_ ?_;rotate_left
         ·show Act.put _ (some 61) _=_
          simp only [Act.put,sA,sZ,sS,i64_w];rfl
         clear hv1;have hb:=grown_below hg;replace VC:=am (Kd.R_below VC.out hb);replace VB:=am (Kd.R_below VB.out hb);replace VD:=am (Kd.R_below VD.out hb);replace BZ:=am (zb8 BZ.out hb);replace BQ:=am (zb8 BQ.out hb);replace HD:=am (HD.out.grow hb);clear BZc BQc;have BZc:=zc8 BZ.out;have BQc:=zc8 BQ.out;clear hb hg;have V7:=V7_0;clear V7_0;refine ba9 (fuel:=3) (n:=1) [8] (by kernel_rfl) (fun N _ _ _ _ h=>by cases N <;> exact h) hHeld ?_
         iterate 1 (
          refine stillS_step (v:= ?_) (a':= ?_) rfl (Or.inl ⟨by rfl, ?_⟩) ?_ ?_;rotate_left
          ·intro W s0
           go_simp
           with_reducible rfl
          rotate_left
          ·simp only [Act.put,sA,sZ,sS,i64_w]
           rfl)
         refine stillS_nil ?_;refine on9 (i:=13) (N:=some 67) rfl rfl (by kernel_rfl) (by decide) (fun K hK=> ?_);refine Kd.R_lit_step (w0:=_) kAct w.heap.size 108 (by rfl) (N:=67) rfl (xs:=([(⟨2, [], [1,y],0⟩:Act),(⟨1,ds, [],0⟩:Act)]:List Act)) (inner:= [.int .i64 2,.slice none 0 0,.slice a7 2 c7,.int .i64 0,.int .i64 1,.slice ad ds.length cd,.slice none 0 0,.int .i64 0]) (ok:=(fun _=>True)) (okp:=(fun _=>True)) (by go_simp<;>rfl) (Reps.c4 (kAct_mkM (⟨2, [], [1,y],0⟩:Act) (Kd.R_nil _ _ _ _ _) V7.out) (Reps.c4 (kAct_mkM (⟨1,ds, [],0⟩:Act) VD.out (Kd.R_nil _ _ _ _ _)) (Reps.none _ _))) (fun _ _=>trivial) trivial (Below.refl _ _) HD.out.size (by simp) ?_;intro v1 wl hv1 hb1 hg hx9;clear hb1 hx9;obtain ⟨ax,cx,ev⟩:=Kd.R_slice hv1;subst ev;have VX_0:=am (show kAct.R 108 wl w.heap.size (fun _=>True) (.slice ax 2 cx) ([(⟨2, [], [1,y],0⟩:Act),(⟨1,ds, [],0⟩:Act)]:List Act) from hv1);refine hK.out _ _ (zb8 hHeld (grown_below hg)) (fun hHeld=> ?_);clear hK K;refine norm_ (a':= ?_) ?_ ?_;rotate_left
         ·show Act.put _ (some 67) _=_
          simp only [Act.put,sA,sZ,sS,i64_w];rfl
         clear hv1 V7 VD;have hb:=grown_below hg;replace VC:=am (Kd.R_below VC.out hb);replace VB:=am (Kd.R_below VB.out hb);replace BZ:=am (zb8 BZ.out hb);replace BQ:=am (zb8 BQ.out hb);replace HD:=am (HD.out.grow hb);clear BZc BQc;have BZc:=zc8 BZ.out;have BQc:=zc8 BQ.out;clear hb hg;have VX:=VX_0;clear VX_0;have HBI2:Aside0 (∀ z ∈ bs.set 0 [(⟨2, [], [1,y],0⟩:Act),(⟨1,ds, [],0⟩:Act)],z.length<=3/\∀ a ∈ z,Rd.ActIn a):=⟨fun z hz=>by rcases List.mem_or_eq_of_mem_set hz with hz | hz;exact HBI.out z hz;rw [hz];refine ⟨by simp,fun a ha=> ?_⟩;simp only [List.mem_cons,List.not_mem_nil,or_false] at ha;rcases ha with rfl|rfl;exact ⟨by simp,by simp⟩;exact ⟨HDS.out,by simp⟩⟩;clear hHeld HBI;have HBI:=HBI2;clear HBI2;have HLB2:Aside0 ((bs.set 0 [(⟨2, [], [1,y],0⟩:Act),(⟨1,ds, [],0⟩:Act)]).length=nb):=⟨by rw [List.length_set];exact HLB.out⟩;refine tail_ (fuel:=2) 14 (by kernel_rfl) ?_;simp only [List.drop_succ_cons,List.drop_zero]
         go_wp2_with (first
         |((with_reducible refine gate_store (t:=104) (p:=68) rfl ?_);obtain ⟨ce,hce,_,hcc2,_⟩:=Kd.R_elem VB.out [] (0:Int) (Int.le_refl 0) hlb;obtain ⟨cb9,hcb9⟩:=R_type VB.out gb rfl;refine Kd.R_store (w0:=_) (Kd.slice 108 kAct) w.heap.size rfl rfl 104 (.tmp 68) (.tmp 67) rfl 104 (0:Int) 0 bs [(⟨2, [], [1,y],0⟩:Act),(⟨1,ds, [],0⟩:Act)] (.slice ax 2 cx) [.slice ax 2 cx] ce (fun _=>True) (fun k=>k ≠ gb) rfl rfl rfl rfl (by kernel_rfl) (by simp [Value.oneCell']) VB.out (Int.le_refl 0) hlb hce hcc2 (Nat.le_refl _) (by rw [List.take_zero,List.nil_append,List.drop_eq_nil_of_le (by rw [hce];exact Nat.le_refl _),List.append_nil];exact ⟨_,rfl,Kd.R_mono (R_apart VX.out hcb9 (by decide)) (fun k hk=>hk.2)⟩) (fun k hk=>⟨trivial,hk⟩) (Below.refl _ _) ?_;intro wz ho hb6 hg;clear hb6;have VB_0:=am ho;replace HD:=am (HD.out.grown hg (fun k hk=>by cases hk;exact Kd.R_base VB.out gb rfl));replace VC:=am (Kd.R_over VC.out VB.out (by decide) hg);replace BQ:=am (blk_grown BQ.out hg (fun he=>Kd.R_ne VB.out BQ.out (by decide) he));replace BZ:=am (blk_grown BZ.out hg (fun he=>Kd.R_ne VB.out BZ.out (by decide) he));clear ho hg VB VX hcb9 hce hcc2 BQc BZc;have VB:=VB_0;clear VB_0)
         |((with_reducible refine gate_dst (N:=69) rfl ?_);refine wpList_load_mid rfl 48 (.tmp 4) rfl gq 0 rfl _ _ (lC BQ.out) Try.underlying48 rfl (by kernel_rfl) ?_))
         clear HLB;have HLB:=HLB2;clear HLB2;obtain ⟨bs2,hbs2⟩:∃ z,z=bs.set 0 [(⟨2, [], [1,y],0⟩:Act),(⟨1,ds, [],0⟩:Act)]:=⟨_,rfl⟩;rw [show Int.toNat 0=0 from rfl] at VB;rw [<-hbs2] at HLB HBI VB;have BQc:=zc8 BQ.out;have BZc:=zc8 BZ.out;clear hbs2;obtain ⟨l0,m0,g0⟩:=Kd.R_reads' VC.out;obtain ⟨l1,m1,g1⟩:=Kd.R_reads' VB.out;have HPK:Aside0 (kProg.K _ (⟨cs,bs2⟩:Prog) [.slice A lk cA,.slice (some ⟨gb,0,none⟩) lb cB]):=⟨by have h:=kProg_mk (⟨cs,bs2⟩:Prog) (by rw [<-l0];exact m0) g0 (by rw [<-l1];exact m1) g1;rw [show (⟨cs,bs2⟩:Prog).cells.length=lk from l0.symm,show (⟨cs,bs2⟩:Prog).bodies.length=lb from l1.symm] at h;exact h⟩;clear g0 g1 m0 m1;have HSZ:Aside0 (ProgSz (⟨cs,bs2⟩:Prog)):=⟨drawn_sz (by have:=HLC.out;have:=HNX.out;show cs.length<=4;omega) (by have:=HLB.out;have:=HNB.out;show bs2.length<=4;omega) HBI.out⟩;obtain ⟨bOK,hOK⟩:∃ x,progOk (⟨cs,bs2⟩:Prog)=x:=⟨_,rfl⟩;have OK:=am hOK;clear hOK
         cases bOK with
         | false=>
          go_wp2_with (first
          |((with_reducible refine gate_dst (N:=69) rfl ?_);refine wpList_load_mid rfl 48 (.tmp 4) rfl gq 0 rfl _ _ (lC BQ.out) Try.underlying48 rfl (by kernel_rfl) ?_)
          |(go_at_call 56;refine (progOk_calls _ _ _ HPK.out HSZ.out).mono ?_;rw [OK.out];rintro e wn ⟨rfl,hb⟩;clear HPK;replace VC:=am (Kd.R_below VC.out hb);replace VB:=am (Kd.R_below VB.out hb);replace BZ:=am (zb8 BZ.out hb);replace BQ:=am (zb8 BQ.out hb);replace HD:=am (HD.out.grow hb);clear BZc BQc;have BZc:=zc8 BZ.out;have BQc:=zc8 BQ.out;clear hb))
          have wi:=wrap_succ hlt (by decide);go_roundw
          case rel=>exact ⟨i+1,by omega,by go_num,_,HD,⟨by have:=HQ.out;omega⟩,BZ⟩
          case measure=>first | exact meas1 hlt | exact meas2 hlt wi
         | true=>
          go_wp2_with (first
          |((with_reducible refine gate_dst (N:=69) rfl ?_);refine wpList_load_mid rfl 48 (.tmp 4) rfl gq 0 rfl _ _ (lC BQ.out) Try.underlying48 rfl (by kernel_rfl) ?_)
          |(go_at_call 56;refine (progOk_calls _ _ _ HPK.out HSZ.out).mono ?_;rw [OK.out];rintro e wn ⟨rfl,hb⟩;clear HPK;replace VC:=am (Kd.R_below VC.out hb);replace VB:=am (Kd.R_below VB.out hb);replace BZ:=am (zb8 BZ.out hb);replace BQ:=am (zb8 BQ.out hb);replace HD:=am (HD.out.grow hb);clear BZc BQc;have BZc:=zc8 BZ.out;have BQc:=zc8 BQ.out;clear hb)
          |((with_reducible refine gate_dst (N:=71) rfl ?_);refine wpList_load_mid rfl 48 (.tmp 4) rfl gq 0 rfl _ _ (lC BQ.out) Try.underlying48 rfl (by kernel_rfl) ?_)
          |((with_reducible refine gate_store (t:=48) (p:=2) rfl ?_);refine store_block rfl rfl 48 (.tmp 2) (.tmp 71) rfl rfl rfl BZ.out rfl (by kernel_rfl) (aB rfl) ?_;intro wn hbox hg;have BZ_0:=am hbox;replace VC:=am (R_grownT VC.out BZ.out (by decide) hg);replace VB:=am (R_grownT VB.out BZ.out (by decide) hg);replace HD:=am (HD.out.grown hg (fun k hk=>by cases hk;exact LBZ.out));clear BZ BZc;have BZ:=BZ_0;clear BZ_0 hbox hg;have BZc:=zc8 BZ.out))
          refine bodyPost_ret (results_single Try.results53 (.cell gz 48 #[.slice A lk cA,.slice (some ⟨gb,0,none⟩) lb cB] (0,0) _ rfl BZ.out Try.underlying48 rfl (by kernel_rfl) .nil)) rfl ?_;exact ⟨(⟨cs,bs2⟩:Prog),_,_,_,rfl,OK.out,HSZ.out,(by have:=HLC.out;have:=HNX.out;show 1<=cs.length;omega),VC.out,VB.out,HD.out.rd,HQ.out.1,by have:=HQ.out.2;omega,HD.out.below,HD.out.keep⟩
       ·clear hz
        obtain ⟨l0,m0,g0⟩:=Kd.R_reads' VC.out;obtain ⟨l1,m1,g1⟩:=Kd.R_reads' VB.out;have HPK:Aside0 (kProg.K _ (⟨cs,bs⟩:Prog) [.slice A lk cA,.slice B lb cB]):=⟨by have h:=kProg_mk (⟨cs,bs⟩:Prog) (by rw [<-l0];exact m0) g0 (by rw [<-l1];exact m1) g1;rw [show (⟨cs,bs⟩:Prog).cells.length=lk from l0.symm,show (⟨cs,bs⟩:Prog).bodies.length=lb from l1.symm] at h;exact h⟩;clear g0 g1 m0 m1;have HSZ:Aside0 (ProgSz (⟨cs,bs⟩:Prog)):=⟨drawn_sz (by have:=HLC.out;have:=HNX.out;show cs.length<=4;omega) (by have:=HLB.out;have:=HNB.out;show bs.length<=4;omega) HBI.out⟩;obtain ⟨bOK,hOK⟩:∃ x,progOk (⟨cs,bs⟩:Prog)=x:=⟨_,rfl⟩;have OK:=am hOK;clear hOK
        cases bOK with
        | false=>
         go_wp2_with (first
         |((with_reducible refine gate_dst (N:=69) rfl ?_);refine wpList_load_mid rfl 48 (.tmp 4) rfl gq 0 rfl _ _ (lC BQ.out) Try.underlying48 rfl (by kernel_rfl) ?_)
         |(go_at_call 56;refine (progOk_calls _ _ _ HPK.out HSZ.out).mono ?_;rw [OK.out];rintro e wn ⟨rfl,hb⟩;clear HPK;replace VC:=am (Kd.R_below VC.out hb);replace VB:=am (Kd.R_below VB.out hb);replace BZ:=am (zb8 BZ.out hb);replace BQ:=am (zb8 BQ.out hb);replace HD:=am (HD.out.grow hb);clear BZc BQc;have BZc:=zc8 BZ.out;have BQc:=zc8 BQ.out;clear hb))
         have wi:=wrap_succ hlt (by decide);go_roundw
         case rel=>exact ⟨i+1,by omega,by go_num,_,HD,⟨by have:=HQ.out;omega⟩,BZ⟩
         case measure=>first | exact meas1 hlt | exact meas2 hlt wi
        | true=>
         go_wp2_with (first
         |((with_reducible refine gate_dst (N:=69) rfl ?_);refine wpList_load_mid rfl 48 (.tmp 4) rfl gq 0 rfl _ _ (lC BQ.out) Try.underlying48 rfl (by kernel_rfl) ?_)
         |(go_at_call 56;refine (progOk_calls _ _ _ HPK.out HSZ.out).mono ?_;rw [OK.out];rintro e wn ⟨rfl,hb⟩;clear HPK;replace VC:=am (Kd.R_below VC.out hb);replace VB:=am (Kd.R_below VB.out hb);replace BZ:=am (zb8 BZ.out hb);replace BQ:=am (zb8 BQ.out hb);replace HD:=am (HD.out.grow hb);clear BZc BQc;have BZc:=zc8 BZ.out;have BQc:=zc8 BQ.out;clear hb)
         |((with_reducible refine gate_dst (N:=71) rfl ?_);refine wpList_load_mid rfl 48 (.tmp 4) rfl gq 0 rfl _ _ (lC BQ.out) Try.underlying48 rfl (by kernel_rfl) ?_)
         |((with_reducible refine gate_store (t:=48) (p:=2) rfl ?_);refine store_block rfl rfl 48 (.tmp 2) (.tmp 71) rfl rfl rfl BZ.out rfl (by kernel_rfl) (aB rfl) ?_;intro wn hbox hg;have BZ_0:=am hbox;replace VC:=am (R_grownT VC.out BZ.out (by decide) hg);replace VB:=am (R_grownT VB.out BZ.out (by decide) hg);replace HD:=am (HD.out.grown hg (fun k hk=>by cases hk;exact LBZ.out));clear BZ BZc;have BZ:=BZ_0;clear BZ_0 hbox hg;have BZc:=zc8 BZ.out))
         refine bodyPost_ret (results_single Try.results53 (.cell gz 48 #[.slice A lk cA,.slice B lb cB] (0,0) _ rfl BZ.out Try.underlying48 rfl (by kernel_rfl) .nil)) rfl ?_;exact ⟨(⟨cs,bs⟩:Prog),_,_,_,rfl,OK.out,HSZ.out,(by have:=HLC.out;have:=HNX.out;show 1<=cs.length;omega),VC.out,VB.out,HD.out.rd,HQ.out.1,by have:=HQ.out.2;omega,HD.out.below,HD.out.keep⟩
  ·obtain rfl:i=10:=by omega
   go_wp2_with (first
   |((with_reducible refine gate_dst (N:=72) rfl ?_);refine Kd.R_lit (Kd.int .i64) (w0:=_) w.heap.size 3 rfl (N:=72) rfl (xs:=([1]:List Int)) (inner:= [.int .i64 1]) (ok:=(fun _=>True)) (okp:=(fun _=>True)) (by go_simp<;>rfl) (Reps.one rfl (Reps.none _ _)) (fun _ _=>trivial) trivial (Below.refl _ _) HD.out.size (by simp) ?_;intro v1 wl hv1 hb1 hg hx9;clear hb1 hx9;obtain ⟨a72,c72,ev⟩:=Kd.R_slice hv1;subst ev;have VC_0:=am (show (Kd.int .i64).R 3 wl w.heap.size (fun _=>True) (.slice a72 1 c72) ([1]:List Int) from hv1);clear hv1;have hb:=grown_below hg;replace BZ:=am (zb8 BZ.out hb);replace HD:=am (HD.out.grow hb);clear BZc;have BZc:=zc8 BZ.out;clear hb hg;have VC:=VC_0;clear VC_0)
   |((with_reducible refine gate_dst (N:=73) rfl ?_);refine Kd.R_lit (Kd.int .i64) (w0:=_) w.heap.size 3 rfl (N:=73) rfl (xs:=([1,1]:List Int)) (inner:= [.int .i64 1,.int .i64 1]) (ok:=(fun _=>True)) (okp:=(fun _=>True)) (by go_simp<;>rfl) (Reps.one rfl (Reps.one rfl (Reps.none _ _))) (fun _ _=>trivial) trivial (Below.refl _ _) HD.out.size (by simp) ?_;intro v1 wl hv1 hb1 hg hx9;clear hb1 hx9;obtain ⟨a73,c73,ev⟩:=Kd.R_slice hv1;subst ev;have V3_0:=am (show (Kd.int .i64).R 3 wl w.heap.size (fun _=>True) (.slice a73 2 c73) ([1,1]:List Int) from hv1);clear hv1;have hb:=grown_below hg;replace VC:=am (Kd.R_below VC.out hb);replace BZ:=am (zb8 BZ.out hb);replace HD:=am (HD.out.grow hb);clear BZc;have BZc:=zc8 BZ.out;clear hb hg;have V3:=V3_0;clear V3_0)
   |((with_reducible refine gate_dst (N:=75) rfl ?_);refine Kd.R_lit kAct (w0:=_) w.heap.size 108 rfl (N:=75) rfl (xs:=([(⟨2, [], [1,1],0⟩:Act)]:List Act)) (inner:= [.int .i64 2,.slice none 0 0,.slice a73 2 c73,.int .i64 0]) (ok:=(fun _=>True)) (okp:=(fun _=>True)) (by go_simp<;>rfl) (Reps.c4 (kAct_mkM (⟨2, [], [1,1],0⟩:Act) (Kd.R_nil _ _ _ _ _) V3.out) (Reps.none _ _)) (fun _ _=>trivial) trivial (Below.refl _ _) HD.out.size (by simp) ?_;intro v1 wl hv1 hb1 hg hx9;clear hb1 hx9;obtain ⟨a75,c75,ev⟩:=Kd.R_slice hv1;subst ev;have V5_0:=am (show kAct.R 108 wl w.heap.size (fun _=>True) (.slice a75 1 c75) ([(⟨2, [], [1,1],0⟩:Act)]:List Act) from hv1);clear hv1;have hb:=grown_below hg;replace VC:=am (Kd.R_below VC.out hb);replace V3:=am (Kd.R_below V3.out hb);replace BZ:=am (zb8 BZ.out hb);replace HD:=am (HD.out.grow hb);clear BZc;have BZc:=zc8 BZ.out;clear hb hg;have V5:=V5_0;clear V5_0)
   |((with_reducible refine gate_dst (N:=79) rfl ?_);refine Kd.R_lit kDeed (w0:=_) w.heap.size 111 rfl (N:=79) rfl (xs:=([⟨1,0,0⟩,⟨4,0,0⟩,⟨2,0,0⟩]:List Deed)) (inner:= [.int .i64 1,.int .i64 0,.int .i64 0,.int .i64 4,.int .i64 0,.int .i64 0,.int .i64 2,.int .i64 0,.int .i64 0]) (ok:=(fun _=>True)) (okp:=(fun _=>True)) (by go_simp<;>rfl) (Reps.c3 (kDeed_mkM (⟨1,0,0⟩:Deed)) (Reps.c3 (kDeed_mkM (⟨4,0,0⟩:Deed)) (Reps.c3 (kDeed_mkM (⟨2,0,0⟩:Deed)) (Reps.none _ _)))) (fun _ _=>trivial) trivial (Below.refl _ _) HD.out.size (by simp) ?_;intro v1 wl hv1 hb1 hg hx9;clear hb1 hx9;obtain ⟨a79,c79,ev⟩:=Kd.R_slice hv1;subst ev;have V9_0:=am (show kDeed.R 111 wl w.heap.size (fun _=>True) (.slice a79 3 c79) ([⟨1,0,0⟩,⟨4,0,0⟩,⟨2,0,0⟩]:List Deed) from hv1);clear hv1;have hb:=grown_below hg;replace VC:=am (Kd.R_below VC.out hb);replace V5:=am (Kd.R_below V5.out hb);replace BZ:=am (zb8 BZ.out hb);replace HD:=am (HD.out.grow hb);clear BZc;have BZc:=zc8 BZ.out;clear hb hg;have V9:=V9_0;clear V9_0)
   |((with_reducible refine gate_dst (N:=81) rfl ?_);refine Kd.R_lit kAct (w0:=_) w.heap.size 108 rfl (N:=81) rfl (xs:=([(⟨1, [⟨1,0,0⟩,⟨4,0,0⟩,⟨2,0,0⟩], [],0⟩:Act)]:List Act)) (inner:= [.int .i64 1,.slice a79 3 c79,.slice none 0 0,.int .i64 0]) (ok:=(fun _=>True)) (okp:=(fun _=>True)) (by go_simp<;>rfl) (Reps.c4 (kAct_mkM (⟨1, [⟨1,0,0⟩,⟨4,0,0⟩,⟨2,0,0⟩], [],0⟩:Act) V9.out (Kd.R_nil _ _ _ _ _)) (Reps.none _ _)) (fun _ _=>trivial) trivial (Below.refl _ _) HD.out.size (by simp) ?_;intro v1 wl hv1 hb1 hg hx9;clear hb1 hx9;obtain ⟨a81,c81,ev⟩:=Kd.R_slice hv1;subst ev;have V1_0:=am (show kAct.R 108 wl w.heap.size (fun _=>True) (.slice a81 1 c81) ([(⟨1, [⟨1,0,0⟩,⟨4,0,0⟩,⟨2,0,0⟩], [],0⟩:Act)]:List Act) from hv1);clear hv1;have hb:=grown_below hg;replace VC:=am (Kd.R_below VC.out hb);replace V5:=am (Kd.R_below V5.out hb);replace V9:=am (Kd.R_below V9.out hb);replace BZ:=am (zb8 BZ.out hb);replace HD:=am (HD.out.grow hb);clear BZc;have BZc:=zc8 BZ.out;clear hb hg;have V1:=V1_0;clear V1_0)
   |((with_reducible refine gate_dst (N:=82) rfl ?_);refine Kd.R_lit (Kd.slice 108 kAct) (w0:=_) w.heap.size 104 rfl (N:=82) rfl (xs:=([[(⟨2, [], [1,1],0⟩:Act)], [(⟨1, [⟨1,0,0⟩,⟨4,0,0⟩,⟨2,0,0⟩], [],0⟩:Act)]]:List (List Act))) (inner:= [.slice a75 1 c75,.slice a81 1 c81]) (ok:=(fun _=>True)) (okp:=(fun _=>True)) (by go_simp<;>rfl) (Reps.one ⟨_,rfl,V5.out⟩ (Reps.one ⟨_,rfl,V1.out⟩ (Reps.none _ _))) (fun _ _=>trivial) trivial (Below.refl _ _) HD.out.size (by simp) ?_;intro v1 wl hv1 hb1 hg hx9;clear hb1 hx9;obtain ⟨a82,c82,ev⟩:=Kd.R_slice hv1;subst ev;have VB_0:=am (show (Kd.slice 108 kAct).R 104 wl w.heap.size (fun _=>True) (.slice a82 2 c82) ([[(⟨2, [], [1,1],0⟩:Act)], [(⟨1, [⟨1,0,0⟩,⟨4,0,0⟩,⟨2,0,0⟩], [],0⟩:Act)]]:List (List Act)) from hv1);clear hv1;have hb:=grown_below hg;replace VC:=am (Kd.R_below VC.out hb);replace BZ:=am (zb8 BZ.out hb);replace HD:=am (HD.out.grow hb);clear BZc;have BZc:=zc8 BZ.out;clear hb hg;have VB:=VB_0;clear VB_0)
   |((with_reducible refine gate_store (t:=48) (p:=2) rfl ?_);refine store_block rfl rfl 48 (.tmp 2) (.tmp 83) rfl rfl rfl BZ.out rfl (by kernel_rfl) (aB rfl) ?_;intro wn hbox hg;have BZ_0:=am hbox;replace VC:=am (R_grownT VC.out BZ.out (by decide) hg);replace VB:=am (R_grownT VB.out BZ.out (by decide) hg);replace HD:=am (HD.out.grown hg (fun k hk=>by cases hk;exact LBZ.out));clear BZ BZc;have BZ:=BZ_0;clear BZ_0 hbox hg;have BZc:=zc8 BZ.out))
   refine bodyPost_ret (results_single Try.results53 (.cell gz 48 #[.slice a72 1 c72,.slice a82 2 c82] (0,0) _ rfl BZ.out Try.underlying48 rfl (by kernel_rfl) .nil)) rfl ?_;exact ⟨(⟨[1], [[(⟨2, [], [1,1],0⟩:Act)], [(⟨1, [⟨1,0,0⟩,⟨4,0,0⟩,⟨2,0,0⟩], [],0⟩:Act)]]⟩:Prog),_,_,_,rfl,lit_ok,lit_sz,(by decide),VC.out,VB.out,HD.out.rd,HQ.out.1,by have:=HQ.out.2;omega,HD.out.below,HD.out.keep⟩
end Go.Proofs.Ytimamoimphjakaa.Eq
namespace Go.Proofs.Ytimamoimphjakaa.Eq
section
variable {s:Sys} {i:Nat}
theorem way_len (w:Int):(setWay s i w).tasks.length=s.tasks.length:=set_len _ _ _
theorem toStage_len (w:Int):(toStage s i w).tasks.length=s.tasks.length:=set_len _ _ _
theorem done_len (w:Int):(done s i w).tasks.length=s.tasks.length:=set_len _ _ _
theorem load_len (d:Deed):(load s i d).tasks.length=s.tasks.length:=by
 unfold load;simp only [];split
 ·exact set_len _ _ _
 ·split
  ·exact again_len
  ·exact set_len _ _ _
theorem deed_len (ds:List Deed):(deed s i ds).tasks.length=s.tasks.length:=by
 unfold deed;simp only [];split
 ·split
  ·exact done_len _
  ·exact toStage_len _
 ·split
  ·exact load_len _
  ·split
   ·exact set_len _ _ _
   ·split
    ·exact (set_len _ _ _).trans again_len
    ·exact set_len _ _ _
theorem lock_len:(lock s i).tasks.length=s.tasks.length:=by
 unfold lock;simp only [];split
 ·exact again_len
 ·exact set_len _ _ _
theorem check_len:(check s i).tasks.length=s.tasks.length:=by
 unfold check;simp only [];split
 ·exact toStage_len _
 ·split
  ·exact again_len
  ·exact set_len _ _ _
theorem try_len (ds:List Deed):(try_ s i ds).tasks.length=s.tasks.length:=by
 unfold try_;repeat' split
 ·exact set_len _ _ _
 ·exact deed_len _
 ·exact lock_len
 ·exact set_len _ _ _
 ·exact check_len
 ·exact write_len
theorem awaits_len:(awaits s i).tasks.length=s.tasks.length:=by
 unfold awaits;split
 ·exact set_len _ _ _
 ·exact (way_len _).trans offs_len
theorem step_len (p:Prog):s.tasks.length<=(step p s i).tasks.length:=by
 unfold step;simp only [];repeat' split
 ·exact Nat.le_of_eq awaits_len.symm
 ·exact Nat.le_of_eq (way_len _).symm
 ·exact Nat.le_of_eq (try_len _).symm
 ·rw [fork_len];omega
 ·exact Nat.le_of_eq (way_len _).symm
 ·exact Nat.le_of_eq (set_len _ _ _).symm
end
theorem turn_len (p:Prog) (s:Sys) (k:Int):s.tasks.length<=(turn p s k).tasks.length:=by
 unfold turn;split
 ·exact step_len p
 ·exact Nat.le_refl _
theorem turns_len (p:Prog):∀ (ks:List Int) (s:Sys),s.tasks.length<=(turns p s ks).tasks.length
 | [],s=>Nat.le_refl _
 | k :: ks,s=>Nat.le_trans (turn_len p s k) (turns_len p ks _)
theorem Inv.sysSz {p:Prog} {s:Sys} {N:Nat} (h:Inv p s N) (hN:N<=1000000):SysSz s where
 cells:=Nat.le_trans h.cn (by decide)
 tasks:=Nat.le_trans h.many (by omega)
 log:=by have:=h.room;omega
 task:=fun i hi=>⟨by rw [show (taskAt s.tasks i).regs.length=3 from (h.task i hi).regs.len];decide,by rw [show (taskAt s.tasks i).old.length=3 from (h.task i hi).old.len];decide,Nat.le_trans (h.reads hi) (by decide),Nat.le_trans (h.puts hi) (by decide)⟩
 logs:=fun i hi=>by
  have:=h.logs (entryAt s.log i) (by simp [entryAt,List.getD_eq_getElem?_getD,List.getElem?_eq_getElem hi])
  exact ⟨by omega,by omega⟩
end Go.Proofs.Ytimamoimphjakaa.Eq
namespace Go.Proofs.Ytimamoimphjakaa.Eq
open Go.RowKit Go.Proofs.YtimamoimphjakaaW.PrintWords Go.Proofs.YtimamoimphjakaaW.PrintLast Go.Proofs.YtimamoimphjakaaW.PrintMore
theorem prog_K {W:World} {base:Nat} {p:Prog} {vc vb:Value} (h1:(Kd.int .i64).R 3 W base (fun _=>True) vc p.cells) (h2:(Kd.slice 108 kAct).R 104 W base (fun _=>True) vb p.bodies):kProg.K W p [vc,vb]:=by
 obtain ⟨A0,c0,rfl,l0,g0⟩:=Kd.R_reads h1;obtain ⟨A1,c1,rfl,l1,g1⟩:=Kd.R_reads h2;exact kProg_mk p l0 g0 l1 g1
theorem rows_K {W:World} {base:Nat} {p:Prog} {vc vt vl:Value} (h1:kCell.R 53 W base (fun _=>True) vc (sysNew p).cells) (h2:kTask.R 38 W base (fun _=>True) vt (sysNew p).tasks) (h3:kEntry.R 119 W base (fun _=>True) vl (sysNew p).log):kSys.K W (sysNew p) [vc,vt,.int .i64 0,vl]:=SysRows.read ⟨h1,h2,h3⟩
def SysPost (w0 w:World) (g:Nat) (b:List Int) (q0:Int) (e:Ending) (w':World):Prop:=∃ (p:Prog) (s:Sys) (vc vb sc st sl:Value) (own:Nat->Nat) (q:Int) (N:Nat),e= .returned (.tuple #[.agg #[vc,vb],.agg #[sc,st,.int .i64 s.clock,sl]])/\progOk p=true/\ProgSz p/\1<=p.cells.length/\(Kd.int .i64).R 3 w' w.heap.size (fun _=>True) vc p.cells/\(Kd.slice 108 kAct).R 104 w' w.heap.size (fun _=>True) vb p.bodies/\Inv p s N/\N<=500/\1<=s.tasks.length/\Sy w.heap.size own s sc st sl w'/\Rds w0 w g b q w'/\q0<=q/\q<=q0+7000
theorem l71Sys_calls (w0 w:World) (g:Nat) (b:List Int) (q0:Int) (hI:Rd.IsS101 w0 w g b q0) (hB:Below w0.heap.size w0 w) (hc:Rd.Code b) (h0:0<=q0) (h1:q0<=500000):
  Calls Try.prog 84 #[.pointer (some ⟨g,0,none⟩)] w fun e w'=>SysPost w0 w g b q0 e w':=by
 have HD:=am (Rds.start hI hB h0);have HC:=am hc;have HQ0:=am h1;have HQ:=am (show q0<=q0/\q0<=q0 from ⟨Int.le_refl _,Int.le_refl _⟩);clear hI hB hc h0 h1;go_enter Try.func84,Try.ntmps84
 go_wp2_with (first
 |((with_reducible refine gate_dst (N:=2) rfl ?_);refine box_event rfl (N:=2) rfl (t:=48) (by go_simp<;>rfl) ?_;intro gz hg0 wn hbox hb;have BZ_0:=am hbox;have LBZ:=am (show w.heap.size<=gz from Nat.le_trans HD.out.size (Nat.le_of_eq hg0.symm));clear hbox hg0;replace HD:=am (HD.out.grow hb);clear hb;have BZ:=BZ_0;clear BZ_0;have BZc:=zc8 BZ.out)
 |((with_reducible refine gate_dst (N:=3) rfl ?_);refine box_event rfl (N:=3) rfl (t:=27) (by go_simp<;>rfl) ?_;intro gy hg0 wn hbox hb;have BY_0:=am hbox;have LBY:=am (show w.heap.size<=gy from Nat.le_trans HD.out.size (Nat.le_of_eq hg0.symm));have NBZBY:=am (show gz ≠ gy from fun he=>by have:=blk_lt BZ.out;omega);clear hbox hg0;replace BZ:=am (zb8 BZ.out hb);replace HD:=am (HD.out.grow hb);clear BZc;have BZc:=zc8 BZ.out;clear hb;have BY:=BY_0;clear BY_0;have BYc:=zc8 BY.out)
 |(go_at_call 53;refine (l71Prog_calls w0 _ g b q0 HD.out.rd HD.out.below HC.out HD.out.pos HQ0.out).mono ?_;rintro e wn ⟨p,vc,vb,q2,rfl,hok,hsz,hcl,hvc,hvb,hi,hq2,hq3,hbl,hk⟩;replace HQ:=am (show q0<=q2/\q2<=q0+5000 from ⟨hq2,hq3⟩);have hd:=HD.out.next hi hbl hk (Int.le_trans HD.out.pos hq2);have LW:=HD.out.size;clear hi hbl;clear hq2 hq3;replace BZ:=am (HD.out.blkK hk BZ.out (by decide));replace BY:=am (HD.out.blkK hk BY.out (by decide));replace HD:=am (hd);clear BZc BYc;have BZc:=zc8 BZ.out;have BYc:=zc8 BY.out;clear hk hd;obtain ⟨A,cA,ev⟩:=Kd.R_slice hvc;subst ev;obtain ⟨B,cB,ev⟩:=Kd.R_slice hvb;subst ev;obtain ⟨lk,hlk⟩:∃ z:Nat,z=p.cells.length:=⟨_,rfl⟩;obtain ⟨lb,hlb⟩:∃ z:Nat,z=p.bodies.length:=⟨_,rfl⟩;rw [<-hlk] at hvc;rw [<-hlb] at hvb;rw [<-hlk,<-hlb];have VC:=am (Kd.R_lower hvc LW);have VB:=am (Kd.R_lower hvb LW);have LK:=am hlk;have LB:=am hlb;have OK:=am hok;have HSZ:=am hsz;have HCL:=am hcl;clear hvc hvb LW hlk hlb hok hsz hcl)
 |((with_reducible refine gate_dst (N:=4) rfl ?_);refine box_event rfl (N:=4) rfl (t:=48) (by go_simp<;>rfl) ?_;intro gp hg0 wn hbox hb;have BP_0:=am hbox;have LBP:=am (show w.heap.size<=gp from Nat.le_trans HD.out.size (Nat.le_of_eq hg0.symm));have NBZBP:=am (show gz ≠ gp from fun he=>by have:=blk_lt BZ.out;omega);clear hbox hg0;replace VC:=am (Kd.R_below VC.out hb);replace VB:=am (Kd.R_below VB.out hb);replace BZ:=am (zb8 BZ.out hb);replace BY:=am (zb8 BY.out hb);replace HD:=am (HD.out.grow hb);clear BZc BYc;have BZc:=zc8 BZ.out;have BYc:=zc8 BY.out;clear hb;have BP:=BP_0;clear BP_0;have BPc:=zc8 BP.out)
 |((with_reducible refine gate_store (t:=48) (p:=4) rfl ?_);refine store_block rfl rfl 48 (.tmp 4) (.tmp 8) rfl rfl rfl BP.out rfl (by kernel_rfl) (aB rfl) ?_;intro wn hbox hg;have BP_0:=am hbox;replace VC:=am (R_grownT VC.out BP.out (by decide) hg);replace VB:=am (R_grownT VB.out BP.out (by decide) hg);replace BZ:=am (blk_grown BZ.out hg (fun he=>NBZBP.out (by injection he)));replace BY:=am (blk_grown BY.out hg (fun he=>blk_ne BY.out BP.out (by decide) (by injection he)));replace HD:=am (HD.out.grown hg (fun k hk=>by cases hk;exact LBP.out));clear BP BZc BYc BPc;have BP:=BP_0;clear BP_0 hbox hg;have BZc:=zc8 BZ.out;have BYc:=zc8 BY.out;have BPc:=zc8 BP.out)
 |((with_reducible refine gate_dst (N:=10) rfl ?_);refine wpList_load_mid rfl 48 (.tmp 4) rfl gp 0 rfl _ _ (lC BP.out) Try.underlying48 rfl (by kernel_rfl) ?_)
 |(go_at_call 117;refine (sysNew_aux p _ true _ (prog_K VC.out VB.out) HSZ.out OK.out).mono ?_;rintro e wn ⟨nc,nt,nl,rfl,hb,hk1,-⟩;obtain ⟨hw1,hw2,hw3⟩:=hk1 rfl;clear hk1;obtain ⟨Z0,k0,ev⟩:=Kd.R_slice hw1;subst ev;obtain ⟨Z1,k1,ev⟩:=Kd.R_slice hw2;subst ev;obtain ⟨Z3,k3,ev⟩:=Kd.R_slice hw3;subst ev;obtain ⟨z0,hz0⟩:∃ z:Nat,z=(sysNew p).cells.length:=⟨_,rfl⟩;obtain ⟨z1,hz1⟩:∃ z:Nat,z=(sysNew p).tasks.length:=⟨_,rfl⟩;obtain ⟨z3,hz3⟩:∃ z:Nat,z=(sysNew p).log.length:=⟨_,rfl⟩;rw [<-hz0] at hw1;rw [<-hz1] at hw2;rw [<-hz3] at hw3;rw [<-hz0,<-hz1,<-hz3];have LW:=HD.out.size;have WC:=am (Kd.R_lower hw1 LW);have WT:=am (Kd.R_lower hw2 LW);have WL:=am (Kd.R_lower hw3 LW);clear hw1 hw2 hw3 LW hz0 hz1 hz3;replace VC:=am (Kd.R_below VC.out hb);replace VB:=am (Kd.R_below VB.out hb);replace BZ:=am (zb8 BZ.out hb);replace BY:=am (zb8 BY.out hb);replace BP:=am (zb8 BP.out hb);replace HD:=am (HD.out.grow hb);clear BZc BYc BPc;have BZc:=zc8 BZ.out;have BYc:=zc8 BY.out;have BPc:=zc8 BP.out;clear hb)
 |((with_reducible refine gate_dst (N:=5) rfl ?_);refine box_event rfl (N:=5) rfl (t:=27) (by go_simp<;>rfl) ?_;intro gs hg0 wn hbox hb;have BS_0:=am hbox;have LBS:=am (show w.heap.size<=gs from Nat.le_trans HD.out.size (Nat.le_of_eq hg0.symm));have NBYBS:=am (show gy ≠ gs from fun he=>by have:=blk_lt BY.out;omega);clear hbox hg0;replace VC:=am (Kd.R_below VC.out hb);replace VB:=am (Kd.R_below VB.out hb);replace WC:=am (Kd.R_below WC.out hb);replace WT:=am (Kd.R_below WT.out hb);replace WL:=am (Kd.R_below WL.out hb);replace BZ:=am (zb8 BZ.out hb);replace BY:=am (zb8 BY.out hb);replace BP:=am (zb8 BP.out hb);replace HD:=am (HD.out.grow hb);clear BZc BYc BPc;have BZc:=zc8 BZ.out;have BYc:=zc8 BY.out;have BPc:=zc8 BP.out;clear hb;have BS:=BS_0;clear BS_0;have BSc:=zc8 BS.out)
 |((with_reducible refine gate_store (t:=27) (p:=5) rfl ?_);refine store_block rfl rfl 27 (.tmp 5) (.tmp 12) rfl rfl rfl BS.out rfl (by kernel_rfl) (aB rfl) ?_;intro wn hbox hg;have BS_0:=am hbox;replace VC:=am (R_grownT VC.out BS.out (by decide) hg);replace VB:=am (R_grownT VB.out BS.out (by decide) hg);replace WC:=am (R_grownT WC.out BS.out (by decide) hg);replace WT:=am (R_grownT WT.out BS.out (by decide) hg);replace WL:=am (R_grownT WL.out BS.out (by decide) hg);replace BZ:=am (blk_grown BZ.out hg (fun he=>blk_ne BZ.out BS.out (by decide) (by injection he)));replace BY:=am (blk_grown BY.out hg (fun he=>NBYBS.out (by injection he)));replace BP:=am (blk_grown BP.out hg (fun he=>blk_ne BP.out BS.out (by decide) (by injection he)));replace HD:=am (HD.out.grown hg (fun k hk=>by cases hk;exact LBS.out));clear BS BZc BYc BPc BSc;have BS:=BS_0;clear BS_0 hbox hg;have BZc:=zc8 BZ.out;have BYc:=zc8 BY.out;have BPc:=zc8 BP.out;have BSc:=zc8 BS.out))
 refine st9 (n:=12) (S:=fun W=>W.heap[gp]? = some (.cells #[.slice A lk cA,.slice B lb cB] 48 (0,0))/\W.heap[gs]? = some (.cells #[.slice Z0 z0 k0,.slice Z1 z1 k1,.int .i64 0,.slice Z3 z3 k3] 27 (0,0))) (ds:= [11]) (by kernel_rfl) rfl ⟨blk_drew BP.out,blk_drew BS.out⟩ (fun hHeld=> ?_);have hb:=below_drew (Below.refl wn.heap.size wn);generalize wn.drew=w7 at hb hHeld ⊢;replace VC:=am (Kd.R_below VC.out hb);replace VB:=am (Kd.R_below VB.out hb);replace WC:=am (Kd.R_below WC.out hb);replace WT:=am (Kd.R_below WT.out hb);replace WL:=am (Kd.R_below WL.out hb);replace BZ:=am (zb8 BZ.out hb);replace BY:=am (zb8 BY.out hb);replace BP:=am (zb8 BP.out hb);replace BS:=am (zb8 BS.out hb);replace HD:=am (HD.out.grow hb);clear BZc BYc BPc BSc;have BZc:=zc8 BZ.out;have BYc:=zc8 BY.out;have BPc:=zc8 BP.out;have BSc:=zc8 BS.out;clear hb;refine ba9 (fuel:=8) (n:=4) [0,1,2,3] (by kernel_rfl) (fun N _ _ _ _ h=>by cases N <;> exact h) hHeld ?_
 iterate 4 (
  refine stillS_step (v:= ?_) (a':= ?_) rfl (Or.inl ⟨by rfl, ?_⟩) ?_ ?_;rotate_left
  ·rintro W ⟨s0,s1⟩
   have t0:=zc8 s0;have t1:=zc8 s1;clear s0 s1;go_simp;with_reducible rfl
  rotate_left
  ·simp only [Act.put,sA,sZ,sS,i64_w]
   rfl)
 refine stillS_nil ?_;refine on9 (i:=4) (N:=some 19) rfl rfl (by kernel_rfl) (by decide) (fun K hK=> ?_);refine goes_ Try.func49 (by kernel_rfl) rfl #[.pointer (some ⟨g,0,none⟩),.int .i64 120] (by rfl) rfl rfl (by (try simp only [List.map_toArray,List.map_cons,List.map_nil]);first | done | rfl) ?_;refine (pick_rds HD.out HC.out (by have:=HQ.out;have:=HQ0.out;omega) 120).mono ?_;rintro e wa ⟨x,q2,rfl,hx,hq2,hd,hk⟩;refine ⟨_,rfl, ?_⟩;refine hK.out _ _ (⟨HD.out.blkK hk hHeld.1 (by decide),HD.out.blkK hk hHeld.2 (by decide)⟩) (fun hHeld=> ?_);clear hK K;refine norm_ (a':= ?_) ?_ ?_;rotate_left
 ·show Act.put _ (some 19) _=_
  simp only [Act.put,sA,sZ,sS,i64_w];rfl
 replace HQ:=am (show q0<=q2/\q2<=q0+5001 from by have:=HQ.out;(try have:=HNX.out);(try have:=HNB.out);omega);clear hq2;replace VC:=am (HD.out.rowK hk VC.out (by decide));replace VB:=am (HD.out.rowK hk VB.out (by decide));replace WC:=am (HD.out.rowK hk WC.out (by decide));replace WT:=am (HD.out.rowK hk WT.out (by decide));replace WL:=am (HD.out.rowK hk WL.out (by decide));replace BZ:=am (HD.out.blkK hk BZ.out (by decide));replace BY:=am (HD.out.blkK hk BY.out (by decide));replace BP:=am (HD.out.blkK hk BP.out (by decide));replace BS:=am (HD.out.blkK hk BS.out (by decide));replace HD:=am (hd);clear BZc BYc BPc BSc;have BZc:=zc8 BZ.out;have BYc:=zc8 BY.out;have BPc:=zc8 BP.out;have BSc:=zc8 BS.out;clear hk hd;have hx9:x<=119:=by omega
 clear hx;obtain ⟨y,hy⟩:∃ y:Int,y=10+(x:Int):=⟨_,rfl⟩;have wy:wrap64 y=y:=Rd.wrap_in (by omega) (by omega);have hy0:0<=y:=by omega
 have hy1:y<=190:=by omega
 clear hx9;refine ba9 (fuel:=6) (n:=1) [5] (by kernel_rfl) (fun N _ _ _ _ h=>by cases N <;> exact h) hHeld ?_;refine stillS_step (v:= ?_) (a':= ?_) rfl (Or.inl ⟨by rfl, ?_⟩) ?_ ?_;rotate_left
 ·intro W s0
  go_simp
  with_reducible rfl
 rotate_left
 ·simp only [Act.put,sA,sZ,sS,i64_w]
  rfl
 refine stillS_nil ?_;rw [<-hy];rw [wy];clear wy hy;refine on9 (i:=6) (N:=some 21) rfl rfl (by kernel_rfl) (by decide) (fun K hK=> ?_);refine goes_ Try.func118 (by kernel_rfl) rfl #[.pointer (some ⟨g,0,none⟩),.int .i64 y] (by rfl) rfl rfl (by (try simp only [List.map_toArray,List.map_cons,List.map_nil]);first | done | rfl) ?_;refine (turns_rds HD.out HC.out (by have:=HQ.out;have:=HQ0.out;omega) hy0 hy1).mono ?_;rintro e wb ⟨v,ks,q2,rfl,hv,hkl,hq2,hq3,hd,hk⟩;refine ⟨_,rfl, ?_⟩;refine hK.out _ _ (⟨HD.out.blkK hk hHeld.1 (by decide),HD.out.blkK hk hHeld.2 (by decide)⟩) (fun hHeld=> ?_);clear hK K;refine norm_ (a':= ?_) ?_ ?_;rotate_left
 ·show Act.put _ (some 21) _=_
  simp only [Act.put,sA,sZ,sS,i64_w];rfl
 replace HQ:=am (show q0<=q2/\q2<=q0+6001 from by have:=HQ.out;(try have:=HNX.out);(try have:=HNB.out);omega);clear hq2 hq3;replace VC:=am (HD.out.rowK hk VC.out (by decide));replace VB:=am (HD.out.rowK hk VB.out (by decide));replace WC:=am (HD.out.rowK hk WC.out (by decide));replace WT:=am (HD.out.rowK hk WT.out (by decide));replace WL:=am (HD.out.rowK hk WL.out (by decide));replace BZ:=am (HD.out.blkK hk BZ.out (by decide));replace BY:=am (HD.out.blkK hk BY.out (by decide));replace BP:=am (HD.out.blkK hk BP.out (by decide));replace BS:=am (HD.out.blkK hk BS.out (by decide));replace HD:=am (hd);clear BZc BYc BPc BSc;have BZc:=zc8 BZ.out;have BYc:=zc8 BY.out;have BPc:=zc8 BP.out;have BSc:=zc8 BS.out;clear hk hd;obtain ⟨Ak,ck,ev⟩:=Kd.R_slice hv;subst ev;have hKS:=(Kd.R_reads' hv).2.2;clear hv hy0 hy1;refine on9 (i:=7) (N:=some 22) rfl rfl (by kernel_rfl) (by decide) (fun K hK=> ?_);refine goes_ Try.func55 (by kernel_rfl) rfl #[.agg #[.slice A lk cA,.slice B lb cB],.agg #[.slice Z0 z0 k0,.slice Z1 z1 k1,.int .i64 0,.slice Z3 z3 k3],.slice Ak ks.length ck] (by rfl) rfl rfl (by (try simp only [List.map_toArray,List.map_cons,List.map_nil]);first | done | rfl) ?_;have hinv:=Inv.new OK.out;refine (sysRun_calls p _ (sysNew p) [.slice Z0 z0 k0,.slice Z1 z1 k1,.int .i64 0,.slice Z3 z3 k3] ks Ak ck _ (prog_K VC.out VB.out) (rows_K WC.out WT.out WL.out) HSZ.out (hinv.sysSz (by decide)) (by have:=hinv.room;have:=hinv.many;omega) hKS).mono ?_;rintro e wc ⟨ss,bb,rfl,hb,hbb,hyes,-⟩;refine ⟨_,rfl, ?_⟩;have hbt:bb=true:=by rw [hbb,sysOk_new OK.out,decide_eq_true (by omega:ks.length<=300)];rfl
 subst hbt;obtain ⟨own,uc0,ut0,ul0,rfl,hsy⟩:=hyes rfl;clear hyes hbb;have hiv:=hinv.turns ks;have htl:=turns_len p ks (sysNew p);have HN:Aside0 (1+2*ks.length<=500):=⟨by omega⟩;obtain ⟨sn,hsn⟩:∃ z,z=turns p (sysNew p) ks:=⟨_,rfl⟩;rw [<-hsn] at hsy hiv htl;rw [<-hsn];have HIV:=am hiv;have HTL:Aside0 (1<=sn.tasks.length):=⟨htl⟩;obtain ⟨Uc,uc,e1⟩:=Kd.R_slice hsy.cells;obtain ⟨Ut,ut,e2⟩:=Kd.R_slice hsy.tasks;obtain ⟨Ul,ul,e3⟩:=Kd.R_slice hsy.log;rw [zip_len] at e2;subst e1 e2 e3;have OZ:=am (hsy.low gz (blk_lt BZ.out));have OY:=am (hsy.low gy (blk_lt BY.out));have OS:=am (hsy.low gs (blk_lt BS.out));have HS:=am (hsy.lower HD.out.size);clear hsy hiv htl hinv hsn hKS hkl;refine hK.out _ _ (⟨zb8 hHeld.1 hb,zb8 hHeld.2 hb⟩) (fun hHeld=> ?_);clear hK K;refine norm_ (a':= ?_) ?_ ?_;rotate_left
 ·show Act.put _ (some 22) _=_
  simp only [Act.put,sA,sZ,sS,i64_w];rfl
 replace VC:=am (Kd.R_below VC.out hb);replace VB:=am (Kd.R_below VB.out hb);replace BZ:=am (zb8 BZ.out hb);replace BY:=am (zb8 BY.out hb);replace BP:=am (zb8 BP.out hb);replace BS:=am (zb8 BS.out hb);replace HD:=am (HD.out.grow hb);clear BZc BYc BPc BSc;have BZc:=zc8 BZ.out;have BYc:=zc8 BY.out;have BPc:=zc8 BP.out;have BSc:=zc8 BS.out;clear hb;refine ba9 (fuel:=2) (n:=2) [8,9] (by kernel_rfl) (fun N _ _ _ _ h=>by cases N <;> exact h) hHeld ?_
 iterate 2 (
  refine stillS_step (v:= ?_) (a':= ?_) rfl (Or.inl ⟨by rfl, ?_⟩) ?_ ?_;rotate_left
  ·intro W hW
   go_simp
   with_reducible rfl
  rotate_left
  ·simp only [Act.put,sA,sZ,sS,i64_w]
   rfl)
 refine stillS_nil ?_;obtain ⟨hbox,hg⟩:=setCells_blk (cs:= [.slice Uc sn.cells.length uc,.slice Ut sn.tasks.length ut,.int .i64 sn.clock,.slice Ul sn.log.length ul]) BS.out rfl;refine dead_store (i:=10) (j:=11) (N:=some 24) (fuel:=0) (a':= ?a2) (v:=.bool true) (w1:=wc.setCells gs 0 [.slice Uc sn.cells.length uc,.slice Ut sn.tasks.length ut,.int .i64 sn.clock,.slice Ul sn.log.length ul]) rfl rfl rfl (by kernel_rfl) (by decide) (fun _=>rfl) (fun _=>rfl) (by intro W;first|(go_simp;done)|(go_simp;rfl)) ?ha ?hj1 ?hj2 ?h
 case ha=>
  simp only [Act.put,sA,sZ,sS,i64_w];rfl
 case hj1=>exact fun K hK=>store_wp rfl 27 (.tmp 5) (.tmp 23) rfl rfl rfl BS.out rfl (by kernel_rfl) (aB rfl) hK
 case hj2=>exact fun K hK=>store_wp rfl 27 (.tmp 5) (.tmp 23) rfl rfl rfl BS.out rfl (by kernel_rfl) (aB rfl) hK
 case h=>
  clear hHeld;have BS_0:=am hbox;generalize wc.setCells gs 0 [.slice Uc sn.cells.length uc,.slice Ut sn.tasks.length ut,.int .i64 sn.clock,.slice Ul sn.log.length ul]=wz at hg hbox BS_0 ⊢;replace VC:=am (R_grownT VC.out BS.out (by decide) hg);replace VB:=am (R_grownT VB.out BS.out (by decide) hg);replace BZ:=am (blk_grown BZ.out hg (fun he=>blk_ne BZ.out BS.out (by decide) (by injection he)));replace BY:=am (blk_grown BY.out hg (fun he=>NBYBS.out (by injection he)));replace BP:=am (blk_grown BP.out hg (fun he=>blk_ne BP.out BS.out (by decide) (by injection he)));replace HS:=am (HS.out.move hg.size (fun q hq hl=>hg.block q hl (fun he=>hq (by injection he with he;rw [he];exact OS.out))));replace HD:=am (HD.out.grown hg (fun k hk=>by cases hk;exact LBS.out));clear BS BZc BYc BPc BSc;have BS:=BS_0;clear BS_0 hbox hg;have BZc:=zc8 BZ.out;have BYc:=zc8 BY.out;have BPc:=zc8 BP.out;have BSc:=zc8 BS.out;go_wp2;refine st9 (n:=4) (S:=fun W=>W.heap[gp]? = some (.cells #[.slice A lk cA,.slice B lb cB] 48 (0,0))/\W.heap[gs]? = some (.cells #[.slice Uc sn.cells.length uc,.slice Ut sn.tasks.length ut,.int .i64 sn.clock,.slice Ul sn.log.length ul] 27 (0,0))) (ds:= [3]) (by kernel_rfl) rfl ⟨blk_drew BP.out,blk_drew BS.out⟩ (fun hHeld=> ?_);have hb:=below_drew (Below.refl wz.heap.size wz);generalize wz.drew=w7 at hb hHeld ⊢;replace HS:=am (HS.out.grow hb);replace VC:=am (Kd.R_below VC.out hb);replace VB:=am (Kd.R_below VB.out hb);replace BZ:=am (zb8 BZ.out hb);replace BY:=am (zb8 BY.out hb);replace BP:=am (zb8 BP.out hb);replace BS:=am (zb8 BS.out hb);replace HD:=am (HD.out.grow hb);clear BZc BYc BPc BSc;have BZc:=zc8 BZ.out;have BYc:=zc8 BY.out;have BPc:=zc8 BP.out;have BSc:=zc8 BS.out;clear hb;refine ba9 (fuel:=3) (n:=1) [0] (by kernel_rfl) (fun N _ _ _ _ h=>by cases N <;> exact h) hHeld ?_
  iterate 1 (
   refine stillS_step (v:= ?_) (a':= ?_) rfl (Or.inl ⟨by rfl, ?_⟩) ?_ ?_;rotate_left
   ·rintro W ⟨s0,s1⟩
    have t0:=zc8 s0;have t1:=zc8 s1;clear s0 s1;go_simp;with_reducible rfl
   rotate_left
   ·simp only [Act.put,sA,sZ,sS,i64_w]
    rfl)
  refine stillS_nil ?_;refine tw9 (i:=1) (j:=2) (Ni:=some 26) (Nj:=none) rfl rfl rfl rfl (by kernel_rfl) (by decide) (by decide) (fun K hK=> ?_) (fun K hK=> ?_)
  ·have t1:=zc8 hHeld.2
   refine value_ (v:=.agg #[.slice Uc sn.cells.length uc,.slice Ut sn.tasks.length ut,.int .i64 sn.clock,.slice Ul sn.log.length ul]) (w1:=_) (by rfl) rfl (by go_simp<;>rfl) ?_;clear t1;refine hK.out _ _ (hHeld) (fun hHeld=> ?_);clear hK K;refine norm_ (a':= ?_) ?_ ?_;rotate_left
   ·show Act.put _ (some 26) _=_
    simp only [Act.put,sA,sZ,sS,i64_w];rfl
   refine on9 (i:=2) (N:=none) rfl rfl (by kernel_rfl) (by decide) (fun K hK=> ?_);obtain ⟨hbox,hg⟩:=setCells_blk (cs:= [.slice A lk cA,.slice B lb cB]) BZ.out rfl;rw [if_pos (by rfl)];refine store_wp rfl 48 (.tmp 2) (.tmp 25) rfl rfl rfl BZ.out rfl (by kernel_rfl) (aB rfl) ?_;generalize World.setCells _ gz 0 [.slice A lk cA,.slice B lb cB]=wy at hbox hg ⊢;refine hK.out _ _ ⟨blk_grown hHeld.1 hg (fun he=>Ne.symm NBZBP.out (by injection he)),blk_grown hHeld.2 hg (fun he=>blk_ne hHeld.2 BZ.out (by decide) (by injection he))⟩ (fun hHeld=> ?_);clear hK K;have BZ_0:=am hbox;replace VC:=am (R_grownT VC.out BZ.out (by decide) hg);replace VB:=am (R_grownT VB.out BZ.out (by decide) hg);replace BY:=am (blk_grown BY.out hg (fun he=>blk_ne BY.out BZ.out (by decide) (by injection he)));replace BP:=am (blk_grown BP.out hg (fun he=>Ne.symm NBZBP.out (by injection he)));replace BS:=am (blk_grown BS.out hg (fun he=>blk_ne BS.out BZ.out (by decide) (by injection he)));replace HS:=am (HS.out.move hg.size (fun q hq hl=>hg.block q hl (fun he=>hq (by injection he with he;rw [he];exact OZ.out))));replace HD:=am (HD.out.grown hg (fun k hk=>by cases hk;exact LBZ.out));clear BZ BZc BYc BPc BSc;have BZ:=BZ_0;clear BZ_0 hbox hg;have BZc:=zc8 BZ.out;have BYc:=zc8 BY.out;have BPc:=zc8 BP.out;have BSc:=zc8 BS.out;clear hHeld;refine tail_ (fuel:=1) 3 (by kernel_rfl) ?_;simp only [List.drop_succ_cons,List.drop_zero]
   go_wp2_with (first
   |((with_reducible refine gate_store (t:=27) (p:=3) rfl ?_);refine store_block rfl rfl 27 (.tmp 3) (.tmp 26) rfl rfl rfl BY.out rfl (by kernel_rfl) (aB rfl) ?_;intro wn hbox hg;have BY_0:=am hbox;replace VC:=am (R_grownT VC.out BY.out (by decide) hg);replace VB:=am (R_grownT VB.out BY.out (by decide) hg);replace BZ:=am (blk_grown BZ.out hg (fun he=>blk_ne BZ.out BY.out (by decide) (by injection he)));replace BP:=am (blk_grown BP.out hg (fun he=>blk_ne BP.out BY.out (by decide) (by injection he)));replace BS:=am (blk_grown BS.out hg (fun he=>Ne.symm NBYBS.out (by injection he)));replace HS:=am (HS.out.move hg.size (fun q hq hl=>hg.block q hl (fun he=>hq (by injection he with he;rw [he];exact OY.out))));replace HD:=am (HD.out.grown hg (fun k hk=>by cases hk;exact LBY.out));clear BY BZc BYc BPc BSc;have BY:=BY_0;clear BY_0 hbox hg;have BZc:=zc8 BZ.out;have BYc:=zc8 BY.out;have BPc:=zc8 BP.out;have BSc:=zc8 BS.out))
   refine bodyPost_ret (results_list (rs:= [.cell 2 48,.cell 3 27]) rfl (by simp) (.cell gz 48 #[.slice A lk cA,.slice B lb cB] (0,0) _ rfl BZ.out Try.underlying48 rfl (by kernel_rfl) (.cell gy 27 #[.slice Uc sn.cells.length uc,.slice Ut sn.tasks.length ut,.int .i64 sn.clock,.slice Ul sn.log.length ul] (0,0) _ rfl BY.out Try.underlying27 rfl (by kernel_rfl) .nil))) rfl ?_;exact ⟨p,sn,_,_,_,_,_,own,_,_,rfl,OK.out,HSZ.out,HCL.out,VC.out,VB.out,HIV.out,HN.out,HTL.out,HS.out,HD.out,HQ.out.1,by have:=HQ.out.2;omega⟩
  ·obtain ⟨hbox,hg⟩:=setCells_blk (cs:= [.slice A lk cA,.slice B lb cB]) BZ.out rfl
   rw [if_pos (by rfl)];refine store_wp rfl 48 (.tmp 2) (.tmp 25) rfl rfl rfl BZ.out rfl (by kernel_rfl) (aB rfl) ?_;generalize World.setCells _ gz 0 [.slice A lk cA,.slice B lb cB]=wy at hbox hg ⊢;refine hK.out _ _ ⟨blk_grown hHeld.1 hg (fun he=>Ne.symm NBZBP.out (by injection he)),blk_grown hHeld.2 hg (fun he=>blk_ne hHeld.2 BZ.out (by decide) (by injection he))⟩ (fun hHeld=> ?_);clear hK K;have BZ_0:=am hbox;replace VC:=am (R_grownT VC.out BZ.out (by decide) hg);replace VB:=am (R_grownT VB.out BZ.out (by decide) hg);replace BY:=am (blk_grown BY.out hg (fun he=>blk_ne BY.out BZ.out (by decide) (by injection he)));replace BP:=am (blk_grown BP.out hg (fun he=>Ne.symm NBZBP.out (by injection he)));replace BS:=am (blk_grown BS.out hg (fun he=>blk_ne BS.out BZ.out (by decide) (by injection he)));replace HS:=am (HS.out.move hg.size (fun q hq hl=>hg.block q hl (fun he=>hq (by injection he with he;rw [he];exact OZ.out))));replace HD:=am (HD.out.grown hg (fun k hk=>by cases hk;exact LBZ.out));clear BZ BZc BYc BPc BSc;have BZ:=BZ_0;clear BZ_0 hbox hg;have BZc:=zc8 BZ.out;have BYc:=zc8 BY.out;have BPc:=zc8 BP.out;have BSc:=zc8 BS.out;refine on9 (i:=1) (N:=some 26) rfl rfl (by kernel_rfl) (by decide) (fun K hK=> ?_);have t1:=zc8 hHeld.2;refine value_ (v:=.agg #[.slice Uc sn.cells.length uc,.slice Ut sn.tasks.length ut,.int .i64 sn.clock,.slice Ul sn.log.length ul]) (w1:=_) (by rfl) rfl (by go_simp<;>rfl) ?_;clear t1;refine hK.out _ _ (hHeld) (fun hHeld=> ?_);clear hK K;refine norm_ (a':= ?_) ?_ ?_;rotate_left
   ·show Act.put _ (some 26) _=_
    simp only [Act.put,sA,sZ,sS,i64_w];rfl
   clear hHeld;refine tail_ (fuel:=1) 3 (by kernel_rfl) ?_;simp only [List.drop_succ_cons,List.drop_zero]
   go_wp2_with (first
   |((with_reducible refine gate_store (t:=27) (p:=3) rfl ?_);refine store_block rfl rfl 27 (.tmp 3) (.tmp 26) rfl rfl rfl BY.out rfl (by kernel_rfl) (aB rfl) ?_;intro wn hbox hg;have BY_0:=am hbox;replace VC:=am (R_grownT VC.out BY.out (by decide) hg);replace VB:=am (R_grownT VB.out BY.out (by decide) hg);replace BZ:=am (blk_grown BZ.out hg (fun he=>blk_ne BZ.out BY.out (by decide) (by injection he)));replace BP:=am (blk_grown BP.out hg (fun he=>blk_ne BP.out BY.out (by decide) (by injection he)));replace BS:=am (blk_grown BS.out hg (fun he=>Ne.symm NBYBS.out (by injection he)));replace HS:=am (HS.out.move hg.size (fun q hq hl=>hg.block q hl (fun he=>hq (by injection he with he;rw [he];exact OY.out))));replace HD:=am (HD.out.grown hg (fun k hk=>by cases hk;exact LBY.out));clear BY BZc BYc BPc BSc;have BY:=BY_0;clear BY_0 hbox hg;have BZc:=zc8 BZ.out;have BYc:=zc8 BY.out;have BPc:=zc8 BP.out;have BSc:=zc8 BS.out))
   refine bodyPost_ret (results_list (rs:= [.cell 2 48,.cell 3 27]) rfl (by simp) (.cell gz 48 #[.slice A lk cA,.slice B lb cB] (0,0) _ rfl BZ.out Try.underlying48 rfl (by kernel_rfl) (.cell gy 27 #[.slice Uc sn.cells.length uc,.slice Ut sn.tasks.length ut,.int .i64 sn.clock,.slice Ul sn.log.length ul] (0,0) _ rfl BY.out Try.underlying27 rfl (by kernel_rfl) .nil))) rfl ?_;exact ⟨p,sn,_,_,_,_,_,own,_,_,rfl,OK.out,HSZ.out,HCL.out,VC.out,VB.out,HIV.out,HN.out,HTL.out,HS.out,HD.out,HQ.out.1,by have:=HQ.out.2;omega⟩
section
variable {B:Nat} {own:Nat->Nat} {s:Sys} {vc vt vl:Value} {W:World}
theorem Sy.setInt {b cap n:Nat} (h:Sy B own s vc (.slice (some ⟨b,0,none⟩) n cap) vl W) {i:Nat} (hi:i < s.tasks.length) (j:Nat) (hj:j < 13) (u:Int) (x':Task)
  (hx:∀ v3 v8 v9 v10,(cellsT (tk s i) v3 v8 v9 v10).take j ++ [.int .i64 u] ++ (cellsT (tk s i) v3 v8 v9 v10).drop (j+1)=cellsT x' v3 v8 v9 v10)
  (hs:x'.regs=(tk s i).regs/\x'.old=(tk s i).old/\x'.reads=(tk s i).reads/\x'.puts=(tk s i).puts):
  Sy B own (setTask s i x') vc (.slice (some ⟨b,0,none⟩) n cap) vl (W.setCell ⟨b,i*13+j,none⟩ (.int .i64 u))/\own b=3/\B<=b/\(∃ u,W.cell? ⟨b,i*13+j,none⟩=some u)/\W.frozen? ⟨b,i*13+j,none⟩=false:=by
 have hb3:own b=3:=h.town b rfl;have hb0:B<=b:=Nat.le_of_not_lt fun hlt=>by rw [h.low b hlt] at hb3;cases hb3
 have hn:=(Kd.R_reads' h.tasks).1;rw [zip_len] at hn;obtain ⟨c,_,hM,hc,hf⟩:=Kd.R_elem h.tasks (zTask,0) (i:Int) (by omega) (by omega);rw [Int.toNat_natCast] at hM hc hf;rw [zip_get hi] at hM;obtain ⟨u3,u8,u9,u10,rfl,h3,h8,h9,h10⟩:=kTaskO_open hM
 have hM2:(kTaskO own).M W B (fun k=>(own k=3\/8<=own k)/\k ≠ b) (x',i) ((cellsT (tk s i) u3 u8 u9 u10).take j ++ [.int .i64 u] ++ (cellsT (tk s i) u3 u8 u9 u10).drop (j+ [Value.int .i64 u].length)):=by
  rw [List.length_singleton,hx];exact kTaskO_mk x' i (by rw [hs.1];exact h3) (by rw [hs.2.1];exact h8) (by rw [hs.2.2.1];exact h9) (by rw [hs.2.2.2];exact h10)
 obtain ⟨hR,hG⟩:=Kd.R_seg (d:=kTaskO own) h.tasks (i:Int) (by omega) (by omega) (c:=cellsT (tk s i) u3 u8 u9 u10) (seg:= [.int .i64 u]) (j:=j) (x':=(x',i)) rfl (by rw [Int.toNat_natCast];exact hc) (by show j+1<=13;omega) hM2 (fun k hk=>hk);rw [Int.toNat_natCast,<-zip_set] at hR;rw [Int.toNat_natCast] at hG;have hfar:∀ k,own k ≠ 3->k < W.heap.size->(W.setCell ⟨b,i*13+j,none⟩ (.int .i64 u)).heap[k]? = W.heap[k]? :=fun k hk hl=>hG.block k hl (fun he=>hk (by injection he with he;rw [he];exact hb3))
 have h13:(cellsT (tk s i) u3 u8 u9 u10).length=13:=rfl;refine ⟨⟨h.low,fun k hk=>h.new0 k (Nat.le_trans hG.size hk),Kd.R_step h.cells (fun k hk hl=>hfar k (by omega) hl),hR,h.town,Kd.R_step h.log (fun k hk hl=>hfar k (by omega) hl)⟩,hb3,hb0,⟨_,hc j _ (List.getElem?_eq_getElem (by omega))⟩,hf j⟩
theorem Sy.tform (h:Sy B own s vc vt vl W) (hp:0 < s.tasks.length):∃ b cap,vt= .slice (some ⟨b,0,none⟩) s.tasks.length cap:=by
 obtain ⟨b,cap,e,-⟩:=Kd.R_form h.tasks (by rw [zip_len];exact hp);rw [zip_len] at e;exact ⟨b,cap,e⟩
theorem Sy.cform (h:Sy B own s vc vt vl W) (hp:0 < s.cells.length):∃ b cap,vc= .slice (some ⟨b,0,none⟩) s.cells.length cap:=by
 obtain ⟨b,cap,e,-⟩:=Kd.R_form h.cells hp;exact ⟨b,cap,e⟩
theorem Sy.setLock {b cap n:Nat} (h:Sy B own s (.slice (some ⟨b,0,none⟩) n cap) vt vl W) {i:Nat} (hi:i < s.cells.length) (u:Int):
  Sy B own (setCell s i {cellAt s.cells i with lock:=u}) (.slice (some ⟨b,0,none⟩) n cap) vt vl (W.setCell ⟨b,i*3+2,none⟩ (.int .i64 u))/\own b=2/\B<=b/\(∃ u,W.cell? ⟨b,i*3+2,none⟩=some u)/\W.frozen? ⟨b,i*3+2,none⟩=false:=by
 have hb3:own b=2:=h.cells.1 b rfl;have hb0:B<=b:=Nat.le_of_not_lt fun hlt=>by rw [h.low b hlt] at hb3;cases hb3
 have hn:=(Kd.R_reads' h.cells).1;obtain ⟨c,_,hM,hc,hf⟩:=Kd.R_elem h.cells zCell (i:Int) (by omega) (by omega);rw [Int.toNat_natCast] at hM hc hf;obtain rfl:=kCell_openM hM;obtain ⟨hR,hG⟩:=Kd.R_seg (d:=kCell) (okp:=fun _=>False) h.cells (i:Int) (by omega) (by omega) (seg:= [.int .i64 u]) (j:=2) rfl (by rw [Int.toNat_natCast];exact hc) (Nat.le_refl 3) (x':={cellAt s.cells i with lock:=u}) (kCell_mkM {cellAt s.cells i with lock:=u}) (fun k hk=>hk.elim);rw [Int.toNat_natCast] at hR hG;have hfar:∀ k,own k ≠ 2->k < W.heap.size->(W.setCell ⟨b,i*3+2,none⟩ (.int .i64 u)).heap[k]? = W.heap[k]? :=fun k hk hl=>hG.block k hl (fun he=>hk (by injection he with he;rw [he];exact hb3))
 exact ⟨⟨h.low,fun k hk=>h.new0 k (Nat.le_trans hG.size hk),hR,Kd.R_step h.tasks (fun k hk hl=>hfar k (by omega) hl),h.town,Kd.R_step h.log (fun k hk hl=>hfar k (by omega) hl)⟩,hb3,hb0,⟨_,hc 2 _ rfl⟩,hf 2⟩
end
theorem setCell_twice (W:World) (b o:Nat) (u v:Value):(W.setCell ⟨b,o,none⟩ u).setCell ⟨b,o,none⟩ v=W.setCell ⟨b,o,none⟩ v:=by
 unfold World.setCell
 congr 1
 apply Array.ext_getElem?;intro k;simp only [Array.getElem?_modify];by_cases hk:b=k
 ·subst hk
  simp only [if_true]
  cases W.heap[b]? with
  | none=>rfl
  | some x=>
   cases x <;> simp [Array.setIfInBounds_setIfInBounds]
 ·simp [hk]
section
variable {B:Nat} {own:Nat->Nat} {s:Sys} {vc vt vl:Value} {W W1:World}
theorem Sy.seg {b cap n:Nat} (h:Sy B own s vc (.slice (some ⟨b,0,none⟩) n cap) vl W) {i:Nat} (hi:i < s.tasks.length) {c seg:List Value} {j:Nat} {x':Task} (hcl:c.length=13)
  (hcc:∀ j u,c[j]? = some u->W.cell? ⟨b,i*13+j,none⟩=some u) (hj:j+seg.length<=13) (hM:(kTaskO own).M W B (fun k=>8<=own k) (x',i) (c.take j ++ seg ++ c.drop (j+seg.length))):
  Sy B own (setTask s i x') vc (.slice (some ⟨b,0,none⟩) n cap) vl (W.setCells b (i*13+j) seg):=by
 have hb3:own b=3:=h.town b rfl;have hn:=(Kd.R_reads' h.tasks).1;rw [zip_len] at hn;obtain ⟨hR,hG⟩:=Kd.R_seg (okp:=fun k=>8<=own k) h.tasks (i:Int) (by omega) (by omega) hcl (by rw [Int.toNat_natCast];exact hcc) hj hM (fun k hk=>⟨.inr hk,fun he=>by rw [he] at hk;omega⟩);rw [Int.toNat_natCast] at hR hG;have hsz:(W.setCells b (i*13+j) seg).heap.size=W.heap.size:=(setCells_same b seg _ W).2.2.2;have hfar:∀ k,own k ≠ 3->(W.setCells b (i*13+j) seg).heap[k]? = W.heap[k]? :=fun k hk=>setCells_far seg _ k (fun he=>hk (by rw [he];exact hb3))
 refine ⟨h.low,fun k hk=>h.new0 k (by omega),Kd.R_step h.cells (fun k hk _=>hfar k (by omega)), ?_,h.town,Kd.R_step h.log (fun k hk _=>hfar k (by omega))⟩;show (kTaskO own).R _ _ _ _ _ (s.tasks.set i x').zipIdx;rw [zip_set];exact hR
theorem Sy.task' {b cap n:Nat} (h:Sy B own s vc (.slice (some ⟨b,0,none⟩) n cap) vl W) {i:Nat} (hi:i < s.tasks.length):∃ v3 v8 v9 v10,
  (∀ j u,(cellsT (tk s i) v3 v8 v9 v10)[j]? = some u->W.cell? ⟨b,i*13+j,none⟩=some u)/\
  (∀ j,W.frozen? ⟨b,i*13+j,none⟩=false)/\(kTaskO own).M W B (fun k=>8<=own k) (tk s i,i) (cellsT (tk s i) v3 v8 v9 v10):=by
 have hn:=(Kd.R_reads' h.tasks).1;rw [zip_len] at hn;obtain ⟨c,_,hM,hc,hf⟩:=Kd.R_elem h.tasks (zTask,0) (i:Int) (by omega) (by omega);rw [Int.toNat_natCast] at hM hc hf;rw [zip_get hi] at hM;have hM':=kTaskO_ok hM;obtain ⟨v3,v8,v9,v10,rfl,h3,h8,h9,h10⟩:=kTaskO_open hM;exact ⟨v3,v8,v9,v10,hc,hf,hM'⟩
theorem Sy.setPuts {b cap n:Nat} (h:Sy B own s vc (.slice (some ⟨b,0,none⟩) n cap) vl W) {i:Nat} (hi:i < s.tasks.length) {v:Value} {xs:List Put} (hv:kPut.R 103 W B (fun k=>own k=11+8*i\/own k=0) v xs):
  Sy B (tagB own v.ownBlock (11+8*i)) (setTask s i {tk s i with puts:=xs}) vc (.slice (some ⟨b,0,none⟩) n cap) vl (W.setCell ⟨b,i*13+10,none⟩ v)/\∀ k,own k ≠ 0->tagB own v.ownBlock (11+8*i) k=own k:=by
 have hsame:∀ k,own k ≠ 0->tagB own v.ownBlock (11+8*i) k=own k:=fun k hk=>by
  by_cases he:v.ownBlock=some k
  ·rw [tagB_at he]
   rcases (R_in hv k he).1 with h3 | h3
   ·exact h3.symm
   ·exact absurd h3 hk
  ·exact tagB_off he
 have h1:=h.retag (own':=tagB own v.ownBlock (11+8*i))
  (fun k hk=>(tagB_off fun he=>by have:=(R_in hv k he).2.1;omega).trans (h.low k hk))
  (fun k hk=>(tagB_off fun he=>by have:=(R_in hv k he).2.2;omega).trans (h.new0 k hk)) hsame
 have hv1:=R_flat flat_put hv (ok':=fun k=>8<=tagB own v.ownBlock (11+8*i) k/\tagB own v.ownBlock (11+8*i) k=11+8*i) (fun k hk=>by rw [tagB_at hk];omega)
 obtain ⟨v3,v8,v9,v10,hc,_,hM⟩:=h1.task' hi;obtain ⟨u3,u8,u9,u10,he,h3,h8,h9,h10⟩:=kTaskO_open hM;simp only [cellsT,List.cons.injEq,true_and] at he;obtain ⟨rfl,rfl,rfl,rfl,-⟩:=he;exact ⟨h1.seg hi (c:=cellsT (tk s i) v3 v8 v9 v10) (seg:= [v]) (j:=10) (x':={tk s i with puts:=xs}) rfl hc (by simp) (kTaskO_mk {tk s i with puts:=xs} i h3 h8 h9 hv1),hsame⟩
theorem Sy.inner {b cap n:Nat} (h:Sy B own s vc (.slice (some ⟨b,0,none⟩) n cap) vl W) {i:Nat} (hi:i < s.tasks.length) {x':Task} (t:Nat) (ht:8+8*i<=t/\t < 16+8*i) (hm:∀ k,own k ≠ 0->own k ≠ t->W1.heap[k]? = W.heap[k]?)
  (hs:W.heap.size<=W1.heap.size)
  (hx:∀ cs,(∀ j u,cs[j]? = some u->W.cell? ⟨b,i*13+j,none⟩=some u)->(kTaskO own).M W B (fun k=>8<=own k) (tk s i,i) cs->(kTaskO own).M W1 B (fun k=>8<=own k) (x',i) cs):
  Sy B own (setTask s i x') vc (.slice (some ⟨b,0,none⟩) n cap) vl W1:=by
 have hb3:own b=3:=h.town b rfl;have hn:=(Kd.R_reads' h.tasks).1;rw [zip_len] at hn;refine ⟨h.low,fun k hk=>h.new0 k (by omega),Kd.R_step h.cells (fun k hk _=>hm k (by omega) (by omega)), ?_,h.town,Kd.R_step h.log (fun k hk _=>hm k (by omega) (by omega))⟩;show (kTaskO own).R _ _ _ _ _ (s.tasks.set i x').zipIdx;obtain ⟨h0,inner,ho,hr⟩:=h.tasks;rw [zip_set];refine ⟨h0,inner, ?_, ?_⟩
 ·rw [List.length_set]
  exact own_move ho (fun k hk=>hm k (by rw [h.town k hk];decide) (by rw [h.town k hk];omega))
 ·refine ⟨by rw [List.length_set];exact hr.1,fun j y hy=> ?_⟩
  rw [List.getElem?_set] at hy;split at hy
  ·rename_i hij
   subst hij;split at hy
   ·cases hy
    rename_i hlt;have hM:=hr.2 i _ (List.getElem?_eq_getElem hlt);have hz:s.tasks.zipIdx[i]=(tk s i,i):=zip_at (List.getElem?_eq_getElem hlt);rw [hz] at hM;refine (kTaskO own).M_mono (fun k hk=>⟨.inr hk,fun he=> ?_⟩) (hx _ (fun j u hu=> ?_) (kTaskO_ok hM))
    ·have:k=b:=by simpa [Value.ownBlock] using he
     rw [this,hb3] at hk;omega
    ·rw [List.getElem?_take] at hu
     split at hu
     ·rw [List.getElem?_drop] at hu
      have:=ho.cells (g:=b) (by simp [Value.ownBlock]) _ u hu
      rwa [add_plain] at this
     ·cases hu
   ·cases hy
  ·rename_i hij
   have hM:=hr.2 j y hy;obtain rfl:=zip_at hy;exact kTaskO_other hM ht (fun he=>hij he.symm) hm
theorem tk_setP {s:Sys} {i:Nat} (hi:i < s.tasks.length) (x:Task):tk (setTask s i x) i=x:=tk_set hi
theorem setTask_twice (s:Sys) (i:Nat) (x y:Task):setTask (setTask s i x) i y=setTask s i y:=by
 unfold setTask;simp
theorem Sy.putsGrown {b cap n:Nat} (h:Sy B own s vc (.slice (some ⟨b,0,none⟩) n cap) vl W) {i:Nat} (hi:i < s.tasks.length) {v10 v1:Value} {xs:List Put} (hc:W.cell? ⟨b,i*13+10,none⟩=some v10) (hg:W.grownBy W1 v10.ownBlock)
  (hr:kPut.R 103 W1 B (fun k=>own k=11+8*i\/own k=0) v1 xs) (hat:v1.ownBlock=v10.ownBlock\/∃ b,v1.ownBlock=some b/\W.heap.size<=b):
  ∃ own',Sy B own' (setTask s i {tk s i with puts:=xs}) vc (.slice (some ⟨b,0,none⟩) n cap) vl (W1.setCell ⟨b,i*13+10,none⟩ v1)/\(∀ k,k < W.heap.size->own' k=own k):=by
 have hb3:own b=3:=h.town b rfl;obtain ⟨v3,v8,v9,w10,hcc,_,hM⟩:=h.task' hi
 have he:w10=v10:=by
  have:=hcc 10 w10 rfl
  rw [hc] at this;injection this with this;exact this.symm
 subst he
 have h10:∀ k,w10.ownBlock=some k->own k=11+8*i:=fun k hk=>by
  obtain ⟨u3,u8,u9,u10,he,g3,g8,g9,g10⟩:=kTaskO_open hM;simp only [cellsT,List.cons.injEq,true_and] at he;obtain ⟨rfl,rfl,rfl,rfl,-⟩:=he;exact (g10.1 k hk).2
 have hA:=(h.setPuts hi (Kd.R_nil kPut 103 W B (fun k=>own k=11+8*i\/own k=0))).1
 have hnil:tagB own (Value.slice none 0 0).ownBlock (11+8*i)=own:=by
  funext k
  exact tagB_off (by simp [Value.ownBlock])
 rw [hnil] at hA;have hbl:∀ (W:World) (u:Value) (k:Nat),k ≠ b->(W.setCell ⟨b,i*13+10,none⟩ u).heap[k]? = W.heap[k]? :=fun W u k hk=>Below.heap_setCell W ⟨b,i*13+10,none⟩ u k (fun he=>hk he)
 have hlt:∀ k,own k ≠ 0->k < W.heap.size:=fun k hk=>Nat.lt_of_not_le fun hle=>hk (h.new0 k hle)
 have hmv:∀ k,own k ≠ 0->own k ≠ 11+8*i->W1.heap[k]? = W.heap[k]? :=fun k hk hk2=>hg.block k (hlt k hk) (fun he=>hk2 (h10 k he.symm))
 have hm:∀ k,own k ≠ 0->own k ≠ 11+8*i->(W1.setCell ⟨b,i*13+10,none⟩ (.slice none 0 0)).heap[k]? = (W.setCell ⟨b,i*13+10,none⟩ (.slice none 0 0)).heap[k]? :=fun k hk hk2=>by
  by_cases hkb:k=b
  ·subst hkb
   have:=hmv k hk hk2
   unfold World.setCell;simp only [Array.getElem?_modify,this]
  ·rw [hbl _ _ k hkb,hbl _ _ k hkb]
   exact hmv k hk hk2
 have hi2:i < (setTask s i {tk s i with puts:= []}).tasks.length:=by rw [set_len];exact hi
 have hB:=hA.inner (W1:=W1.setCell ⟨b,i*13+10,none⟩ (.slice none 0 0)) hi2 (x':={tk s i with puts:= []}) (11+8*i) ⟨by omega,by omega⟩ hm (by simpa [World.setCell] using hg.size) (fun cs hcs hM2=>by
  rw [tk_setP hi] at hM2;obtain ⟨u3,u8,u9,u10,rfl,g3,g8,g9,g10⟩:=kTaskO_open hM2;refine kTaskO_mk {tk s i with puts:= []} i (Kd.R_step g3 fun k hk _=>hm k (by have:=hk.2;omega) (by have:=hk.2;omega)) (Kd.R_step g8 fun k hk _=>hm k (by have:=hk.2;omega) (by have:=hk.2;omega)) (Kd.R_step g9 fun k hk _=>hm k (by have:=hk.2;omega) (by have:=hk.2;omega)) ?_
  have hu:u10= .slice none 0 0:=by
   have h1:=hcs 10 u10 rfl
   have h2:(W.setCell ⟨b,i*13+10,none⟩ (.slice none 0 0)).cell? ⟨b,i*13+10,none⟩=some (.slice none 0 0):=by
    unfold World.cell? at hc;unfold World.cell? World.setCell;simp only [Array.getElem?_modify,if_true]
    cases hw:W.heap[b]? with
    | none=>simp [hw] at hc
    | some x=>
     cases x <;> simp [hw] at hc ⊢;obtain ⟨hlt,_⟩:=Array.getElem?_eq_some_iff.1 hc;exact Array.getElem?_setIfInBounds_self_of_lt hlt
   rw [h2] at h1;injection h1 with h1;exact h1.symm
  rw [hu];exact Kd.R_nil _ _ _ _ _)
 rw [setTask_twice] at hB;have hr':kPut.R 103 (W1.setCell ⟨b,i*13+10,none⟩ (.slice none 0 0)) B (fun k=>own k=11+8*i\/own k=0) v1 xs:=Kd.R_step hr (fun k hk _=>hbl _ _ k (fun he=>by rw [he,hb3] at hk;omega));obtain ⟨hC,hD⟩:=hB.setPuts hi2 hr';rw [setTask_twice,tk_setP hi,setCell_twice] at hC;refine ⟨_,hC,fun k hk=> ?_⟩;by_cases he:v1.ownBlock=some k
 ·rw [tagB_at he]
  rcases hat with h1 | ⟨q,h1,h2⟩
  ·exact (h10 k (h1 ▸ he)).symm
  ·rw [h1] at he
   injection he with he;omega
 ·exact tagB_off he
theorem Sy.putsAt {b cap n:Nat} (h:Sy B own s vc (.slice (some ⟨b,0,none⟩) n cap) vl W) {i:Nat} (hi:i < s.tasks.length):∃ v10,W.cell? ⟨b,i*13+10,none⟩=some v10/\kPut.R 103 W B (fun k=>own k=11+8*i) v10 (tk s i).puts:=by
 obtain ⟨v3,v8,v9,w10,hcc,_,hM⟩:=h.task' hi;obtain ⟨u3,u8,u9,u10,he,g3,g8,g9,g10⟩:=kTaskO_open hM;simp only [cellsT,List.cons.injEq,true_and] at he;obtain ⟨rfl,rfl,rfl,rfl,-⟩:=he;exact ⟨w10,hcc 10 w10 rfl,Kd.R_mono g10 (fun k hk=>hk.2)⟩
theorem cell_size {W:World} {b o:Nat} {v:Value} (h:W.cell? ⟨b,o,none⟩=some v):b < W.heap.size:=by
 refine Nat.lt_of_not_le fun hle=> ?_
 unfold World.cell? at h;simp only [] at h;rw [Array.getElem?_eq_none hle] at h;cases h
theorem cell_of {W W1:World} {b o:Nat} {v:Value} (h:W.cell? ⟨b,o,none⟩=some v) (he:W1.heap[b]? = W.heap[b]?):W1.cell? ⟨b,o,none⟩=some v:=by
 rw [<-h];unfold World.cell?;simp only [he]
theorem cell_keep {W W1:World} {g b o:Nat} {v:Value} (h:W.cell? ⟨b,o,none⟩=some v) (hk:KeepBut W W1 g none) (hn:b ≠ g):W1.cell? ⟨b,o,none⟩=some v:=cell_of h (hk.2 b (cell_size h) hn (by simp))
theorem cell_grown {W W1:World} {b o:Nat} {v:Value} {row:Option Nat} (h:W.cell? ⟨b,o,none⟩=some v) (hg:W.grownBy W1 row) (hn:some b ≠ row):W1.cell? ⟨b,o,none⟩=some v:=cell_of h (hg.block b (cell_size h) hn)
theorem cell_alloc {W:World} {b o:Nat} {v:Value} (h:W.cell? ⟨b,o,none⟩=some v) (x:Obj):(W.alloc x).cell? ⟨b,o,none⟩=some v:=cell_of h ((below_alloc (Below.refl W.heap.size W) x).block b (cell_size h))
theorem setTask_szP {s:Sys} {k:Nat} {t:Task} (h:SysSz s) (hk:k < s.tasks.length) (h3:t.regs=(tk s k).regs) (h8:t.old=(tk s k).old) (h9:t.reads=(tk s k).reads) (h10:t.puts.length<=1048576):SysSz (setTask s k t) where
 cells:=h.cells
 tasks:=by rw [set_len];exact h.tasks
 log:=h.log
 logs:=h.logs
 task:=fun i hi=>by
  rw [set_len] at hi;show (tk (setTask s k t) i).regs.length<=_/\(tk (setTask s k t) i).old.length<=_/\(tk (setTask s k t) i).reads.length<=_/\(tk (setTask s k t) i).puts.length<=_;by_cases he:i=k
  ·subst he
   rw [tk_set hk,h3,h8,h9]
   have:=h.task i hk
   exact ⟨this.1,this.2.1,this.2.2.1,h10⟩
  ·rw [tk_other he]
   exact h.task i hi
theorem Sy.cellsCut {A:Option Addr} {c:Nat} (h:Sy B own s (.slice A s.cells.length c) vt vl W) (hp:1<=s.cells.length):
  kSys.K W {s with cells:=s.cells.drop 1} [.slice (if c=1 then A else A.map (·.add (1*3))) (s.cells.length - 1) (c - 1),vt,.int .i64 s.clock,vl]:=by
 obtain ⟨A0,c0,e0,l0,g0⟩:=Kd.R_reads h.cells;injection e0 with e1 e2 e3;subst e1 e3;obtain ⟨A1,c1,rfl,l1,g1⟩:=Kd.R_reads h.tasks;obtain ⟨A3,c3,rfl,l3,g3⟩:=Kd.R_reads h.log;rw [zip_len] at l1 g1 ⊢;have hC:=Kd.C_drop (m:=1) g0 hp l0;rw [List.length_drop] at hC;have hK:=kSys_mk {s with cells:=s.cells.drop 1} (A_cells:=if c=1 then A else A.map (·.add (1*3))) (c_cells:=c - 1) (by simp;omega) (by simpa [show kCell.sz=3 from rfl] using hC) l1 (taskO_C g1) l3 g3;simpa using hK
end
def Sta (B:Nat) (own:Nat->Nat) (W:World) (s:Sys) (ss:List Value):Prop:=∀ W2:World,W.heap.size<=W2.heap.size->(∀ k,B<=k->own k ≠ 0->k < W.heap.size->W2.heap[k]? = W.heap[k]?)->kSys.K W2 s ss
theorem Sta.move {B:Nat} {own:Nat->Nat} {W W1:World} {s:Sys} {ss:List Value} (h:Sta B own W s ss) (hs:W.heap.size<=W1.heap.size) (hm:∀ k,own k ≠ 0->k < W.heap.size->W1.heap[k]? = W.heap[k]?):Sta B own W1 s ss:=
 fun W2 h2 hm2=>h W2 (Nat.le_trans hs h2) (fun k hB ho hl=>(hm2 k hB ho (Nat.lt_of_lt_of_le hl hs)).trans (hm k ho hl))
theorem Sta.grow {B:Nat} {own:Nat->Nat} {W W1:World} {s:Sys} {ss:List Value} (h:Sta B own W s ss) (hb:Below W.heap.size W W1):Sta B own W1 s ss:=h.move hb.size (fun k _ hl=>hb.block k hl)
theorem Sy.above {B:Nat} {own:Nat->Nat} {W:World} {s:Sys} {vc vt vl:Value} (h:Sy B own s vc vt vl W) {k:Nat} (hk:own k ≠ 0):B<=k:=Nat.le_of_not_lt fun hlt=>hk (h.low k hlt)
theorem Sy.sta {B:Nat} {own:Nat->Nat} {W:World} {s:Sys} {vc vt vl:Value} (h:Sy B own s vc vt vl W):Sta B own W s [vc,vt,.int .i64 s.clock,vl]:=fun W2 hs hm=>(h.move hs (fun k ho hl=>hm k (h.above ho) ho hl)).read
structure Held (B N g:Nat) (s:Sys) (ss:List Value) (W:World):Prop where
 size:N<=W.heap.size
 read:∀ W2:World,N<=W2.heap.size->(∀ k,B<=k->k < N->k ≠ g->W2.heap[k]? = W.heap[k]?)->kSys.K W2 s ss
section
variable {B N g:Nat} {s:Sys} {ss:List Value} {W W1:World}
theorem Held.now (h:Held B N g s ss W):kSys.K W s ss:=h.read W h.size (fun _ _ _ _=>rfl)
theorem Held.move (h:Held B N g s ss W) (hs:W.heap.size<=W1.heap.size) (hm:∀ k,B<=k->k < N->k ≠ g->W1.heap[k]? = W.heap[k]?):Held B N g s ss W1:=
 ⟨Nat.le_trans h.size hs,fun W2 h2 hm2=>h.read W2 h2 (fun k hB hl hg=>(hm2 k hB hl hg).trans (hm k hB hl hg))⟩
theorem Held.keep (h:Held B N g s ss W) (hk:KeepBut W W1 g none):Held B N g s ss W1:=h.move hk.1 (fun k _ hl hg=>hk.2 k (Nat.lt_of_lt_of_le hl h.size) hg (by simp))
theorem Held.grow (h:Held B N g s ss W) (hb:Below W.heap.size W W1):Held B N g s ss W1:=h.move hb.size (fun k _ hl _=>hb.block k (Nat.lt_of_lt_of_le hl h.size))
theorem Held.grown (h:Held B N g s ss W) {row:Option Nat} (hg:W.grownBy W1 row) (hr:∀ k,row=some k->k < B\/N<=k):Held B N g s ss W1:=
 h.move hg.size (fun k hB hl _=>hg.block k (Nat.lt_of_lt_of_le hl h.size) (fun he=>by have:=hr k he.symm;omega))
end
theorem setTask_sz {s:Sys} {k:Nat} {t:Task} (h:SysSz s) (hk:k < s.tasks.length) (h3:t.regs=(tk s k).regs) (h8:t.old=(tk s k).old) (h9:t.reads=(tk s k).reads) (h10:t.puts=(tk s k).puts):SysSz (setTask s k t) where
 cells:=h.cells
 tasks:=by rw [set_len];exact h.tasks
 log:=h.log
 logs:=h.logs
 task:=fun i hi=>by
  rw [set_len] at hi;show (tk (setTask s k t) i).regs.length<=_/\(tk (setTask s k t) i).old.length<=_/\(tk (setTask s k t) i).reads.length<=_/\(tk (setTask s k t) i).puts.length<=_;by_cases he:i=k
  ·subst he
   rw [tk_set hk,h3,h8,h9,h10];exact h.task i hk
  ·rw [tk_other he]
   exact h.task i hi
def OffPost (w0 w:World) (g:Nat) (b:List Int) (q0:Int) (e:Ending) (w':World):Prop:=∃ (p:Prog) (s:Sys) (vc vb:Value) (ss:List Value) (q:Int),e= .returned (.tuple #[.agg #[vc,vb],.agg ss.toArray])/\progOk p=true/\ProgSz p/\(Kd.int .i64).R 3 w' w.heap.size (fun _=>True) vc p.cells/\(Kd.slice 108 kAct).R 104 w' w.heap.size (fun _=>True) vb p.bodies/\Held w.heap.size w'.heap.size g s ss w'/\SysSz s/\s.log.length+s.tasks.length<=1000/\1<=s.tasks.length/\Rds w0 w g b q w'/\q0<=q/\q<=q0+8000
theorem l71Off_calls (w0 w:World) (g:Nat) (b:List Int) (q0:Int) (hI:Rd.IsS101 w0 w g b q0) (hB:Below w0.heap.size w0 w) (hc:Rd.Code b) (h0:0<=q0) (h1:q0<=500000):
  Calls Try.prog 48 #[.pointer (some ⟨g,0,none⟩)] w fun e w'=>OffPost w0 w g b q0 e w':=by
 have HD:=am (Rds.start hI hB h0);have HC:=am hc;have HQ0:=am h1;have HQ:=am (show q0<=q0/\q0<=q0 from ⟨Int.le_refl _,Int.le_refl _⟩);clear hI hB hc h0 h1;go_enter Try.func48,Try.ntmps48
 go_wp2_with (first
 |((with_reducible refine gate_dst (N:=2) rfl ?_);refine box_event rfl (N:=2) rfl (t:=48) (by go_simp<;>rfl) ?_;intro gz hg0 wn hbox hb;have BZ_0:=am hbox;have LBZ:=am (show w.heap.size<=gz from Nat.le_trans HD.out.size (Nat.le_of_eq hg0.symm));clear hbox hg0;replace HD:=am (HD.out.grow hb);clear hb;have BZ:=BZ_0;clear BZ_0;have BZc:=zc8 BZ.out)
 |((with_reducible refine gate_dst (N:=3) rfl ?_);refine box_event rfl (N:=3) rfl (t:=27) (by go_simp<;>rfl) ?_;intro gy hg0 wn hbox hb;have BY_0:=am hbox;have LBY:=am (show w.heap.size<=gy from Nat.le_trans HD.out.size (Nat.le_of_eq hg0.symm));have NBZBY:=am (show gz ≠ gy from fun he=>by have:=blk_lt BZ.out;omega);clear hbox hg0;replace BZ:=am (zb8 BZ.out hb);replace HD:=am (HD.out.grow hb);clear BZc;have BZc:=zc8 BZ.out;clear hb;have BY:=BY_0;clear BY_0;have BYc:=zc8 BY.out)
 |(go_at_call 84;refine (l71Sys_calls w0 _ g b q0 HD.out.rd HD.out.below HC.out HD.out.pos HQ0.out).mono ?_;rintro e wn ⟨p,sn,vc,vb,sc,st,sl,own,q2,NN,rfl,hok,hsz,hcl,hvc,hvb,hinv,hN,htl,hsy,hd,hq2,hq3⟩;have LW:=HD.out.size;have hk:=hd.keep;replace HQ:=am (show q0<=q2/\q2<=q0+7000 from ⟨hq2,hq3⟩);have OG:=am (hsy.low g (Nat.lt_of_lt_of_le HD.out.lt LW));have OZ:=am (hsy.low gz (blk_lt BZ.out));have OY:=am (hsy.low gy (blk_lt BY.out));replace hd:=HD.out.next hd.rd hd.below hk hd.pos;clear hq2 hq3;replace BZ:=am (HD.out.blkK hk BZ.out (by decide));replace BY:=am (HD.out.blkK hk BY.out (by decide));replace HD:=am (hd);clear BZc BYc;have BZc:=zc8 BZ.out;have BYc:=zc8 BY.out;clear hk hd;obtain ⟨A,cA,ev⟩:=Kd.R_slice hvc;subst ev;obtain ⟨B,cB,ev⟩:=Kd.R_slice hvb;subst ev;obtain ⟨Uc,uc,e1⟩:=Kd.R_slice hsy.cells;obtain ⟨Ut,ut,e2⟩:=Kd.R_slice hsy.tasks;obtain ⟨Ul,ul,e3⟩:=Kd.R_slice hsy.log;rw [zip_len] at e2;subst e1 e2 e3;obtain ⟨lk,hlk⟩:∃ z:Nat,z=p.cells.length:=⟨_,rfl⟩;obtain ⟨lb,hlb⟩:∃ z:Nat,z=p.bodies.length:=⟨_,rfl⟩;rw [<-hlk] at hvc;rw [<-hlb] at hvb;rw [<-hlk,<-hlb];have VC:=am (Kd.R_lower hvc LW);have VB:=am (Kd.R_lower hvb LW);have OK:=am hok;have HSZ:=am hsz;have HCL:=am (show 1<=sn.cells.length by rw [hinv.cells];exact hcl);have HIV:=am hinv;have HN:=am hN;have HTL:=am htl;have HS:=am (hsy.lower LW);clear hvc hvb LW hlk hlb hok hsz hcl hinv hN htl hsy)
 |((with_reducible refine gate_dst (N:=4) rfl ?_);refine box_event rfl (N:=4) rfl (t:=48) (by go_simp<;>rfl) ?_;intro gp hg0 wn hbox hb;have BP_0:=am hbox;have LBP:=am (show w.heap.size<=gp from Nat.le_trans HD.out.size (Nat.le_of_eq hg0.symm));have NBZBP:=am (show gz ≠ gp from fun he=>by have:=blk_lt BZ.out;omega);have OP:=am (HS.out.new0 gp (Nat.le_of_eq hg0.symm));replace HS:=am (HS.out.grow hb);clear hbox hg0;replace VC:=am (Kd.R_below VC.out hb);replace VB:=am (Kd.R_below VB.out hb);replace BZ:=am (zb8 BZ.out hb);replace BY:=am (zb8 BY.out hb);replace HD:=am (HD.out.grow hb);clear BZc BYc;have BZc:=zc8 BZ.out;have BYc:=zc8 BY.out;clear hb;have BP:=BP_0;clear BP_0;have BPc:=zc8 BP.out)
 |((with_reducible refine gate_dst (N:=5) rfl ?_);refine box_event rfl (N:=5) rfl (t:=27) (by go_simp<;>rfl) ?_;intro gs hg0 wn hbox hb;have BS_0:=am hbox;have LBS:=am (show w.heap.size<=gs from Nat.le_trans HD.out.size (Nat.le_of_eq hg0.symm));have NBYBS:=am (show gy ≠ gs from fun he=>by have:=blk_lt BY.out;omega);have OS:=am (HS.out.new0 gs (Nat.le_of_eq hg0.symm));replace HS:=am (HS.out.grow hb);clear hbox hg0;replace VC:=am (Kd.R_below VC.out hb);replace VB:=am (Kd.R_below VB.out hb);replace BZ:=am (zb8 BZ.out hb);replace BY:=am (zb8 BY.out hb);replace BP:=am (zb8 BP.out hb);replace HD:=am (HD.out.grow hb);clear BZc BYc BPc;have BZc:=zc8 BZ.out;have BYc:=zc8 BY.out;have BPc:=zc8 BP.out;clear hb;have BS:=BS_0;clear BS_0;have BSc:=zc8 BS.out)
 |((with_reducible refine gate_store (t:=48) (p:=4) rfl ?_);refine store_block rfl rfl 48 (.tmp 4) (.tmp 10) rfl rfl rfl BP.out rfl (by kernel_rfl) (aB rfl) ?_;intro wn hbox hg;have BP_0:=am hbox;replace VC:=am (R_grownT VC.out BP.out (by decide) hg);replace VB:=am (R_grownT VB.out BP.out (by decide) hg);replace BZ:=am (blk_grown BZ.out hg (fun he=>NBZBP.out (by injection he)));replace BY:=am (blk_grown BY.out hg (fun he=>blk_ne BY.out BP.out (by decide) (by injection he)));replace BS:=am (blk_grown BS.out hg (fun he=>blk_ne BS.out BP.out (by decide) (by injection he)));replace HS:=am (HS.out.move hg.size (fun q hq hl=>hg.block q hl (fun he=>hq (by injection he with he;rw [he];exact OP.out))));replace HD:=am (HD.out.grown hg (fun k hk=>by cases hk;exact LBP.out));clear BP BZc BYc BPc BSc;have BP:=BP_0;clear BP_0 hbox hg;have BZc:=zc8 BZ.out;have BYc:=zc8 BY.out;have BPc:=zc8 BP.out;have BSc:=zc8 BS.out)
 |((with_reducible refine gate_store (t:=27) (p:=5) rfl ?_);refine store_block rfl rfl 27 (.tmp 5) (.tmp 11) rfl rfl rfl BS.out rfl (by kernel_rfl) (aB rfl) ?_;intro wn hbox hg;have BS_0:=am hbox;replace VC:=am (R_grownT VC.out BS.out (by decide) hg);replace VB:=am (R_grownT VB.out BS.out (by decide) hg);replace BZ:=am (blk_grown BZ.out hg (fun he=>blk_ne BZ.out BS.out (by decide) (by injection he)));replace BY:=am (blk_grown BY.out hg (fun he=>NBYBS.out (by injection he)));replace BP:=am (blk_grown BP.out hg (fun he=>blk_ne BP.out BS.out (by decide) (by injection he)));replace HS:=am (HS.out.move hg.size (fun q hq hl=>hg.block q hl (fun he=>hq (by injection he with he;rw [he];exact OS.out))));replace HD:=am (HD.out.grown hg (fun k hk=>by cases hk;exact LBS.out));clear BS BZc BYc BPc BSc;have BS:=BS_0;clear BS_0 hbox hg;have BZc:=zc8 BZ.out;have BYc:=zc8 BY.out;have BPc:=zc8 BP.out;have BSc:=zc8 BS.out))
 refine (pick_rds HD.out HC.out (by have:=HQ.out;have:=HQ0.out;(try have:=HNX.out);(try have:=HNB.out);omega) 14).mono ?_;rintro e wn ⟨x,q2,rfl,hx,hq2,hd,hk⟩;replace HS:=am (HS.out.move hk.1 (fun q9 ho hl=>hk.2 q9 hl (fun he=>ho (by rw [he];exact OG.out)) (by simp)));replace HQ:=am (show q0<=q2/\q2<=q0+7001 from by have:=HQ.out;(try have:=HNX.out);(try have:=HNB.out);omega);clear hq2;replace VC:=am (HD.out.rowK hk VC.out (by decide));replace VB:=am (HD.out.rowK hk VB.out (by decide));replace BZ:=am (HD.out.blkK hk BZ.out (by decide));replace BY:=am (HD.out.blkK hk BY.out (by decide));replace BP:=am (HD.out.blkK hk BP.out (by decide));replace BS:=am (HD.out.blkK hk BS.out (by decide));replace HD:=am (hd);clear BZc BYc BPc BSc;have BZc:=zc8 BZ.out;have BYc:=zc8 BY.out;have BPc:=zc8 BP.out;have BSc:=zc8 BS.out;clear hk hd;by_cases hx0:x=0
 ·have q4:¬ (0:Int) < (x:Int):=by omega
  have q6:(0 < x)=False:=eq_false (by omega);clear hx hx0
  go_wp2_with (first
  |(go_at_call 49;fail))
  refine (pick_rds HD.out HC.out (by have:=HQ.out;have:=HQ0.out;(try have:=HNX.out);(try have:=HNB.out);omega) (sn.tasks.length:Int)).mono ?_;rintro e wn ⟨k,q2,rfl,hk,hq2,hd,hk⟩;replace HS:=am (HS.out.move hk.1 (fun q9 ho hl=>hk.2 q9 hl (fun he=>ho (by rw [he];exact OG.out)) (by simp)));replace HQ:=am (show q0<=q2/\q2<=q0+7002 from by have:=HQ.out;(try have:=HNX.out);(try have:=HNB.out);omega);clear hq2;replace VC:=am (HD.out.rowK hk VC.out (by decide));replace VB:=am (HD.out.rowK hk VB.out (by decide));replace BZ:=am (HD.out.blkK hk BZ.out (by decide));replace BY:=am (HD.out.blkK hk BY.out (by decide));replace BP:=am (HD.out.blkK hk BP.out (by decide));replace BS:=am (HD.out.blkK hk BS.out (by decide));replace HD:=am (hd);clear BZc BYc BPc BSc;have BZc:=zc8 BZ.out;have BYc:=zc8 BY.out;have BPc:=zc8 BP.out;have BSc:=zc8 BS.out;clear hk hd;have hkl:k < sn.tasks.length:=by have:=HTL.out;omega
  clear hk
  go_wp2_with (first
  |(go_at_call 49;fail))
  refine (pick_rds HD.out HC.out (by have:=HQ.out;have:=HQ0.out;(try have:=HNX.out);(try have:=HNB.out);omega) 8).mono ?_;rintro e wn ⟨y,q2,rfl,hy,hq2,hd,hk⟩;replace HS:=am (HS.out.move hk.1 (fun q9 ho hl=>hk.2 q9 hl (fun he=>ho (by rw [he];exact OG.out)) (by simp)));replace HQ:=am (show q0<=q2/\q2<=q0+7003 from by have:=HQ.out;(try have:=HNX.out);(try have:=HNB.out);omega);clear hq2;replace VC:=am (HD.out.rowK hk VC.out (by decide));replace VB:=am (HD.out.rowK hk VB.out (by decide));replace BZ:=am (HD.out.blkK hk BZ.out (by decide));replace BY:=am (HD.out.blkK hk BY.out (by decide));replace BP:=am (HD.out.blkK hk BP.out (by decide));replace BS:=am (HD.out.blkK hk BS.out (by decide));replace HD:=am (hd);clear BZc BYc BPc BSc;have BZc:=zc8 BZ.out;have BYc:=zc8 BY.out;have BPc:=zc8 BP.out;have BSc:=zc8 BS.out;clear hk hd;have hy8:y=0\/y=1\/y=2\/y=3\/y=4\/y=5\/y=6\/y=7:=by omega
  clear hy;rename_i K3 h3 K2 h2 K1 h1
  have TL:∀ {u0 u1 u6 u7 u8 u9 u10 u11 u12 u13 u14 u15 u16 u17 u18 u19 u20 u21 u22 u23 u24 u25 u26 u27 u28 u29 u30 u31 u32 u33 u34 u35 u36 u37 u38 u39 u40 u41 u42 u43 u44 u45 u46 u47 u48 u49 u50 u51 u52 u53 u54 u55 u56 u57 u58 u59 u60 u61 u62 u63 u64 u65 u66 u67 u68 u69 u70 u71 u72 u73 u74 u75 u76 u77 u78 u79 u80 u81 u82 u83 u84 u85 u86 u87 u88 u89 u90 u91 u92 u93 u94 u95 u96 u97 u98 u99 u100 u101 u102 u103 u104 u105 u106 u107:Value} {wz:World} {s2:Sys} {own2:Nat->Nat} {X0 X1 X3:Option Addr} {n0 n1 n3 k0 k1 k3:Nat} {zc qq:Int},Aside0 (wz.heap[gz]? = some (.cells #[.slice none 0 0,.slice none 0 0] 48 (0,0)))->Aside0 (wz.heap[gy]? = some (.cells #[.slice none 0 0,.slice none 0 0,.int .i64 0,.slice none 0 0] 27 (0,0)))->Aside0 (wz.heap[gp]? = some (.cells #[.slice A lk cA,.slice B lb cB] 48 (0,0)))->Aside0 (wz.heap[gs]? = some (.cells #[.slice X0 n0 k0,.slice X1 n1 k1,.int .i64 zc,.slice X3 n3 k3] 27 (0,0)))->Aside0 ((Kd.int .i64).R 3 wz w.heap.size (fun _=>True) (.slice A lk cA) p.cells)->Aside0 ((Kd.slice 108 kAct).R 104 wz w.heap.size (fun _=>True) (.slice B lb cB) p.bodies)->Aside0 (Sta w.heap.size own2 wz s2 [.slice X0 n0 k0,.slice X1 n1 k1,.int .i64 zc,.slice X3 n3 k3])->Aside0 (Rds w0 w g b qq wz)->Aside0 (q0<=qq/\qq<=q0+7004)->Aside0 (own2 g=0)->Aside0 (own2 gz=0)->Aside0 (own2 gy=0)->Aside0 (own2 gp=0)->Aside0 (own2 gs=0)->Aside0 (SysSz s2)->Aside0 (s2.log.length+s2.tasks.length<=1000)->Aside0 (1<=s2.tasks.length)->K3 {tmps:=#[u0,u1,.pointer (some ⟨gz,0,none⟩),.pointer (some ⟨gy,0,none⟩),.pointer (some ⟨gp,0,none⟩),.pointer (some ⟨gs,0,none⟩),u6,u7,u8,u9,u10,u11,u12,u13,u14,u15,u16,u17,u18,u19,u20,u21,u22,u23,u24,u25,u26,u27,u28,u29,u30,u31,u32,u33,u34,u35,u36,u37,u38,u39,u40,u41,u42,u43,u44,u45,u46,u47,u48,u49,u50,u51,u52,u53,u54,u55,u56,u57,u58,u59,u60,u61,u62,u63,u64,u65,u66,u67,u68,u69,u70,u71,u72,u73,u74,u75,u76,u77,u78,u79,u80,u81,u82,u83,u84,u85,u86,u87,u88,u89,u90,u91,u92,u93,u94,u95,u96,u97,u98,u99,u100,u101,u102,u103,u104,u105,u106,u107,undef,undef],defers:= []} wz:=by
   clear OG OZ OY OP OS HS VC VB BZ BY BP BS HD HQ BZc BYc BPc BSc;intro u0 u1 u6 u7 u8 u9 u10 u11 u12 u13 u14 u15 u16 u17 u18 u19 u20 u21 u22 u23 u24 u25 u26 u27 u28 u29 u30 u31 u32 u33 u34 u35 u36 u37 u38 u39 u40 u41 u42 u43 u44 u45 u46 u47 u48 u49 u50 u51 u52 u53 u54 u55 u56 u57 u58 u59 u60 u61 u62 u63 u64 u65 u66 u67 u68 u69 u70 u71 u72 u73 u74 u75 u76 u77 u78 u79 u80 u81 u82 u83 u84 u85 u86 u87 u88 u89 u90 u91 u92 u93 u94 u95 u96 u97 u98 u99 u100 u101 u102 u103 u104 u105 u106 u107 wz s2 own2 X0 X1 X3 n0 n1 n3 k0 k1 k3 zc qq BZ BY BP BS VC VB HS HD HQ OG OZ OY OP OS HZ2 HL2 HT2;have BZc:=zc8 BZ.out;have BYc:=zc8 BY.out;have BPc:=zc8 BP.out;have BSc:=zc8 BS.out;refine h3 _ _ ?_;go_wp2;refine st9 (n:=4) (S:=fun W=>W.heap[gp]? = some (.cells #[.slice A lk cA,.slice B lb cB] 48 (0,0))/\W.heap[gs]? = some (.cells #[.slice X0 n0 k0,.slice X1 n1 k1,.int .i64 zc,.slice X3 n3 k3] 27 (0,0))) (ds:= [3]) (by kernel_rfl) rfl ⟨blk_drew BP.out,blk_drew BS.out⟩ (fun hHeld=> ?_);have hb:=below_drew (Below.refl wz.heap.size wz);generalize wz.drew=w7 at hb hHeld ⊢;replace HS:=am (HS.out.grow hb);replace VC:=am (Kd.R_below VC.out hb);replace VB:=am (Kd.R_below VB.out hb);replace BZ:=am (zb8 BZ.out hb);replace BY:=am (zb8 BY.out hb);replace BP:=am (zb8 BP.out hb);replace BS:=am (zb8 BS.out hb);replace HD:=am (HD.out.grow hb);clear BZc BYc BPc BSc;have BZc:=zc8 BZ.out;have BYc:=zc8 BY.out;have BPc:=zc8 BP.out;have BSc:=zc8 BS.out;clear hb;refine ba9 (fuel:=3) (n:=1) [0] (by kernel_rfl) (fun N _ _ _ _ h=>by cases N <;> exact h) hHeld ?_
   iterate 1 (
    refine stillS_step (v:= ?_) (a':= ?_) rfl (Or.inl ⟨by rfl, ?_⟩) ?_ ?_;rotate_left
    ·rintro W ⟨s0,s1⟩
     have t0:=zc8 s0;have t1:=zc8 s1;clear s0 s1;go_simp;with_reducible rfl
    rotate_left
    ·simp only [Act.put,sA,sZ,sS,i64_w]
     rfl)
   refine stillS_nil ?_;refine tw9 (i:=1) (j:=2) (Ni:=some 109) (Nj:=none) rfl rfl rfl rfl (by kernel_rfl) (by decide) (by decide) (fun K hK=> ?_) (fun K hK=> ?_)
   ·have t1:=zc8 hHeld.2
    refine value_ (v:=.agg #[.slice X0 n0 k0,.slice X1 n1 k1,.int .i64 zc,.slice X3 n3 k3]) (w1:=_) (by rfl) rfl (by go_simp<;>rfl) ?_;clear t1;refine hK.out _ _ (hHeld) (fun hHeld=> ?_);clear hK K;refine norm_ (a':= ?_) ?_ ?_;rotate_left
    ·show Act.put _ (some 109) _=_
     simp only [Act.put,sA,sZ,sS,i64_w];rfl
    refine on9 (i:=2) (N:=none) rfl rfl (by kernel_rfl) (by decide) (fun K hK=> ?_);obtain ⟨hbox,hg⟩:=setCells_blk (cs:= [.slice A lk cA,.slice B lb cB]) BZ.out rfl;rw [if_pos (by rfl)];refine store_wp rfl 48 (.tmp 2) (.tmp 108) rfl rfl rfl BZ.out rfl (by kernel_rfl) (aB rfl) ?_;generalize World.setCells _ gz 0 [.slice A lk cA,.slice B lb cB]=wy at hbox hg ⊢;refine hK.out _ _ ⟨blk_grown hHeld.1 hg (fun he=>Ne.symm NBZBP.out (by injection he)),blk_grown hHeld.2 hg (fun he=>blk_ne hHeld.2 BZ.out (by decide) (by injection he))⟩ (fun hHeld=> ?_);clear hK K;have BZ_0:=am hbox;replace VC:=am (R_grownT VC.out BZ.out (by decide) hg);replace VB:=am (R_grownT VB.out BZ.out (by decide) hg);replace BY:=am (blk_grown BY.out hg (fun he=>blk_ne BY.out BZ.out (by decide) (by injection he)));replace BP:=am (blk_grown BP.out hg (fun he=>Ne.symm NBZBP.out (by injection he)));replace BS:=am (blk_grown BS.out hg (fun he=>blk_ne BS.out BZ.out (by decide) (by injection he)));replace HS:=am (HS.out.move hg.size (fun q hq hl=>hg.block q hl (fun he=>hq (by injection he with he;rw [he];exact OZ.out))));replace HD:=am (HD.out.grown hg (fun k hk=>by cases hk;exact LBZ.out));clear BZ BZc BYc BPc BSc;have BZ:=BZ_0;clear BZ_0 hbox hg;have BZc:=zc8 BZ.out;have BYc:=zc8 BY.out;have BPc:=zc8 BP.out;have BSc:=zc8 BS.out;clear hHeld;refine tail_ (fuel:=1) 3 (by kernel_rfl) ?_;simp only [List.drop_succ_cons,List.drop_zero]
    go_wp2_with (first
    |((with_reducible refine gate_store (t:=27) (p:=3) rfl ?_);refine store_block rfl rfl 27 (.tmp 3) (.tmp 109) rfl rfl rfl BY.out rfl (by kernel_rfl) (aB rfl) ?_;intro wn hbox hg;have BY_0:=am hbox;replace VC:=am (R_grownT VC.out BY.out (by decide) hg);replace VB:=am (R_grownT VB.out BY.out (by decide) hg);replace BZ:=am (blk_grown BZ.out hg (fun he=>blk_ne BZ.out BY.out (by decide) (by injection he)));replace BP:=am (blk_grown BP.out hg (fun he=>blk_ne BP.out BY.out (by decide) (by injection he)));replace BS:=am (blk_grown BS.out hg (fun he=>Ne.symm NBYBS.out (by injection he)));replace HS:=am (HS.out.move hg.size (fun q hq hl=>hg.block q hl (fun he=>hq (by injection he with he;rw [he];exact OY.out))));replace HD:=am (HD.out.grown hg (fun k hk=>by cases hk;exact LBY.out));clear BY BZc BYc BPc BSc;have BY:=BY_0;clear BY_0 hbox hg;have BZc:=zc8 BZ.out;have BYc:=zc8 BY.out;have BPc:=zc8 BP.out;have BSc:=zc8 BS.out))
    refine bodyPost_ret (results_list (rs:= [.cell 2 48,.cell 3 27]) rfl (by simp) (.cell gz 48 #[.slice A lk cA,.slice B lb cB] (0,0) _ rfl BZ.out Try.underlying48 rfl (by kernel_rfl) (.cell gy 27 #[.slice X0 n0 k0,.slice X1 n1 k1,.int .i64 zc,.slice X3 n3 k3] (0,0) _ rfl BY.out Try.underlying27 rfl (by kernel_rfl) .nil))) rfl ?_;exact ⟨p,s2,_,_,_,_,rfl,OK.out,HSZ.out,VC.out,VB.out,⟨Nat.le_refl _,fun W2 hs2 hm2=>HS.out W2 hs2 (fun q9 hB ho hl=>hm2 q9 hB hl (fun he=>ho (by rw [he];exact OG.out)))⟩,HZ2.out,HL2.out,HT2.out,HD.out,HQ.out.1,by have:=HQ.out.2;omega⟩
   ·obtain ⟨hbox,hg⟩:=setCells_blk (cs:= [.slice A lk cA,.slice B lb cB]) BZ.out rfl
    rw [if_pos (by rfl)];refine store_wp rfl 48 (.tmp 2) (.tmp 108) rfl rfl rfl BZ.out rfl (by kernel_rfl) (aB rfl) ?_;generalize World.setCells _ gz 0 [.slice A lk cA,.slice B lb cB]=wy at hbox hg ⊢;refine hK.out _ _ ⟨blk_grown hHeld.1 hg (fun he=>Ne.symm NBZBP.out (by injection he)),blk_grown hHeld.2 hg (fun he=>blk_ne hHeld.2 BZ.out (by decide) (by injection he))⟩ (fun hHeld=> ?_);clear hK K;have BZ_0:=am hbox;replace VC:=am (R_grownT VC.out BZ.out (by decide) hg);replace VB:=am (R_grownT VB.out BZ.out (by decide) hg);replace BY:=am (blk_grown BY.out hg (fun he=>blk_ne BY.out BZ.out (by decide) (by injection he)));replace BP:=am (blk_grown BP.out hg (fun he=>Ne.symm NBZBP.out (by injection he)));replace BS:=am (blk_grown BS.out hg (fun he=>blk_ne BS.out BZ.out (by decide) (by injection he)));replace HS:=am (HS.out.move hg.size (fun q hq hl=>hg.block q hl (fun he=>hq (by injection he with he;rw [he];exact OZ.out))));replace HD:=am (HD.out.grown hg (fun k hk=>by cases hk;exact LBZ.out));clear BZ BZc BYc BPc BSc;have BZ:=BZ_0;clear BZ_0 hbox hg;have BZc:=zc8 BZ.out;have BYc:=zc8 BY.out;have BPc:=zc8 BP.out;have BSc:=zc8 BS.out;refine on9 (i:=1) (N:=some 109) rfl rfl (by kernel_rfl) (by decide) (fun K hK=> ?_);have t1:=zc8 hHeld.2;refine value_ (v:=.agg #[.slice X0 n0 k0,.slice X1 n1 k1,.int .i64 zc,.slice X3 n3 k3]) (w1:=_) (by rfl) rfl (by go_simp<;>rfl) ?_;clear t1;refine hK.out _ _ (hHeld) (fun hHeld=> ?_);clear hK K;refine norm_ (a':= ?_) ?_ ?_;rotate_left
    ·show Act.put _ (some 109) _=_
     simp only [Act.put,sA,sZ,sS,i64_w];rfl
    clear hHeld;refine tail_ (fuel:=1) 3 (by kernel_rfl) ?_;simp only [List.drop_succ_cons,List.drop_zero]
    go_wp2_with (first
    |((with_reducible refine gate_store (t:=27) (p:=3) rfl ?_);refine store_block rfl rfl 27 (.tmp 3) (.tmp 109) rfl rfl rfl BY.out rfl (by kernel_rfl) (aB rfl) ?_;intro wn hbox hg;have BY_0:=am hbox;replace VC:=am (R_grownT VC.out BY.out (by decide) hg);replace VB:=am (R_grownT VB.out BY.out (by decide) hg);replace BZ:=am (blk_grown BZ.out hg (fun he=>blk_ne BZ.out BY.out (by decide) (by injection he)));replace BP:=am (blk_grown BP.out hg (fun he=>blk_ne BP.out BY.out (by decide) (by injection he)));replace BS:=am (blk_grown BS.out hg (fun he=>Ne.symm NBYBS.out (by injection he)));replace HS:=am (HS.out.move hg.size (fun q hq hl=>hg.block q hl (fun he=>hq (by injection he with he;rw [he];exact OY.out))));replace HD:=am (HD.out.grown hg (fun k hk=>by cases hk;exact LBY.out));clear BY BZc BYc BPc BSc;have BY:=BY_0;clear BY_0 hbox hg;have BZc:=zc8 BZ.out;have BYc:=zc8 BY.out;have BPc:=zc8 BP.out;have BSc:=zc8 BS.out))
    refine bodyPost_ret (results_list (rs:= [.cell 2 48,.cell 3 27]) rfl (by simp) (.cell gz 48 #[.slice A lk cA,.slice B lb cB] (0,0) _ rfl BZ.out Try.underlying48 rfl (by kernel_rfl) (.cell gy 27 #[.slice X0 n0 k0,.slice X1 n1 k1,.int .i64 zc,.slice X3 n3 k3] (0,0) _ rfl BY.out Try.underlying27 rfl (by kernel_rfl) .nil))) rfl ?_;exact ⟨p,s2,_,_,_,_,rfl,OK.out,HSZ.out,VC.out,VB.out,⟨Nat.le_refl _,fun W2 hs2 hm2=>HS.out W2 hs2 (fun q9 hB ho hl=>hm2 q9 hB hl (fun he=>ho (by rw [he];exact OG.out)))⟩,HZ2.out,HL2.out,HT2.out,HD.out,HQ.out.1,by have:=HQ.out.2;omega⟩
  clear h3;rcases hy8 with rfl|rfl|rfl|rfl|rfl|rfl|rfl|rfl
  ·skip
   go_wp2_with (first
   |((with_reducible refine gate_dst (N:=30) rfl ?_);refine Kd.R_lit (Kd.int .i64) (w0:=_) w.heap.size 3 rfl (N:=30) rfl (xs:=([-1,201]:List Int)) (inner:= [.int .i64 (-1),.int .i64 201]) (ok:=(fun _=>True)) (okp:=(fun _=>True)) (by go_simp<;>rfl) (Reps.one rfl (Reps.one rfl (Reps.none _ _))) (fun _ _=>trivial) trivial (Below.refl _ _) HD.out.size (by simp) ?_;intro v1 wl hv1 hb1 hg hx9;clear hb1 hx9;obtain ⟨a9,c9,ev⟩:=Kd.R_slice hv1;subst ev;have V9_0:=am (show (Kd.int .i64).R 3 wl w.heap.size (fun _=>True) (.slice a9 2 c9) ([-1,201]:List Int) from hv1);clear hv1;have hb:=grown_below hg;replace HS:=am (HS.out.grow hb);replace VC:=am (Kd.R_below VC.out hb);replace VB:=am (Kd.R_below VB.out hb);replace BZ:=am (zb8 BZ.out hb);replace BY:=am (zb8 BY.out hb);replace BP:=am (zb8 BP.out hb);replace BS:=am (zb8 BS.out hb);replace HD:=am (HD.out.grow hb);clear BZc BYc BPc BSc;have BZc:=zc8 BZ.out;have BYc:=zc8 BY.out;have BPc:=zc8 BP.out;have BSc:=zc8 BS.out;clear hb hg;have V9:=V9_0;clear V9_0)
   |(go_at_call 49;refine (pick_rds HD.out HC.out (by have:=HQ.out;have:=HQ0.out;(try have:=HNX.out);(try have:=HNB.out);omega) 2).mono ?_;rintro e wn ⟨z,q2,rfl,hz,hq2,hd,hk⟩;replace HS:=am (HS.out.move hk.1 (fun q9 ho hl=>hk.2 q9 hl (fun he=>ho (by rw [he];exact OG.out)) (by simp)));replace HQ:=am (show q0<=q2/\q2<=q0+7004 from by have:=HQ.out;(try have:=HNX.out);(try have:=HNB.out);omega);clear hq2;replace VC:=am (HD.out.rowK hk VC.out (by decide));replace VB:=am (HD.out.rowK hk VB.out (by decide));replace V9:=am (HD.out.rowK hk V9.out (by decide));replace BZ:=am (HD.out.blkK hk BZ.out (by decide));replace BY:=am (HD.out.blkK hk BY.out (by decide));replace BP:=am (HD.out.blkK hk BP.out (by decide));replace BS:=am (HD.out.blkK hk BS.out (by decide));replace HD:=am (hd);clear BZc BYc BPc BSc;have BZc:=zc8 BZ.out;have BYc:=zc8 BY.out;have BPc:=zc8 BP.out;have BSc:=zc8 BS.out;clear hk hd;have hz2:(z:Int) < 2:=(by omega);have hz0:(0:Int)<=(z:Int):=(by omega);clear hz;obtain ⟨g5,k5,ev5,-⟩:=Kd.R_form V9.out (by decide);injection ev5 with ev5 ev6 ev7;subst ev5;obtain ⟨v,cy⟩:∃ v:Int,wn.cell? ⟨g5,z,none⟩=some (.int .i64 v):=⟨_,by have h:=Kd.R_celln 0 V9.out (z:Int) hz0 hz2;rw [Int.toNat_natCast] at h;exact h.1⟩;clear ev6 ev7)
   |((with_reducible refine gate_store (t:=3) (p:=35) rfl ?_);refine set_ev (u:=.int .i64 v) rfl rfl _ _ rfl (g:=gs) (off:=2) rfl rfl rfl rfl (by kernel_rfl) ⟨⟨_,by rw [zc8 BS.out];rfl⟩,blk_frozen BS.out _⟩ ?_;intro wz hwn;have BS_0:=am (show wz.heap[gs]? = some (.cells #[.slice Uc sn.cells.length uc,.slice Ut sn.tasks.length ut,.int .i64 v,.slice Ul sn.log.length ul] 27 (0,0)) by rw [hwn];exact blk_set BS.out 2 (.int .i64 v));replace BZ:=am (show wz.heap[gz]? = some (.cells #[.slice none 0 0,.slice none 0 0] 48 (0,0)) by rw [hwn];exact blk_far (p:=⟨gs,2,none⟩) BZ.out (blk_ne BZ.out BS.out (by decide)) (.int .i64 v));replace BY:=am (show wz.heap[gy]? = some (.cells #[.slice none 0 0,.slice none 0 0,.int .i64 0,.slice none 0 0] 27 (0,0)) by rw [hwn];exact blk_far (p:=⟨gs,2,none⟩) BY.out (NBYBS.out) (.int .i64 v));replace BP:=am (show wz.heap[gp]? = some (.cells #[.slice A lk cA,.slice B lb cB] 48 (0,0)) by rw [hwn];exact blk_far (p:=⟨gs,2,none⟩) BP.out (blk_ne BP.out BS.out (by decide)) (.int .i64 v));replace VC:=am (show (Kd.int .i64).R 3 wz w.heap.size (fun _=>True) (.slice A lk cA) p.cells by rw [hwn];exact R_set VC.out BS.out (by decide) 2 (.int .i64 v));replace VB:=am (show (Kd.slice 108 kAct).R 104 wz w.heap.size (fun _=>True) (.slice B lb cB) p.bodies by rw [hwn];exact R_set VB.out BS.out (by decide) 2 (.int .i64 v));replace HS:=am (show Sy _ _ _ _ _ _ wz by rw [hwn];exact HS.out.far OS.out 2 (.int .i64 v));replace HD:=am (show Rds w0 w g b _ wz by rw [hwn];exact HD.out.set LBS.out 2 (.int .i64 v));clear hwn BS BSc BZc BYc BPc;have BS:=BS_0;clear BS_0;have BZc:=zc8 BZ.out;have BYc:=zc8 BY.out;have BPc:=zc8 BP.out;have BSc:=zc8 BS.out))
   replace HS:=am (Sy.sta (s:={sn with clock:=v}) ⟨HS.out.low,HS.out.new0,HS.out.cells,HS.out.tasks,HS.out.town,HS.out.log⟩);have HZ9:=am (HIV.out.sysSz (by have:=HN.out;omega));exact TL BZ BY BP BS VC VB HS HD (am (by have:=HQ.out;omega)) OG OZ OY OP OS (am ⟨HZ9.out.cells,HZ9.out.tasks,HZ9.out.log,HZ9.out.task,HZ9.out.logs⟩) (am (by have:=HIV.out.room;have:=HIV.out.many;have:=HN.out;show sn.log.length+sn.tasks.length<=1000;omega)) (am HTL.out)
  ·obtain ⟨bt,ct,evt⟩:=HS.out.tform (by have:=HTL.out;omega)
   injection evt with evt1 evt2 evt3;subst evt1;clear evt2 evt3;have qk0:(0:Int)<=(k:Int):=by omega
   have qk1:(k:Int) < (sn.tasks.length:Int):=by omega
   go_wp2_with (first
   |(go_at_call 49;fail))
   refine st9 (n:=11) (S:=fun W=>W.heap[gs]? = some (.cells #[.slice Uc sn.cells.length uc,.slice (some ⟨bt,0,none⟩) sn.tasks.length ut,.int .i64 sn.clock,.slice Ul sn.log.length ul] 27 (0,0))) (ds:= [8,9,10]) (by kernel_rfl) rfl (by exact blk_drew BS.out) (fun hHeld=> ?_);have hb:=below_drew (Below.refl wn.heap.size wn);generalize wn.drew=w7 at hb hHeld ⊢;replace HS:=am (HS.out.grow hb);replace VC:=am (Kd.R_below VC.out hb);replace VB:=am (Kd.R_below VB.out hb);replace BZ:=am (zb8 BZ.out hb);replace BY:=am (zb8 BY.out hb);replace BP:=am (zb8 BP.out hb);replace BS:=am (zb8 BS.out hb);replace HD:=am (HD.out.grow hb);clear BZc BYc BPc BSc;have BZc:=zc8 BZ.out;have BYc:=zc8 BY.out;have BPc:=zc8 BP.out;have BSc:=zc8 BS.out;clear hb;refine ba9 (fuel:=7) (n:=4) [0,1,2,4] (by kernel_rfl) (fun N _ _ _ _ h=>by cases N <;> exact h) hHeld ?_
   iterate 4 (
    refine stillS_step (v:= ?_) (a':= ?_) rfl (Or.inl ⟨by rfl, ?_⟩) ?_ ?_;rotate_left
    ·intro W s0
     have t0:=zc8 s0;clear s0;go_simp;with_reducible rfl
    rotate_left
    ·simp only [Act.put,sA,sZ,sS,i64_w]
     rfl)
   refine stillS_nil ?_;refine tw9 (i:=3) (j:=5) (Ni:=some 41) (Nj:=some 43) rfl rfl rfl rfl (by kernel_rfl) (by decide) (by decide) (fun K hK=> ?_) (fun K hK=> ?_)
   ·refine Kd.R_lit_step (w0:=_) (Kd.int .i64) w.heap.size 3 (by rfl) (N:=41) rfl (xs:=([-1,5,2,3,4]:List Int)) (inner:= [.int .i64 (-1),.int .i64 5,.int .i64 2,.int .i64 3,.int .i64 4]) (ok:=(fun _=>True)) (okp:=(fun _=>True)) (by go_simp<;>rfl) (Reps.one rfl (Reps.one rfl (Reps.one rfl (Reps.one rfl (Reps.one rfl (Reps.none _ _)))))) (fun _ _=>trivial) trivial (Below.refl _ _) HD.out.size (by simp) ?_
    intro v1 wl hv1 hb1 hg hx9;clear hb1 hx9;obtain ⟨a9,c9,ev⟩:=Kd.R_slice hv1;subst ev;have V9_0:=am (show (Kd.int .i64).R 3 wl w.heap.size (fun _=>True) (.slice a9 5 c9) ([-1,5,2,3,4]:List Int) from hv1);refine hK.out _ _ (zb8 hHeld (grown_below hg)) (fun hHeld=> ?_);clear hK K;refine norm_ (a':= ?_) ?_ ?_;rotate_left
    ·show Act.put _ (some 41) _=_
     simp only [Act.put,sA,sZ,sS,i64_w];rfl
    clear hv1;have hb:=grown_below hg;replace HS:=am (HS.out.grow hb);replace VC:=am (Kd.R_below VC.out hb);replace VB:=am (Kd.R_below VB.out hb);replace BZ:=am (zb8 BZ.out hb);replace BY:=am (zb8 BY.out hb);replace BP:=am (zb8 BP.out hb);replace BS:=am (zb8 BS.out hb);replace HD:=am (HD.out.grow hb);clear BZc BYc BPc BSc;have BZc:=zc8 BZ.out;have BYc:=zc8 BY.out;have BPc:=zc8 BP.out;have BSc:=zc8 BS.out;clear hb hg;have V9:=V9_0;clear V9_0;refine on9 (i:=5) (N:=some 43) rfl rfl (by kernel_rfl) (by decide) (fun K hK=> ?_);refine goes_ Try.func49 (by kernel_rfl) rfl #[.pointer (some ⟨g,0,none⟩),.int .i64 5] (by rfl) rfl rfl (by (try simp only [List.map_toArray,List.map_cons,List.map_nil]);first | done | rfl) ?_;refine (pick_rds HD.out HC.out (by have:=HQ.out;have:=HQ0.out;omega) 5).mono ?_;rintro e wn ⟨z,q2,rfl,hz,hq2,hd,hk⟩;refine ⟨_,rfl, ?_⟩;refine hK.out _ _ (HD.out.blkK hk hHeld (by decide)) (fun hHeld=> ?_);clear hK K;refine norm_ (a':= ?_) ?_ ?_;rotate_left
    ·show Act.put _ (some 43) _=_
     simp only [Act.put,sA,sZ,sS,i64_w];rfl
    replace HS:=am (HS.out.move hk.1 (fun q9 ho hl=>hk.2 q9 hl (fun he=>ho (by rw [he];exact OG.out)) (by simp)));replace HQ:=am (show q0<=q2/\q2<=q0+7004 from by have:=HQ.out;(try have:=HNX.out);(try have:=HNB.out);omega);clear hq2;replace VC:=am (HD.out.rowK hk VC.out (by decide));replace VB:=am (HD.out.rowK hk VB.out (by decide));replace V9:=am (HD.out.rowK hk V9.out (by decide));replace BZ:=am (HD.out.blkK hk BZ.out (by decide));replace BY:=am (HD.out.blkK hk BY.out (by decide));replace BP:=am (HD.out.blkK hk BP.out (by decide));replace BS:=am (HD.out.blkK hk BS.out (by decide));replace HD:=am (hd);clear BZc BYc BPc BSc;have BZc:=zc8 BZ.out;have BYc:=zc8 BY.out;have BPc:=zc8 BP.out;have BSc:=zc8 BS.out;clear hk hd;have hz5:(z:Int) < 5:=by omega
    have hz0:(0:Int)<=(z:Int):=by omega
    clear hz;obtain ⟨g5,k5,ev5,-⟩:=Kd.R_form V9.out (by decide);injection ev5 with ev5 ev6 ev7;subst ev5;obtain ⟨v,cy⟩:∃ v:Int,wn.cell? ⟨g5,z,none⟩=some (.int .i64 v):=⟨_,by have h:=Kd.R_celln 0 V9.out (z:Int) hz0 hz5;rw [Int.toNat_natCast] at h;exact h.1⟩;clear ev6 ev7;refine on9 (i:=6) (N:=some 44) rfl rfl (by kernel_rfl) (by decide) (fun K hK=> ?_);refine value_ (v:=.pointer (some ⟨g5,z,none⟩)) (w1:=wn) (by rfl) rfl (by go_simp<;>rfl) ?_;refine hK.out _ _ (hHeld) (fun hHeld=> ?_);clear hK K;refine norm_ (a':= ?_) ?_ ?_;rotate_left
    ·show Act.put _ (some 44) _=_
     simp only [Act.put,sA,sZ,sS,i64_w];rfl
    refine on9 (i:=7) (N:=some 45) rfl rfl (by kernel_rfl) (by decide) (fun K hK=> ?_);refine value_ (v:=.int .i64 v) (w1:=wn) (by rfl) rfl (by go_simp<;>rfl) ?_;refine hK.out _ _ (hHeld) (fun hHeld=> ?_);clear hK K;refine norm_ (a':= ?_) ?_ ?_;rotate_left
    ·show Act.put _ (some 45) _=_
     simp only [Act.put,sA,sZ,sS,i64_w];rfl
    clear hHeld cy V9;refine tail_ (fuel:=3) 8 (by kernel_rfl) ?_;simp only [List.drop_succ_cons,List.drop_zero]
    go_wp2_with (first
    |((with_reducible refine gate_store (t:=3) (p:=47) rfl ?_);obtain ⟨hS,ob,lb9,hex,hfr⟩:=HS.out.setInt hkl 4 (by decide) (v) {tk sn k with way:=v} (fun _ _ _ _=>rfl) ⟨rfl,rfl,rfl,rfl⟩;obtain ⟨ctt,htt⟩:=Kd.R_typed HS.out.tasks bt rfl;refine set_ev (u:=.int .i64 (v)) rfl rfl _ _ rfl (g:=bt) (off:=k*13+4) rfl rfl rfl rfl (by kernel_rfl) ⟨hex,hfr⟩ ?_;intro wz hwn;replace HS:=am (show Sy _ _ _ _ _ _ wz by rw [hwn];exact hS);replace BZ:=am (show wz.heap[gz]? = some (.cells #[.slice none 0 0,.slice none 0 0] 48 (0,0)) by rw [hwn];exact blk_far (p:=⟨bt,k*13+4,none⟩) BZ.out (fun he=>(by rw [<-show gz=bt from he,OZ.out] at ob;cases ob)) (.int .i64 (v)));replace BY:=am (show wz.heap[gy]? = some (.cells #[.slice none 0 0,.slice none 0 0,.int .i64 0,.slice none 0 0] 27 (0,0)) by rw [hwn];exact blk_far (p:=⟨bt,k*13+4,none⟩) BY.out (fun he=>(by rw [<-show gy=bt from he,OY.out] at ob;cases ob)) (.int .i64 (v)));replace BP:=am (show wz.heap[gp]? = some (.cells #[.slice A lk cA,.slice B lb cB] 48 (0,0)) by rw [hwn];exact blk_far (p:=⟨bt,k*13+4,none⟩) BP.out (fun he=>(by rw [<-show gp=bt from he,OP.out] at ob;cases ob)) (.int .i64 (v)));replace BS:=am (show wz.heap[gs]? = some (.cells #[.slice Uc sn.cells.length uc,.slice (some ⟨bt,0,none⟩) sn.tasks.length ut,.int .i64 sn.clock,.slice Ul sn.log.length ul] 27 (0,0)) by rw [hwn];exact blk_far (p:=⟨bt,k*13+4,none⟩) BS.out (fun he=>(by rw [<-show gs=bt from he,OS.out] at ob;cases ob)) (.int .i64 (v)));replace VC:=am (show (Kd.int .i64).R 3 wz w.heap.size (fun _=>True) (.slice A lk cA) p.cells by rw [hwn];exact R_set VC.out htt (by decide) (k*13+4) (.int .i64 (v)));replace VB:=am (show (Kd.slice 108 kAct).R 104 wz w.heap.size (fun _=>True) (.slice B lb cB) p.bodies by rw [hwn];exact R_set VB.out htt (by decide) (k*13+4) (.int .i64 (v)));replace HD:=am (show Rds w0 w g b _ wz by rw [hwn];exact HD.out.set lb9 (k*13+4) (.int .i64 (v)));clear hwn BSc BZc BYc BPc hS ob lb9 hex hfr htt;have BZc:=zc8 BZ.out;have BYc:=zc8 BY.out;have BPc:=zc8 BP.out;have BSc:=zc8 BS.out))
    replace HS:=am HS.out.sta;have HZ9:=am (HIV.out.sysSz (by have:=HN.out;omega));exact TL BZ BY BP BS VC VB HS HD (am (by have:=HQ.out;omega)) OG OZ OY OP OS (am (setTask_sz HZ9.out hkl rfl rfl rfl rfl)) (am (by have:=HIV.out.room;have:=HIV.out.many;have:=HN.out;show sn.log.length+(sn.tasks.set _ _).length<=1000;rw [List.length_set];omega)) (am (by show 1<=(sn.tasks.set _ _).length;rw [List.length_set];exact HTL.out))
   ·refine goes_ Try.func49 (by kernel_rfl) rfl #[.pointer (some ⟨g,0,none⟩),.int .i64 5] (by rfl) rfl rfl (by (try simp only [List.map_toArray,List.map_cons,List.map_nil]);first | done | rfl) ?_
    refine (pick_rds HD.out HC.out (by have:=HQ.out;have:=HQ0.out;omega) 5).mono ?_;rintro e wn ⟨z,q2,rfl,hz,hq2,hd,hk⟩;refine ⟨_,rfl, ?_⟩;refine hK.out _ _ (HD.out.blkK hk hHeld (by decide)) (fun hHeld=> ?_);clear hK K;refine norm_ (a':= ?_) ?_ ?_;rotate_left
    ·show Act.put _ (some 43) _=_
     simp only [Act.put,sA,sZ,sS,i64_w];rfl
    replace HS:=am (HS.out.move hk.1 (fun q9 ho hl=>hk.2 q9 hl (fun he=>ho (by rw [he];exact OG.out)) (by simp)));replace HQ:=am (show q0<=q2/\q2<=q0+7004 from by have:=HQ.out;(try have:=HNX.out);(try have:=HNB.out);omega);clear hq2;replace VC:=am (HD.out.rowK hk VC.out (by decide));replace VB:=am (HD.out.rowK hk VB.out (by decide));replace BZ:=am (HD.out.blkK hk BZ.out (by decide));replace BY:=am (HD.out.blkK hk BY.out (by decide));replace BP:=am (HD.out.blkK hk BP.out (by decide));replace BS:=am (HD.out.blkK hk BS.out (by decide));replace HD:=am (hd);clear BZc BYc BPc BSc;have BZc:=zc8 BZ.out;have BYc:=zc8 BY.out;have BPc:=zc8 BP.out;have BSc:=zc8 BS.out;clear hk hd;refine on9 (i:=3) (N:=some 41) rfl rfl (by kernel_rfl) (by decide) (fun K hK=> ?_);refine Kd.R_lit_step (w0:=_) (Kd.int .i64) w.heap.size 3 (by rfl) (N:=41) rfl (xs:=([-1,5,2,3,4]:List Int)) (inner:= [.int .i64 (-1),.int .i64 5,.int .i64 2,.int .i64 3,.int .i64 4]) (ok:=(fun _=>True)) (okp:=(fun _=>True)) (by go_simp<;>rfl) (Reps.one rfl (Reps.one rfl (Reps.one rfl (Reps.one rfl (Reps.one rfl (Reps.none _ _)))))) (fun _ _=>trivial) trivial (Below.refl _ _) HD.out.size (by simp) ?_;intro v1 wl hv1 hb1 hg hx9;clear hb1 hx9;obtain ⟨a9,c9,ev⟩:=Kd.R_slice hv1;subst ev;have V9_0:=am (show (Kd.int .i64).R 3 wl w.heap.size (fun _=>True) (.slice a9 5 c9) ([-1,5,2,3,4]:List Int) from hv1);refine hK.out _ _ (zb8 hHeld (grown_below hg)) (fun hHeld=> ?_);clear hK K;refine norm_ (a':= ?_) ?_ ?_;rotate_left
    ·show Act.put _ (some 41) _=_
     simp only [Act.put,sA,sZ,sS,i64_w];rfl
    clear hv1;have hb:=grown_below hg;replace HS:=am (HS.out.grow hb);replace VC:=am (Kd.R_below VC.out hb);replace VB:=am (Kd.R_below VB.out hb);replace BZ:=am (zb8 BZ.out hb);replace BY:=am (zb8 BY.out hb);replace BP:=am (zb8 BP.out hb);replace BS:=am (zb8 BS.out hb);replace HD:=am (HD.out.grow hb);clear BZc BYc BPc BSc;have BZc:=zc8 BZ.out;have BYc:=zc8 BY.out;have BPc:=zc8 BP.out;have BSc:=zc8 BS.out;clear hb hg;have V9:=V9_0;clear V9_0;have hz5:(z:Int) < 5:=by omega
    have hz0:(0:Int)<=(z:Int):=by omega
    clear hz;obtain ⟨g5,k5,ev5,-⟩:=Kd.R_form V9.out (by decide);injection ev5 with ev5 ev6 ev7;subst ev5;obtain ⟨v,cy⟩:∃ v:Int,wl.cell? ⟨g5,z,none⟩=some (.int .i64 v):=⟨_,by have h:=Kd.R_celln 0 V9.out (z:Int) hz0 hz5;rw [Int.toNat_natCast] at h;exact h.1⟩;clear ev6 ev7;refine on9 (i:=6) (N:=some 44) rfl rfl (by kernel_rfl) (by decide) (fun K hK=> ?_);refine value_ (v:=.pointer (some ⟨g5,z,none⟩)) (w1:=wl) (by rfl) rfl (by go_simp<;>rfl) ?_;refine hK.out _ _ (hHeld) (fun hHeld=> ?_);clear hK K;refine norm_ (a':= ?_) ?_ ?_;rotate_left
    ·show Act.put _ (some 44) _=_
     simp only [Act.put,sA,sZ,sS,i64_w];rfl
    refine on9 (i:=7) (N:=some 45) rfl rfl (by kernel_rfl) (by decide) (fun K hK=> ?_);refine value_ (v:=.int .i64 v) (w1:=wl) (by rfl) rfl (by go_simp<;>rfl) ?_;refine hK.out _ _ (hHeld) (fun hHeld=> ?_);clear hK K;refine norm_ (a':= ?_) ?_ ?_;rotate_left
    ·show Act.put _ (some 45) _=_
     simp only [Act.put,sA,sZ,sS,i64_w];rfl
    clear hHeld cy V9;refine tail_ (fuel:=3) 8 (by kernel_rfl) ?_;simp only [List.drop_succ_cons,List.drop_zero]
    go_wp2_with (first
    |((with_reducible refine gate_store (t:=3) (p:=47) rfl ?_);obtain ⟨hS,ob,lb9,hex,hfr⟩:=HS.out.setInt hkl 4 (by decide) (v) {tk sn k with way:=v} (fun _ _ _ _=>rfl) ⟨rfl,rfl,rfl,rfl⟩;obtain ⟨ctt,htt⟩:=Kd.R_typed HS.out.tasks bt rfl;refine set_ev (u:=.int .i64 (v)) rfl rfl _ _ rfl (g:=bt) (off:=k*13+4) rfl rfl rfl rfl (by kernel_rfl) ⟨hex,hfr⟩ ?_;intro wz hwn;replace HS:=am (show Sy _ _ _ _ _ _ wz by rw [hwn];exact hS);replace BZ:=am (show wz.heap[gz]? = some (.cells #[.slice none 0 0,.slice none 0 0] 48 (0,0)) by rw [hwn];exact blk_far (p:=⟨bt,k*13+4,none⟩) BZ.out (fun he=>(by rw [<-show gz=bt from he,OZ.out] at ob;cases ob)) (.int .i64 (v)));replace BY:=am (show wz.heap[gy]? = some (.cells #[.slice none 0 0,.slice none 0 0,.int .i64 0,.slice none 0 0] 27 (0,0)) by rw [hwn];exact blk_far (p:=⟨bt,k*13+4,none⟩) BY.out (fun he=>(by rw [<-show gy=bt from he,OY.out] at ob;cases ob)) (.int .i64 (v)));replace BP:=am (show wz.heap[gp]? = some (.cells #[.slice A lk cA,.slice B lb cB] 48 (0,0)) by rw [hwn];exact blk_far (p:=⟨bt,k*13+4,none⟩) BP.out (fun he=>(by rw [<-show gp=bt from he,OP.out] at ob;cases ob)) (.int .i64 (v)));replace BS:=am (show wz.heap[gs]? = some (.cells #[.slice Uc sn.cells.length uc,.slice (some ⟨bt,0,none⟩) sn.tasks.length ut,.int .i64 sn.clock,.slice Ul sn.log.length ul] 27 (0,0)) by rw [hwn];exact blk_far (p:=⟨bt,k*13+4,none⟩) BS.out (fun he=>(by rw [<-show gs=bt from he,OS.out] at ob;cases ob)) (.int .i64 (v)));replace VC:=am (show (Kd.int .i64).R 3 wz w.heap.size (fun _=>True) (.slice A lk cA) p.cells by rw [hwn];exact R_set VC.out htt (by decide) (k*13+4) (.int .i64 (v)));replace VB:=am (show (Kd.slice 108 kAct).R 104 wz w.heap.size (fun _=>True) (.slice B lb cB) p.bodies by rw [hwn];exact R_set VB.out htt (by decide) (k*13+4) (.int .i64 (v)));replace HD:=am (show Rds w0 w g b _ wz by rw [hwn];exact HD.out.set lb9 (k*13+4) (.int .i64 (v)));clear hwn BSc BZc BYc BPc hS ob lb9 hex hfr htt;have BZc:=zc8 BZ.out;have BYc:=zc8 BY.out;have BPc:=zc8 BP.out;have BSc:=zc8 BS.out))
    replace HS:=am HS.out.sta;have HZ9:=am (HIV.out.sysSz (by have:=HN.out;omega));exact TL BZ BY BP BS VC VB HS HD (am (by have:=HQ.out;omega)) OG OZ OY OP OS (am (setTask_sz HZ9.out hkl rfl rfl rfl rfl)) (am (by have:=HIV.out.room;have:=HIV.out.many;have:=HN.out;show sn.log.length+(sn.tasks.set _ _).length<=1000;rw [List.length_set];omega)) (am (by show 1<=(sn.tasks.set _ _).length;rw [List.length_set];exact HTL.out))
  ·obtain ⟨bt,ct,evt⟩:=HS.out.tform (by have:=HTL.out;omega)
   injection evt with evt1 evt2 evt3;subst evt1;clear evt2 evt3;have qk0:(0:Int)<=(k:Int):=by omega
   have qk1:(k:Int) < (sn.tasks.length:Int):=by omega
   go_wp2_with (first
   |(go_at_call 49;fail))
   refine st9 (n:=8) (S:=fun W=>W.heap[gs]? = some (.cells #[.slice Uc sn.cells.length uc,.slice (some ⟨bt,0,none⟩) sn.tasks.length ut,.int .i64 sn.clock,.slice Ul sn.log.length ul] 27 (0,0))) (ds:= [5,6,7]) (by kernel_rfl) rfl (by exact blk_drew BS.out) (fun hHeld=> ?_);have hb:=below_drew (Below.refl wn.heap.size wn);generalize wn.drew=w7 at hb hHeld ⊢;replace HS:=am (HS.out.grow hb);replace VC:=am (Kd.R_below VC.out hb);replace VB:=am (Kd.R_below VB.out hb);replace BZ:=am (zb8 BZ.out hb);replace BY:=am (zb8 BY.out hb);replace BP:=am (zb8 BP.out hb);replace BS:=am (zb8 BS.out hb);replace HD:=am (HD.out.grow hb);clear BZc BYc BPc BSc;have BZc:=zc8 BZ.out;have BYc:=zc8 BY.out;have BPc:=zc8 BP.out;have BSc:=zc8 BS.out;clear hb;refine ba9 (fuel:=4) (n:=4) [0,1,2,3] (by kernel_rfl) (fun N _ _ _ _ h=>by cases N <;> exact h) hHeld ?_
   iterate 4 (
    refine stillS_step (v:= ?_) (a':= ?_) rfl (Or.inl ⟨by rfl, ?_⟩) ?_ ?_;rotate_left
    ·intro W s0
     have t0:=zc8 s0;clear s0;go_simp;with_reducible rfl
    rotate_left
    ·simp only [Act.put,sA,sZ,sS,i64_w]
     rfl)
   refine stillS_nil ?_;refine on9 (i:=4) (N:=some 54) rfl rfl (by kernel_rfl) (by decide) (fun K hK=> ?_);refine goes_ Try.func49 (by kernel_rfl) rfl #[.pointer (some ⟨g,0,none⟩),.int .i64 7] (by rfl) rfl rfl (by (try simp only [List.map_toArray,List.map_cons,List.map_nil]);first | done | rfl) ?_;refine (pick_rds HD.out HC.out (by have:=HQ.out;have:=HQ0.out;omega) 7).mono ?_;rintro e wn ⟨z,q2,rfl,hz,hq2,hd,hk⟩;refine ⟨_,rfl, ?_⟩;refine hK.out _ _ (HD.out.blkK hk hHeld (by decide)) (fun hHeld=> ?_);clear hK K;refine norm_ (a':= ?_) ?_ ?_;rotate_left
   ·show Act.put _ (some 54) _=_
    simp only [Act.put,sA,sZ,sS,i64_w];rfl
   replace HS:=am (HS.out.move hk.1 (fun q9 ho hl=>hk.2 q9 hl (fun he=>ho (by rw [he];exact OG.out)) (by simp)));have hz9:z<=6:=by omega
   clear hz;replace HQ:=am (show q0<=q2/\q2<=q0+7004 from by have:=HQ.out;(try have:=HNX.out);(try have:=HNB.out);omega);clear hq2;replace VC:=am (HD.out.rowK hk VC.out (by decide));replace VB:=am (HD.out.rowK hk VB.out (by decide));replace BZ:=am (HD.out.blkK hk BZ.out (by decide));replace BY:=am (HD.out.blkK hk BY.out (by decide));replace BP:=am (HD.out.blkK hk BP.out (by decide));replace BS:=am (HD.out.blkK hk BS.out (by decide));replace HD:=am (hd);clear BZc BYc BPc BSc;have BZc:=zc8 BZ.out;have BYc:=zc8 BY.out;have BPc:=zc8 BP.out;have BSc:=zc8 BS.out;clear hk hd;clear hHeld;refine tail_ (fuel:=3) 5 (by kernel_rfl) ?_;simp only [List.drop_succ_cons,List.drop_zero]
   go_wp2_with (first
   |((with_reducible refine gate_store (t:=3) (p:=56) rfl ?_);obtain ⟨hS,ob,lb9,hex,hfr⟩:=HS.out.setInt hkl 5 (by decide) ((z:Int)) {tk sn k with stage:=(z:Int)} (fun _ _ _ _=>rfl) ⟨rfl,rfl,rfl,rfl⟩;obtain ⟨ctt,htt⟩:=Kd.R_typed HS.out.tasks bt rfl;refine set_ev (u:=.int .i64 ((z:Int))) rfl rfl _ _ rfl (g:=bt) (off:=k*13+5) rfl rfl rfl rfl (by kernel_rfl) ⟨hex,hfr⟩ ?_;intro wz hwn;replace HS:=am (show Sy _ _ _ _ _ _ wz by rw [hwn];exact hS);replace BZ:=am (show wz.heap[gz]? = some (.cells #[.slice none 0 0,.slice none 0 0] 48 (0,0)) by rw [hwn];exact blk_far (p:=⟨bt,k*13+5,none⟩) BZ.out (fun he=>(by rw [<-show gz=bt from he,OZ.out] at ob;cases ob)) (.int .i64 ((z:Int))));replace BY:=am (show wz.heap[gy]? = some (.cells #[.slice none 0 0,.slice none 0 0,.int .i64 0,.slice none 0 0] 27 (0,0)) by rw [hwn];exact blk_far (p:=⟨bt,k*13+5,none⟩) BY.out (fun he=>(by rw [<-show gy=bt from he,OY.out] at ob;cases ob)) (.int .i64 ((z:Int))));replace BP:=am (show wz.heap[gp]? = some (.cells #[.slice A lk cA,.slice B lb cB] 48 (0,0)) by rw [hwn];exact blk_far (p:=⟨bt,k*13+5,none⟩) BP.out (fun he=>(by rw [<-show gp=bt from he,OP.out] at ob;cases ob)) (.int .i64 ((z:Int))));replace BS:=am (show wz.heap[gs]? = some (.cells #[.slice Uc sn.cells.length uc,.slice (some ⟨bt,0,none⟩) sn.tasks.length ut,.int .i64 sn.clock,.slice Ul sn.log.length ul] 27 (0,0)) by rw [hwn];exact blk_far (p:=⟨bt,k*13+5,none⟩) BS.out (fun he=>(by rw [<-show gs=bt from he,OS.out] at ob;cases ob)) (.int .i64 ((z:Int))));replace VC:=am (show (Kd.int .i64).R 3 wz w.heap.size (fun _=>True) (.slice A lk cA) p.cells by rw [hwn];exact R_set VC.out htt (by decide) (k*13+5) (.int .i64 ((z:Int))));replace VB:=am (show (Kd.slice 108 kAct).R 104 wz w.heap.size (fun _=>True) (.slice B lb cB) p.bodies by rw [hwn];exact R_set VB.out htt (by decide) (k*13+5) (.int .i64 ((z:Int))));replace HD:=am (show Rds w0 w g b _ wz by rw [hwn];exact HD.out.set lb9 (k*13+5) (.int .i64 ((z:Int))));clear hwn BSc BZc BYc BPc hS ob lb9 hex hfr htt;have BZc:=zc8 BZ.out;have BYc:=zc8 BY.out;have BPc:=zc8 BP.out;have BSc:=zc8 BS.out))
   replace HS:=am HS.out.sta;have HZ9:=am (HIV.out.sysSz (by have:=HN.out;omega));exact TL BZ BY BP BS VC VB HS HD (am (by have:=HQ.out;omega)) OG OZ OY OP OS (am (setTask_sz HZ9.out hkl rfl rfl rfl rfl)) (am (by have:=HIV.out.room;have:=HIV.out.many;have:=HN.out;show sn.log.length+(sn.tasks.set _ _).length<=1000;rw [List.length_set];omega)) (am (by show 1<=(sn.tasks.set _ _).length;rw [List.length_set];exact HTL.out))
  ·obtain ⟨bt,ct,evt⟩:=HS.out.tform (by have:=HTL.out;omega)
   injection evt with evt1 evt2 evt3;subst evt1;clear evt2 evt3;have qk0:(0:Int)<=(k:Int):=by omega
   have qk1:(k:Int) < (sn.tasks.length:Int):=by omega
   go_wp2_with (first
   |(go_at_call 49;fail))
   refine st9 (n:=9) (S:=fun W=>W.heap[gs]? = some (.cells #[.slice Uc sn.cells.length uc,.slice (some ⟨bt,0,none⟩) sn.tasks.length ut,.int .i64 sn.clock,.slice Ul sn.log.length ul] 27 (0,0))) (ds:= [6,7,8]) (by kernel_rfl) rfl (by exact blk_drew BS.out) (fun hHeld=> ?_);have hb:=below_drew (Below.refl wn.heap.size wn);generalize wn.drew=w7 at hb hHeld ⊢;replace HS:=am (HS.out.grow hb);replace VC:=am (Kd.R_below VC.out hb);replace VB:=am (Kd.R_below VB.out hb);replace BZ:=am (zb8 BZ.out hb);replace BY:=am (zb8 BY.out hb);replace BP:=am (zb8 BP.out hb);replace BS:=am (zb8 BS.out hb);replace HD:=am (HD.out.grow hb);clear BZc BYc BPc BSc;have BZc:=zc8 BZ.out;have BYc:=zc8 BY.out;have BPc:=zc8 BP.out;have BSc:=zc8 BS.out;clear hb;refine ba9 (fuel:=5) (n:=4) [0,1,2,3] (by kernel_rfl) (fun N _ _ _ _ h=>by cases N <;> exact h) hHeld ?_
   iterate 4 (
    refine stillS_step (v:= ?_) (a':= ?_) rfl (Or.inl ⟨by rfl, ?_⟩) ?_ ?_;rotate_left
    ·intro W s0
     have t0:=zc8 s0;clear s0;go_simp;with_reducible rfl
    rotate_left
    ·simp only [Act.put,sA,sZ,sS,i64_w]
     rfl)
   refine stillS_nil ?_;refine on9 (i:=4) (N:=some 63) rfl rfl (by kernel_rfl) (by decide) (fun K hK=> ?_);refine goes_ Try.func49 (by kernel_rfl) rfl #[.pointer (some ⟨g,0,none⟩),.int .i64 5] (by rfl) rfl rfl (by (try simp only [List.map_toArray,List.map_cons,List.map_nil]);first | done | rfl) ?_;refine (pick_rds HD.out HC.out (by have:=HQ.out;have:=HQ0.out;omega) 5).mono ?_;rintro e wn ⟨z,q2,rfl,hz,hq2,hd,hk⟩;refine ⟨_,rfl, ?_⟩;refine hK.out _ _ (HD.out.blkK hk hHeld (by decide)) (fun hHeld=> ?_);clear hK K;refine norm_ (a':= ?_) ?_ ?_;rotate_left
   ·show Act.put _ (some 63) _=_
    simp only [Act.put,sA,sZ,sS,i64_w];rfl
   replace HS:=am (HS.out.move hk.1 (fun q9 ho hl=>hk.2 q9 hl (fun he=>ho (by rw [he];exact OG.out)) (by simp)));have hz9:z<=6:=by omega
   clear hz;replace HQ:=am (show q0<=q2/\q2<=q0+7004 from by have:=HQ.out;(try have:=HNX.out);(try have:=HNB.out);omega);clear hq2;replace VC:=am (HD.out.rowK hk VC.out (by decide));replace VB:=am (HD.out.rowK hk VB.out (by decide));replace BZ:=am (HD.out.blkK hk BZ.out (by decide));replace BY:=am (HD.out.blkK hk BY.out (by decide));replace BP:=am (HD.out.blkK hk BP.out (by decide));replace BS:=am (HD.out.blkK hk BS.out (by decide));replace HD:=am (hd);clear BZc BYc BPc BSc;have BZc:=zc8 BZ.out;have BYc:=zc8 BY.out;have BPc:=zc8 BP.out;have BSc:=zc8 BS.out;clear hk hd;refine ba9 (fuel:=3) (n:=1) [5] (by kernel_rfl) (fun N _ _ _ _ h=>by cases N <;> exact h) hHeld ?_;refine stillS_step (v:= ?_) (a':= ?_) rfl (Or.inl ⟨by rfl, ?_⟩) ?_ ?_;rotate_left
   ·intro W s0
    go_simp
    with_reducible rfl
   rotate_left
   ·simp only [Act.put,sA,sZ,sS,i64_w]
    rfl
   refine stillS_nil ?_;clear hHeld;refine tail_ (fuel:=3) 6 (by kernel_rfl) ?_;simp only [List.drop_succ_cons,List.drop_zero]
   go_wp2_with (first
   |((with_reducible refine gate_store (t:=3) (p:=66) rfl ?_);obtain ⟨hS,ob,lb9,hex,hfr⟩:=HS.out.setInt hkl 2 (by decide) (wrap64 ((z:Int) - 1)) {tk sn k with up:=wrap64 ((z:Int) - 1)} (fun _ _ _ _=>rfl) ⟨rfl,rfl,rfl,rfl⟩;obtain ⟨ctt,htt⟩:=Kd.R_typed HS.out.tasks bt rfl;refine set_ev (u:=.int .i64 (wrap64 ((z:Int) - 1))) rfl rfl _ _ rfl (g:=bt) (off:=k*13+2) rfl rfl rfl rfl (by kernel_rfl) ⟨hex,hfr⟩ ?_;intro wz hwn;replace HS:=am (show Sy _ _ _ _ _ _ wz by rw [hwn];exact hS);replace BZ:=am (show wz.heap[gz]? = some (.cells #[.slice none 0 0,.slice none 0 0] 48 (0,0)) by rw [hwn];exact blk_far (p:=⟨bt,k*13+2,none⟩) BZ.out (fun he=>(by rw [<-show gz=bt from he,OZ.out] at ob;cases ob)) (.int .i64 (wrap64 ((z:Int) - 1))));replace BY:=am (show wz.heap[gy]? = some (.cells #[.slice none 0 0,.slice none 0 0,.int .i64 0,.slice none 0 0] 27 (0,0)) by rw [hwn];exact blk_far (p:=⟨bt,k*13+2,none⟩) BY.out (fun he=>(by rw [<-show gy=bt from he,OY.out] at ob;cases ob)) (.int .i64 (wrap64 ((z:Int) - 1))));replace BP:=am (show wz.heap[gp]? = some (.cells #[.slice A lk cA,.slice B lb cB] 48 (0,0)) by rw [hwn];exact blk_far (p:=⟨bt,k*13+2,none⟩) BP.out (fun he=>(by rw [<-show gp=bt from he,OP.out] at ob;cases ob)) (.int .i64 (wrap64 ((z:Int) - 1))));replace BS:=am (show wz.heap[gs]? = some (.cells #[.slice Uc sn.cells.length uc,.slice (some ⟨bt,0,none⟩) sn.tasks.length ut,.int .i64 sn.clock,.slice Ul sn.log.length ul] 27 (0,0)) by rw [hwn];exact blk_far (p:=⟨bt,k*13+2,none⟩) BS.out (fun he=>(by rw [<-show gs=bt from he,OS.out] at ob;cases ob)) (.int .i64 (wrap64 ((z:Int) - 1))));replace VC:=am (show (Kd.int .i64).R 3 wz w.heap.size (fun _=>True) (.slice A lk cA) p.cells by rw [hwn];exact R_set VC.out htt (by decide) (k*13+2) (.int .i64 (wrap64 ((z:Int) - 1))));replace VB:=am (show (Kd.slice 108 kAct).R 104 wz w.heap.size (fun _=>True) (.slice B lb cB) p.bodies by rw [hwn];exact R_set VB.out htt (by decide) (k*13+2) (.int .i64 (wrap64 ((z:Int) - 1))));replace HD:=am (show Rds w0 w g b _ wz by rw [hwn];exact HD.out.set lb9 (k*13+2) (.int .i64 (wrap64 ((z:Int) - 1))));clear hwn BSc BZc BYc BPc hS ob lb9 hex hfr htt;have BZc:=zc8 BZ.out;have BYc:=zc8 BY.out;have BPc:=zc8 BP.out;have BSc:=zc8 BS.out))
   replace HS:=am HS.out.sta;have HZ9:=am (HIV.out.sysSz (by have:=HN.out;omega));exact TL BZ BY BP BS VC VB HS HD (am (by have:=HQ.out;omega)) OG OZ OY OP OS (am (setTask_sz HZ9.out hkl rfl rfl rfl rfl)) (am (by have:=HIV.out.room;have:=HIV.out.many;have:=HN.out;show sn.log.length+(sn.tasks.set _ _).length<=1000;rw [List.length_set];omega)) (am (by show 1<=(sn.tasks.set _ _).length;rw [List.length_set];exact HTL.out))
  ·obtain ⟨bc,cc9,evc⟩:=HS.out.cform (by have:=HCL.out;omega)
   injection evc with evc1 evc2 evc3;subst evc1;clear evc2 evc3;have qcn:0 < sn.cells.length:=by have:=HCL.out;omega
   have qc:(0:Int) < (sn.cells.length:Int):=by omega
   go_wp2_with (first
   |(go_at_call 49;fail))
   refine st9 (n:=12) (S:=fun W=>W.heap[gs]? = some (.cells #[.slice (some ⟨bc,0,none⟩) sn.cells.length uc,.slice Ut sn.tasks.length ut,.int .i64 sn.clock,.slice Ul sn.log.length ul] 27 (0,0))) (ds:= [9,10,11]) (by kernel_rfl) rfl (by exact blk_drew BS.out) (fun hHeld=> ?_);have hb:=below_drew (Below.refl wn.heap.size wn);generalize wn.drew=w7 at hb hHeld ⊢;replace HS:=am (HS.out.grow hb);replace VC:=am (Kd.R_below VC.out hb);replace VB:=am (Kd.R_below VB.out hb);replace BZ:=am (zb8 BZ.out hb);replace BY:=am (zb8 BY.out hb);replace BP:=am (zb8 BP.out hb);replace BS:=am (zb8 BS.out hb);replace HD:=am (HD.out.grow hb);clear BZc BYc BPc BSc;have BZc:=zc8 BZ.out;have BYc:=zc8 BY.out;have BPc:=zc8 BP.out;have BSc:=zc8 BS.out;clear hb;refine ba9 (fuel:=5) (n:=7) [0,1,2,3,4,5,6] (by kernel_rfl) (fun N _ _ _ _ h=>by cases N <;> exact h) hHeld ?_
   iterate 7 (
    refine stillS_step (v:= ?_) (a':= ?_) rfl (Or.inl ⟨by rfl, ?_⟩) ?_ ?_;rotate_left
    ·intro W s0
     have t0:=zc8 s0;clear s0;go_simp;with_reducible rfl
    rotate_left
    ·simp only [Act.put,sA,sZ,sS,i64_w]
     rfl)
   refine stillS_nil ?_;refine on9 (i:=7) (N:=some 76) rfl rfl (by kernel_rfl) (by decide) (fun K hK=> ?_);refine goes_ Try.func49 (by kernel_rfl) rfl #[.pointer (some ⟨g,0,none⟩),.int .i64 (wrap64 ((sn.tasks.length:Int)+2))] (by rfl) rfl rfl (by (try simp only [List.map_toArray,List.map_cons,List.map_nil]);first | done | rfl) ?_;refine (pick_rds HD.out HC.out (by have:=HQ.out;have:=HQ0.out;omega) (wrap64 ((sn.tasks.length:Int)+2))).mono ?_;rintro e wn ⟨z,q2,rfl,hz,hq2,hd,hk⟩;refine ⟨_,rfl, ?_⟩;refine hK.out _ _ (HD.out.blkK hk hHeld (by decide)) (fun hHeld=> ?_);clear hK K;refine norm_ (a':= ?_) ?_ ?_;rotate_left
   ·show Act.put _ (some 76) _=_
    simp only [Act.put,sA,sZ,sS,i64_w];rfl
   replace HS:=am (HS.out.move hk.1 (fun q9 ho hl=>hk.2 q9 hl (fun he=>ho (by rw [he];exact OG.out)) (by simp)));clear hz;replace HQ:=am (show q0<=q2/\q2<=q0+7004 from by have:=HQ.out;(try have:=HNX.out);(try have:=HNB.out);omega);clear hq2;replace VC:=am (HD.out.rowK hk VC.out (by decide));replace VB:=am (HD.out.rowK hk VB.out (by decide));replace BZ:=am (HD.out.blkK hk BZ.out (by decide));replace BY:=am (HD.out.blkK hk BY.out (by decide));replace BP:=am (HD.out.blkK hk BP.out (by decide));replace BS:=am (HD.out.blkK hk BS.out (by decide));replace HD:=am (hd);clear BZc BYc BPc BSc;have BZc:=zc8 BZ.out;have BYc:=zc8 BY.out;have BPc:=zc8 BP.out;have BSc:=zc8 BS.out;clear hk hd;refine ba9 (fuel:=3) (n:=1) [8] (by kernel_rfl) (fun N _ _ _ _ h=>by cases N <;> exact h) hHeld ?_;refine stillS_step (v:= ?_) (a':= ?_) rfl (Or.inl ⟨by rfl, ?_⟩) ?_ ?_;rotate_left
   ·intro W s0
    go_simp
    with_reducible rfl
   rotate_left
   ·simp only [Act.put,sA,sZ,sS,i64_w]
    rfl
   refine stillS_nil ?_;clear hHeld;refine tail_ (fuel:=3) 9 (by kernel_rfl) ?_;simp only [List.drop_succ_cons,List.drop_zero]
   go_wp2_with (first
   |((with_reducible refine gate_store (t:=3) (p:=79) rfl ?_);obtain ⟨hS,ob,lb9,hex,hfr⟩:=HS.out.setLock (i:=0) qcn (wrap64 ((z:Int) - 1));obtain ⟨ctt,htt⟩:=Kd.R_typed HS.out.cells bc rfl;refine set_ev (u:=.int .i64 (wrap64 ((z:Int) - 1))) rfl rfl _ _ rfl (g:=bc) (off:=0*3+2) rfl rfl rfl rfl (by kernel_rfl) ⟨hex,hfr⟩ ?_;intro wz hwn;replace HS:=am (show Sy _ _ _ _ _ _ wz by rw [hwn];exact hS);replace BZ:=am (show wz.heap[gz]? = some (.cells #[.slice none 0 0,.slice none 0 0] 48 (0,0)) by rw [hwn];exact blk_far (p:=⟨bc,0*3+2,none⟩) BZ.out (fun he=>(by rw [<-show gz=bc from he,OZ.out] at ob;cases ob)) (.int .i64 (wrap64 ((z:Int) - 1))));replace BY:=am (show wz.heap[gy]? = some (.cells #[.slice none 0 0,.slice none 0 0,.int .i64 0,.slice none 0 0] 27 (0,0)) by rw [hwn];exact blk_far (p:=⟨bc,0*3+2,none⟩) BY.out (fun he=>(by rw [<-show gy=bc from he,OY.out] at ob;cases ob)) (.int .i64 (wrap64 ((z:Int) - 1))));replace BP:=am (show wz.heap[gp]? = some (.cells #[.slice A lk cA,.slice B lb cB] 48 (0,0)) by rw [hwn];exact blk_far (p:=⟨bc,0*3+2,none⟩) BP.out (fun he=>(by rw [<-show gp=bc from he,OP.out] at ob;cases ob)) (.int .i64 (wrap64 ((z:Int) - 1))));replace BS:=am (show wz.heap[gs]? = some (.cells #[.slice (some ⟨bc,0,none⟩) sn.cells.length uc,.slice Ut sn.tasks.length ut,.int .i64 sn.clock,.slice Ul sn.log.length ul] 27 (0,0)) by rw [hwn];exact blk_far (p:=⟨bc,0*3+2,none⟩) BS.out (fun he=>(by rw [<-show gs=bc from he,OS.out] at ob;cases ob)) (.int .i64 (wrap64 ((z:Int) - 1))));replace VC:=am (show (Kd.int .i64).R 3 wz w.heap.size (fun _=>True) (.slice A lk cA) p.cells by rw [hwn];exact R_set VC.out htt (by decide) (0*3+2) (.int .i64 (wrap64 ((z:Int) - 1))));replace VB:=am (show (Kd.slice 108 kAct).R 104 wz w.heap.size (fun _=>True) (.slice B lb cB) p.bodies by rw [hwn];exact R_set VB.out htt (by decide) (0*3+2) (.int .i64 (wrap64 ((z:Int) - 1))));replace HD:=am (show Rds w0 w g b _ wz by rw [hwn];exact HD.out.set lb9 (0*3+2) (.int .i64 (wrap64 ((z:Int) - 1))));clear hwn BSc BZc BYc BPc hS ob lb9 hex hfr htt;have BZc:=zc8 BZ.out;have BYc:=zc8 BY.out;have BPc:=zc8 BP.out;have BSc:=zc8 BS.out))
   replace HS:=am HS.out.sta;have HZ9:=am (HIV.out.sysSz (by have:=HN.out;omega));have hcl9:(setCell sn 0 {cellAt sn.cells 0 with lock:=wrap64 ((z:Int) - 1)}).cells.length=sn.cells.length:=by simp [setCell]
   exact TL BZ BY BP BS VC VB HS HD (am (by have:=HQ.out;omega)) OG OZ OY OP OS (am ⟨by rw [hcl9];exact HZ9.out.cells,HZ9.out.tasks,HZ9.out.log,HZ9.out.task,HZ9.out.logs⟩) (am (by have:=HIV.out.room;have:=HIV.out.many;have:=HN.out;show sn.log.length+sn.tasks.length<=1000;omega)) (am HTL.out)
  ·obtain ⟨bt,ct,evt⟩:=HS.out.tform (by have:=HTL.out;omega)
   injection evt with evt1 evt2 evt3;subst evt1;clear evt2 evt3;have qk0:(0:Int)<=(k:Int):=by omega
   have qk1:(k:Int) < (sn.tasks.length:Int):=by omega
   go_wp2_with (first
   |(go_at_call 49;fail)
   |((with_reducible refine gate_store (t:=3) (p:=89) rfl ?_);obtain ⟨hS,ob,lb9,hex,hfr⟩:=HS.out.setInt hkl 7 (by decide) (wrap64 (sn.clock+1)) {tk sn k with since:=wrap64 (sn.clock+1)} (fun _ _ _ _=>rfl) ⟨rfl,rfl,rfl,rfl⟩;obtain ⟨ctt,htt⟩:=Kd.R_typed HS.out.tasks bt rfl;refine set_ev (u:=.int .i64 (wrap64 (sn.clock+1))) rfl rfl _ _ rfl (g:=bt) (off:=k*13+7) rfl rfl rfl rfl (by kernel_rfl) ⟨hex,hfr⟩ ?_;intro wz hwn;replace HS:=am (show Sy _ _ _ _ _ _ wz by rw [hwn];exact hS);replace BZ:=am (show wz.heap[gz]? = some (.cells #[.slice none 0 0,.slice none 0 0] 48 (0,0)) by rw [hwn];exact blk_far (p:=⟨bt,k*13+7,none⟩) BZ.out (fun he=>(by rw [<-show gz=bt from he,OZ.out] at ob;cases ob)) (.int .i64 (wrap64 (sn.clock+1))));replace BY:=am (show wz.heap[gy]? = some (.cells #[.slice none 0 0,.slice none 0 0,.int .i64 0,.slice none 0 0] 27 (0,0)) by rw [hwn];exact blk_far (p:=⟨bt,k*13+7,none⟩) BY.out (fun he=>(by rw [<-show gy=bt from he,OY.out] at ob;cases ob)) (.int .i64 (wrap64 (sn.clock+1))));replace BP:=am (show wz.heap[gp]? = some (.cells #[.slice A lk cA,.slice B lb cB] 48 (0,0)) by rw [hwn];exact blk_far (p:=⟨bt,k*13+7,none⟩) BP.out (fun he=>(by rw [<-show gp=bt from he,OP.out] at ob;cases ob)) (.int .i64 (wrap64 (sn.clock+1))));replace BS:=am (show wz.heap[gs]? = some (.cells #[.slice Uc sn.cells.length uc,.slice (some ⟨bt,0,none⟩) sn.tasks.length ut,.int .i64 sn.clock,.slice Ul sn.log.length ul] 27 (0,0)) by rw [hwn];exact blk_far (p:=⟨bt,k*13+7,none⟩) BS.out (fun he=>(by rw [<-show gs=bt from he,OS.out] at ob;cases ob)) (.int .i64 (wrap64 (sn.clock+1))));replace VC:=am (show (Kd.int .i64).R 3 wz w.heap.size (fun _=>True) (.slice A lk cA) p.cells by rw [hwn];exact R_set VC.out htt (by decide) (k*13+7) (.int .i64 (wrap64 (sn.clock+1))));replace VB:=am (show (Kd.slice 108 kAct).R 104 wz w.heap.size (fun _=>True) (.slice B lb cB) p.bodies by rw [hwn];exact R_set VB.out htt (by decide) (k*13+7) (.int .i64 (wrap64 (sn.clock+1))));replace HD:=am (show Rds w0 w g b _ wz by rw [hwn];exact HD.out.set lb9 (k*13+7) (.int .i64 (wrap64 (sn.clock+1))));clear hwn BSc BZc BYc BPc hS ob lb9 hex hfr htt;have BZc:=zc8 BZ.out;have BYc:=zc8 BY.out;have BPc:=zc8 BP.out;have BSc:=zc8 BS.out))
   replace HS:=am HS.out.sta;have HZ9:=am (HIV.out.sysSz (by have:=HN.out;omega));exact TL BZ BY BP BS VC VB HS HD (am (by have:=HQ.out;omega)) OG OZ OY OP OS (am (setTask_sz HZ9.out hkl rfl rfl rfl rfl)) (am (by have:=HIV.out.room;have:=HIV.out.many;have:=HN.out;show sn.log.length+(sn.tasks.set _ _).length<=1000;rw [List.length_set];omega)) (am (by show 1<=(sn.tasks.set _ _).length;rw [List.length_set];exact HTL.out))
  ·obtain ⟨bt,ct,evt⟩:=HS.out.tform (by have:=HTL.out;omega)
   injection evt with evt1 evt2 evt3;subst evt1;clear evt2 evt3;have qk0:(0:Int)<=(k:Int):=by omega
   have qk1:(k:Int) < (sn.tasks.length:Int):=by omega
   obtain ⟨v10,c10,r10⟩:=HS.out.putsAt hkl;obtain ⟨Ap,cp,ev⟩:=Kd.R_slice r10;subst ev;have V10:=am r10;have C10:=am c10;have LP:=am (HIV.out.puts hkl);clear r10 c10
   go_wp2_with (first
   |(go_at_call 49;fail))
   refine st9 (n:=17) (S:=fun W=>W.heap[gs]? = some (.cells #[.slice Uc sn.cells.length uc,.slice (some ⟨bt,0,none⟩) sn.tasks.length ut,.int .i64 sn.clock,.slice Ul sn.log.length ul] 27 (0,0))/\W.cell? ⟨bt,k*13+10,none⟩=some (.slice Ap (tk sn k).puts.length cp)) (ds:= [14,15,16]) (by kernel_rfl) rfl ⟨blk_drew BS.out,C10.out⟩ (fun hHeld=> ?_);have hb:=below_drew (Below.refl wn.heap.size wn);generalize wn.drew=w7 at hb hHeld ⊢;clear C10;replace HS:=am (HS.out.grow hb);replace VC:=am (Kd.R_below VC.out hb);replace VB:=am (Kd.R_below VB.out hb);replace V10:=am (Kd.R_below V10.out hb);replace BZ:=am (zb8 BZ.out hb);replace BY:=am (zb8 BY.out hb);replace BP:=am (zb8 BP.out hb);replace BS:=am (zb8 BS.out hb);replace HD:=am (HD.out.grow hb);clear BZc BYc BPc BSc;have BZc:=zc8 BZ.out;have BYc:=zc8 BY.out;have BPc:=zc8 BP.out;have BSc:=zc8 BS.out;clear hb;refine ba9 (fuel:=7) (n:=10) [0,1,2,3,4,5,6,7,8,9] (by kernel_rfl) (fun N _ _ _ _ h=>by cases N <;> exact h) hHeld ?_
   iterate 10 (
    refine stillS_step (v:= ?_) (a':= ?_) rfl (Or.inl ⟨by rfl, ?_⟩) ?_ ?_;rotate_left
    ·rintro W ⟨s0,s1⟩
     have t0:=zc8 s0;clear s0;go_simp;with_reducible rfl
    rotate_left
    ·simp only [Act.put,sA,sZ,sS,i64_w]
     rfl)
   refine stillS_nil ?_;refine on9 (i:=10) (N:=some 102) rfl rfl (by kernel_rfl) (by decide) (fun K hK=> ?_);refine goes_ Try.func49 (by kernel_rfl) rfl #[.pointer (some ⟨g,0,none⟩),.int .i64 5] (by rfl) rfl rfl (by (try simp only [List.map_toArray,List.map_cons,List.map_nil]);first | done | rfl) ?_;refine (pick_rds HD.out HC.out (by have:=HQ.out;have:=HQ0.out;omega) 5).mono ?_;rintro e wn ⟨z,q2,rfl,hz,hq2,hd,hk⟩;refine ⟨_,rfl, ?_⟩;refine hK.out _ _ (⟨HD.out.blkK hk hHeld.1 (by decide),cell_keep hHeld.2 hk (fun he=>by have h3:=HS.out.town bt rfl;rw [he,OG.out] at h3;cases h3)⟩) (fun hHeld=> ?_);clear hK K;refine norm_ (a':= ?_) ?_ ?_;rotate_left
   ·show Act.put _ (some 102) _=_
    simp only [Act.put,sA,sZ,sS,i64_w];rfl
   replace HS:=am (HS.out.move hk.1 (fun q9 ho hl=>hk.2 q9 hl (fun he=>ho (by rw [he];exact OG.out)) (by simp)));clear hz;replace HQ:=am (show q0<=q2/\q2<=q0+7004 from by have:=HQ.out;(try have:=HNX.out);(try have:=HNB.out);omega);clear hq2;replace VC:=am (HD.out.rowK hk VC.out (by decide));replace VB:=am (HD.out.rowK hk VB.out (by decide));replace V10:=am (HD.out.rowK hk V10.out (by decide));replace BZ:=am (HD.out.blkK hk BZ.out (by decide));replace BY:=am (HD.out.blkK hk BY.out (by decide));replace BP:=am (HD.out.blkK hk BP.out (by decide));replace BS:=am (HD.out.blkK hk BS.out (by decide));replace HD:=am (hd);clear BZc BYc BPc BSc;have BZc:=zc8 BZ.out;have BYc:=zc8 BY.out;have BPc:=zc8 BP.out;have BSc:=zc8 BS.out;clear hk hd;refine on9 (i:=11) (N:=some 103) rfl rfl (by kernel_rfl) (by decide) (fun K hK=> ?_);refine value_ (v:=.agg #[.int .i64 z,.int .i64 0]) (w1:=wn) (by rfl) rfl (by go_simp<;>rfl) ?_;refine hK.out _ _ (hHeld) (fun hHeld=> ?_);clear hK K;refine norm_ (a':= ?_) ?_ ?_;rotate_left
   ·show Act.put _ (some 103) _=_
    simp only [Act.put,sA,sZ,sS,i64_w];rfl
   refine on9 (i:=12) (N:=some 104) rfl rfl (by kernel_rfl) (by decide) (fun K hK=> ?_);refine value_ (v:=.slice (some ⟨wn.heap.size,0,none⟩) 1 1) (w1:=wn.alloc (.cells #[.int .i64 z,.int .i64 0] 103 (0,0))) (by rfl) rfl (by go_simp<;>rfl) ?_;have hHeld0:=hHeld;refine hK.out _ _ (⟨blk_alloc hHeld.1 _,cell_alloc hHeld.2 _⟩) (fun hHeld=> ?_);clear hK K;refine norm_ (a':= ?_) ?_ ?_;rotate_left
   ·show Act.put _ (some 104) _=_
    simp only [Act.put,sA,sZ,sS,i64_w];rfl
   refine on9 (i:=13) (N:=some 105) rfl rfl (by kernel_rfl) (by decide) (fun K hK=> ?_);refine Kd.R_append_step kPut (w0:=_) w.heap.size (by rfl) (.tmp 100) (.tmp 104) 36 103 (.agg #[.int .i64 0,.int .i64 0]) 16 rfl Try.underlying36 (by kernel_rfl) rfl (by decide) (by decide) (.slice Ap (tk sn k).puts.length cp) (tk sn k).puts ⟨z,0⟩ [.int .i64 z,.int .i64 0] (fun q=>own q=11+8*k\/own q=0) (fun _=>False) rfl rfl (kPut_mkM ⟨z,0⟩) (fun _ hk=>hk.elim) (fun q hq=> .inr (HS.out.new0 q hq)) (Kd.R_mono V10.out (fun q hq=> .inl hq)) (Below.refl _ _) HD.out.size (by have:=LP.out;omega) ?_;intro v1 w6 hv1 hb6 hg6 hat6;clear hb6;have NT6:some bt ≠ (Value.slice Ap (tk sn k).puts.length cp).ownBlock:=fun he=>by have h9:own bt=11+8*k:=V10.out.1 bt he.symm;rw [HS.out.town bt rfl] at h9;omega
   have NZ:some gz ≠ (Value.slice Ap (tk sn k).puts.length cp).ownBlock:=fun he=>by have h9:own gz=11+8*k:=V10.out.1 gz he.symm;rw [OZ.out] at h9;omega
   have NY:some gy ≠ (Value.slice Ap (tk sn k).puts.length cp).ownBlock:=fun he=>by have h9:own gy=11+8*k:=V10.out.1 gy he.symm;rw [OY.out] at h9;omega
   have NP:some gp ≠ (Value.slice Ap (tk sn k).puts.length cp).ownBlock:=fun he=>by have h9:own gp=11+8*k:=V10.out.1 gp he.symm;rw [OP.out] at h9;omega
   have NS:some gs ≠ (Value.slice Ap (tk sn k).puts.length cp).ownBlock:=fun he=>by have h9:own gs=11+8*k:=V10.out.1 gs he.symm;rw [OS.out] at h9;omega
   refine hK.out _ _ (⟨blk_grown hHeld0.1 hg6 NS,cell_grown hHeld0.2 hg6 NT6⟩) (fun hHeld=> ?_);clear hK K;refine norm_ (a':= ?_) ?_ ?_;rotate_left
   ·show Act.put _ (some 105) _=_
    simp only [Act.put,sA,sZ,sS,i64_w];rfl
   have hf6:w6.frozen? ⟨bt,k*13+10,none⟩=false:=by obtain ⟨ct,htt⟩:=Kd.R_typed HS.out.tasks bt rfl;exact blk_frozen (blk_grown htt hg6 NT6) _
   have ht6:∃ ct,w6.heap[bt]? = some (.cells ct 38 (0,0)):=by obtain ⟨ct,htt⟩:=Kd.R_typed HS.out.tasks bt rfl;exact ⟨ct,blk_grown htt hg6 NT6⟩
   have HF6:=am hf6;have HT6:=am ht6;have C6:=am hHeld.2;have V6:=am hv1;have LB6:=am (show w.heap.size<=bt from Nat.le_of_not_lt fun hlt=>by have h3:=HS.out.town bt rfl;rw [HS.out.low bt hlt] at h3;cases h3);have NB6:=am (show ∀ q,own q=0->q ≠ bt from fun q ho he=>by rw [he,HS.out.town bt rfl] at ho;cases ho);obtain ⟨own2,hS2,hl2⟩:=HS.out.putsGrown hkl hHeld0.2 hg6 hv1 hat6;have HS2:=am hS2;have LG:=HD.out.lt;have LW:=HD.out.size;replace OG:=am ((hl2 g (by omega)).trans OG.out);have OZ_:=am ((hl2 gz (blk_lt BZ.out)).trans OZ.out);have OY_:=am ((hl2 gy (blk_lt BY.out)).trans OY.out);have OP_:=am ((hl2 gp (blk_lt BP.out)).trans OP.out);have OS_:=am ((hl2 gs (blk_lt BS.out)).trans OS.out);replace VC:=am (R_other VC.out V10.out (by decide) hg6);replace VB:=am (R_other VB.out V10.out (by decide) hg6);replace BZ:=am (blk_grown BZ.out hg6 NZ);replace BY:=am (blk_grown BY.out hg6 NY);replace BP:=am (blk_grown BP.out hg6 NP);replace BS:=am (blk_grown BS.out hg6 NS);replace HD:=am (HD.out.grown hg6 (fun q hq=>Kd.R_base V10.out q hq));have NZb:=am (NB6.out gz OZ.out);have NYb:=am (NB6.out gy OY.out);have NPb:=am (NB6.out gp OP.out);have NSb:=am (NB6.out gs OS.out);clear hHeld hHeld0 hv1 hg6 hat6 hf6 ht6 NT6 NZ NY NP NS hS2 hl2 LG LW NB6 OZ OY OP OS V10 BZc BYc BPc BSc HS;have OZ:=OZ_;clear OZ_;have OY:=OY_;clear OY_;have OP:=OP_;clear OP_;have OS:=OS_;clear OS_;have BSc:=zc8 BS.out;refine tail_ (fuel:=3) 14 (by kernel_rfl) ?_;simp only [List.drop_succ_cons,List.drop_zero]
   go_wp2_with (first
   |((with_reducible refine gate_store (t:=36) (p:=107) rfl ?_);obtain ⟨ct6,hct6⟩:=HT6.out;refine set_ev (u:=v1) rfl rfl _ _ rfl (g:=bt) (off:=k*13+10) rfl rfl (R_cells V6.out) (R_oneCell V6.out) (by kernel_rfl) ⟨⟨_,C6.out⟩,HF6.out⟩ ?_;intro wz hwn;have HS_0:=am (show Sy _ _ _ _ _ _ wz by rw [hwn];exact HS2.out);replace BZ:=am (show wz.heap[gz]? = some (.cells #[.slice none 0 0,.slice none 0 0] 48 (0,0)) by rw [hwn];exact blk_far (p:=⟨bt,k*13+10,none⟩) BZ.out NZb.out v1);replace BY:=am (show wz.heap[gy]? = some (.cells #[.slice none 0 0,.slice none 0 0,.int .i64 0,.slice none 0 0] 27 (0,0)) by rw [hwn];exact blk_far (p:=⟨bt,k*13+10,none⟩) BY.out NYb.out v1);replace BP:=am (show wz.heap[gp]? = some (.cells #[.slice A lk cA,.slice B lb cB] 48 (0,0)) by rw [hwn];exact blk_far (p:=⟨bt,k*13+10,none⟩) BP.out NPb.out v1);replace BS:=am (show wz.heap[gs]? = some (.cells #[.slice Uc sn.cells.length uc,.slice (some ⟨bt,0,none⟩) sn.tasks.length ut,.int .i64 sn.clock,.slice Ul sn.log.length ul] 27 (0,0)) by rw [hwn];exact blk_far (p:=⟨bt,k*13+10,none⟩) BS.out NSb.out v1);replace VC:=am (show (Kd.int .i64).R 3 wz w.heap.size (fun _=>True) (.slice A lk cA) p.cells by rw [hwn];exact R_set VC.out hct6 (by decide) (k*13+10) v1);replace VB:=am (show (Kd.slice 108 kAct).R 104 wz w.heap.size (fun _=>True) (.slice B lb cB) p.bodies by rw [hwn];exact R_set VB.out hct6 (by decide) (k*13+10) v1);replace HD:=am (show Rds w0 w g b _ wz by rw [hwn];exact HD.out.set LB6.out (k*13+10) v1);clear hwn HS2 BSc hct6;have HS:=HS_0;clear HS_0;have BZc:=zc8 BZ.out;have BYc:=zc8 BY.out;have BPc:=zc8 BP.out;have BSc:=zc8 BS.out))
   replace HS:=am HS.out.sta;have HZ9:=am (HIV.out.sysSz (by have:=HN.out;omega));exact TL BZ BY BP BS VC VB HS HD (am (by have:=HQ.out;omega)) OG OZ OY OP OS (am (setTask_szP HZ9.out hkl rfl rfl rfl (by have:=LP.out;rw [List.length_append,List.length_singleton];omega))) (am (by have:=HIV.out.room;have:=HIV.out.many;have:=HN.out;show sn.log.length+(sn.tasks.set _ _).length<=1000;rw [List.length_set];omega)) (am (by show 1<=(sn.tasks.set _ _).length;rw [List.length_set];exact HTL.out))
  ·obtain ⟨i0,hi0,_,hsz,_⟩:=info_parts info_cell
   have hcut:=cut_from (P:=Try.prog) 23 53 .i64 Try.underlying23 hi0 3 hsz Uc sn.cells.length uc 1 (by decide) (by have:=HCL.out;omega);obtain ⟨A1,hA1⟩:∃ A1,A1=(if uc=(1:Int).toNat then Uc else Uc.map (·.add ((1:Int).toNat*3))):=⟨_,rfl⟩;obtain ⟨c1,hc1⟩:∃ c1,c1=uc - (1:Int).toNat:=⟨_,rfl⟩;rw [<-hA1,<-hc1] at hcut;have HA1:=am hA1;have HC1:=am hc1;clear hA1 hc1 hi0 hsz
   go_wp2_with (first
   |((with_reducible refine gate_dst (N:=26) rfl ?_);refine event_run rfl (by first|exact hcut _|(go_simp;exact hcut _)|(go_simp;rfl)) ?_)
   |((with_reducible refine gate_store (t:=23) (p:=27) rfl ?_);refine set_ev (u:=.slice A1 (sn.cells.length - 1) c1) rfl rfl _ _ rfl (g:=gs) (off:=0) rfl rfl rfl rfl (by kernel_rfl) ⟨⟨_,by rw [zc8 BS.out];rfl⟩,blk_frozen BS.out _⟩ ?_;intro wz hwn;have BS_0:=am (show wz.heap[gs]? = some (.cells #[.slice A1 (sn.cells.length - 1) c1,.slice Ut sn.tasks.length ut,.int .i64 sn.clock,.slice Ul sn.log.length ul] 27 (0,0)) by rw [hwn];exact blk_set BS.out 0 (.slice A1 (sn.cells.length - 1) c1));replace BZ:=am (show wz.heap[gz]? = some (.cells #[.slice none 0 0,.slice none 0 0] 48 (0,0)) by rw [hwn];exact blk_far (p:=⟨gs,0,none⟩) BZ.out (blk_ne BZ.out BS.out (by decide)) (.slice A1 (sn.cells.length - 1) c1));replace BY:=am (show wz.heap[gy]? = some (.cells #[.slice none 0 0,.slice none 0 0,.int .i64 0,.slice none 0 0] 27 (0,0)) by rw [hwn];exact blk_far (p:=⟨gs,0,none⟩) BY.out (NBYBS.out) (.slice A1 (sn.cells.length - 1) c1));replace BP:=am (show wz.heap[gp]? = some (.cells #[.slice A lk cA,.slice B lb cB] 48 (0,0)) by rw [hwn];exact blk_far (p:=⟨gs,0,none⟩) BP.out (blk_ne BP.out BS.out (by decide)) (.slice A1 (sn.cells.length - 1) c1));replace VC:=am (show (Kd.int .i64).R 3 wz w.heap.size (fun _=>True) (.slice A lk cA) p.cells by rw [hwn];exact R_set VC.out BS.out (by decide) 0 (.slice A1 (sn.cells.length - 1) c1));replace VB:=am (show (Kd.slice 108 kAct).R 104 wz w.heap.size (fun _=>True) (.slice B lb cB) p.bodies by rw [hwn];exact R_set VB.out BS.out (by decide) 0 (.slice A1 (sn.cells.length - 1) c1));replace HS:=am (show Sy _ _ _ _ _ _ wz by rw [hwn];exact HS.out.far OS.out 0 (.slice A1 (sn.cells.length - 1) c1));replace HD:=am (show Rds w0 w g b _ wz by rw [hwn];exact HD.out.set LBS.out 0 (.slice A1 (sn.cells.length - 1) c1));clear hwn BS BSc BZc BYc BPc;have BS:=BS_0;clear BS_0;have BZc:=zc8 BZ.out;have BYc:=zc8 BY.out;have BPc:=zc8 BP.out;have BSc:=zc8 BS.out))
   replace HS:=am (show Sta w.heap.size own wz {sn with cells:=sn.cells.drop 1} [.slice A1 (sn.cells.length - 1) c1,.slice Ut sn.tasks.length ut,.int .i64 sn.clock,.slice Ul sn.log.length ul] from fun W2 hs2 hm2=>by have h:=(HS.out.move hs2 (fun k ho hl=>hm2 k (HS.out.above ho) ho hl)).cellsCut HCL.out;rw [HA1.out,HC1.out];exact h);clear hcut;have HZ9:=am (HIV.out.sysSz (by have:=HN.out;omega));exact TL BZ BY BP BS VC VB HS HD (am (by have:=HQ.out;omega)) OG OZ OY OP OS (am ⟨(by show (sn.cells.drop 1).length<=_;rw [List.length_drop];have:=HZ9.out.cells;omega),HZ9.out.tasks,HZ9.out.log,HZ9.out.task,HZ9.out.logs⟩) (am (by have:=HIV.out.room;have:=HIV.out.many;have:=HN.out;show sn.log.length+sn.tasks.length<=1000;omega)) (am HTL.out)
 ·have q4:(0:Int) < (x:Int):=by omega
  have q6:0 < x:=by omega
  clear hx hx0;replace HS:=am HS.out.sta;go_wp2;refine st9 (n:=4) (S:=fun W=>W.heap[gp]? = some (.cells #[.slice A lk cA,.slice B lb cB] 48 (0,0))/\W.heap[gs]? = some (.cells #[.slice Uc sn.cells.length uc,.slice Ut sn.tasks.length ut,.int .i64 sn.clock,.slice Ul sn.log.length ul] 27 (0,0))) (ds:= [3]) (by kernel_rfl) rfl ⟨blk_drew BP.out,blk_drew BS.out⟩ (fun hHeld=> ?_);have hb:=below_drew (Below.refl wn.heap.size wn);generalize wn.drew=w7 at hb hHeld ⊢;replace HS:=am (HS.out.grow hb);replace VC:=am (Kd.R_below VC.out hb);replace VB:=am (Kd.R_below VB.out hb);replace BZ:=am (zb8 BZ.out hb);replace BY:=am (zb8 BY.out hb);replace BP:=am (zb8 BP.out hb);replace BS:=am (zb8 BS.out hb);replace HD:=am (HD.out.grow hb);clear BZc BYc BPc BSc;have BZc:=zc8 BZ.out;have BYc:=zc8 BY.out;have BPc:=zc8 BP.out;have BSc:=zc8 BS.out;clear hb;refine ba9 (fuel:=3) (n:=1) [0] (by kernel_rfl) (fun N _ _ _ _ h=>by cases N <;> exact h) hHeld ?_
  iterate 1 (
   refine stillS_step (v:= ?_) (a':= ?_) rfl (Or.inl ⟨by rfl, ?_⟩) ?_ ?_;rotate_left
   ·rintro W ⟨s0,s1⟩
    have t0:=zc8 s0;have t1:=zc8 s1;clear s0 s1;go_simp;with_reducible rfl
   rotate_left
   ·simp only [Act.put,sA,sZ,sS,i64_w]
    rfl)
  refine stillS_nil ?_;refine tw9 (i:=1) (j:=2) (Ni:=some 16) (Nj:=none) rfl rfl rfl rfl (by kernel_rfl) (by decide) (by decide) (fun K hK=> ?_) (fun K hK=> ?_)
  ·have t1:=zc8 hHeld.2
   refine value_ (v:=.agg #[.slice Uc sn.cells.length uc,.slice Ut sn.tasks.length ut,.int .i64 sn.clock,.slice Ul sn.log.length ul]) (w1:=_) (by rfl) rfl (by go_simp<;>rfl) ?_;clear t1;refine hK.out _ _ (hHeld) (fun hHeld=> ?_);clear hK K;refine norm_ (a':= ?_) ?_ ?_;rotate_left
   ·show Act.put _ (some 16) _=_
    simp only [Act.put,sA,sZ,sS,i64_w];rfl
   refine on9 (i:=2) (N:=none) rfl rfl (by kernel_rfl) (by decide) (fun K hK=> ?_);obtain ⟨hbox,hg⟩:=setCells_blk (cs:= [.slice A lk cA,.slice B lb cB]) BZ.out rfl;rw [if_pos (by rfl)];refine store_wp rfl 48 (.tmp 2) (.tmp 15) rfl rfl rfl BZ.out rfl (by kernel_rfl) (aB rfl) ?_;generalize World.setCells _ gz 0 [.slice A lk cA,.slice B lb cB]=wy at hbox hg ⊢;refine hK.out _ _ ⟨blk_grown hHeld.1 hg (fun he=>Ne.symm NBZBP.out (by injection he)),blk_grown hHeld.2 hg (fun he=>blk_ne hHeld.2 BZ.out (by decide) (by injection he))⟩ (fun hHeld=> ?_);clear hK K;have BZ_0:=am hbox;replace VC:=am (R_grownT VC.out BZ.out (by decide) hg);replace VB:=am (R_grownT VB.out BZ.out (by decide) hg);replace BY:=am (blk_grown BY.out hg (fun he=>blk_ne BY.out BZ.out (by decide) (by injection he)));replace BP:=am (blk_grown BP.out hg (fun he=>Ne.symm NBZBP.out (by injection he)));replace BS:=am (blk_grown BS.out hg (fun he=>blk_ne BS.out BZ.out (by decide) (by injection he)));replace HS:=am (HS.out.move hg.size (fun q hq hl=>hg.block q hl (fun he=>hq (by injection he with he;rw [he];exact OZ.out))));replace HD:=am (HD.out.grown hg (fun k hk=>by cases hk;exact LBZ.out));clear BZ BZc BYc BPc BSc;have BZ:=BZ_0;clear BZ_0 hbox hg;have BZc:=zc8 BZ.out;have BYc:=zc8 BY.out;have BPc:=zc8 BP.out;have BSc:=zc8 BS.out;clear hHeld;refine tail_ (fuel:=1) 3 (by kernel_rfl) ?_;simp only [List.drop_succ_cons,List.drop_zero]
   go_wp2_with (first
   |((with_reducible refine gate_store (t:=27) (p:=3) rfl ?_);refine store_block rfl rfl 27 (.tmp 3) (.tmp 16) rfl rfl rfl BY.out rfl (by kernel_rfl) (aB rfl) ?_;intro wn hbox hg;have BY_0:=am hbox;replace VC:=am (R_grownT VC.out BY.out (by decide) hg);replace VB:=am (R_grownT VB.out BY.out (by decide) hg);replace BZ:=am (blk_grown BZ.out hg (fun he=>blk_ne BZ.out BY.out (by decide) (by injection he)));replace BP:=am (blk_grown BP.out hg (fun he=>blk_ne BP.out BY.out (by decide) (by injection he)));replace BS:=am (blk_grown BS.out hg (fun he=>Ne.symm NBYBS.out (by injection he)));replace HS:=am (HS.out.move hg.size (fun q hq hl=>hg.block q hl (fun he=>hq (by injection he with he;rw [he];exact OY.out))));replace HD:=am (HD.out.grown hg (fun k hk=>by cases hk;exact LBY.out));clear BY BZc BYc BPc BSc;have BY:=BY_0;clear BY_0 hbox hg;have BZc:=zc8 BZ.out;have BYc:=zc8 BY.out;have BPc:=zc8 BP.out;have BSc:=zc8 BS.out))
   refine bodyPost_ret (results_list (rs:= [.cell 2 48,.cell 3 27]) rfl (by simp) (.cell gz 48 #[.slice A lk cA,.slice B lb cB] (0,0) _ rfl BZ.out Try.underlying48 rfl (by kernel_rfl) (.cell gy 27 #[.slice Uc sn.cells.length uc,.slice Ut sn.tasks.length ut,.int .i64 sn.clock,.slice Ul sn.log.length ul] (0,0) _ rfl BY.out Try.underlying27 rfl (by kernel_rfl) .nil))) rfl ?_;exact ⟨p,sn,_,_,_,_,rfl,OK.out,HSZ.out,VC.out,VB.out,⟨Nat.le_refl _,fun W2 hs2 hm2=>HS.out W2 hs2 (fun q9 hB ho hl=>hm2 q9 hB hl (fun he=>ho (by rw [he];exact OG.out)))⟩,HIV.out.sysSz (by have:=HN.out;omega),(by have:=HIV.out.room;have:=HIV.out.many;have:=HN.out;omega),HTL.out,HD.out,HQ.out.1,by have:=HQ.out.2;omega⟩
  ·obtain ⟨hbox,hg⟩:=setCells_blk (cs:= [.slice A lk cA,.slice B lb cB]) BZ.out rfl
   rw [if_pos (by rfl)];refine store_wp rfl 48 (.tmp 2) (.tmp 15) rfl rfl rfl BZ.out rfl (by kernel_rfl) (aB rfl) ?_;generalize World.setCells _ gz 0 [.slice A lk cA,.slice B lb cB]=wy at hbox hg ⊢;refine hK.out _ _ ⟨blk_grown hHeld.1 hg (fun he=>Ne.symm NBZBP.out (by injection he)),blk_grown hHeld.2 hg (fun he=>blk_ne hHeld.2 BZ.out (by decide) (by injection he))⟩ (fun hHeld=> ?_);clear hK K;have BZ_0:=am hbox;replace VC:=am (R_grownT VC.out BZ.out (by decide) hg);replace VB:=am (R_grownT VB.out BZ.out (by decide) hg);replace BY:=am (blk_grown BY.out hg (fun he=>blk_ne BY.out BZ.out (by decide) (by injection he)));replace BP:=am (blk_grown BP.out hg (fun he=>Ne.symm NBZBP.out (by injection he)));replace BS:=am (blk_grown BS.out hg (fun he=>blk_ne BS.out BZ.out (by decide) (by injection he)));replace HS:=am (HS.out.move hg.size (fun q hq hl=>hg.block q hl (fun he=>hq (by injection he with he;rw [he];exact OZ.out))));replace HD:=am (HD.out.grown hg (fun k hk=>by cases hk;exact LBZ.out));clear BZ BZc BYc BPc BSc;have BZ:=BZ_0;clear BZ_0 hbox hg;have BZc:=zc8 BZ.out;have BYc:=zc8 BY.out;have BPc:=zc8 BP.out;have BSc:=zc8 BS.out;refine on9 (i:=1) (N:=some 16) rfl rfl (by kernel_rfl) (by decide) (fun K hK=> ?_);have t1:=zc8 hHeld.2;refine value_ (v:=.agg #[.slice Uc sn.cells.length uc,.slice Ut sn.tasks.length ut,.int .i64 sn.clock,.slice Ul sn.log.length ul]) (w1:=_) (by rfl) rfl (by go_simp<;>rfl) ?_;clear t1;refine hK.out _ _ (hHeld) (fun hHeld=> ?_);clear hK K;refine norm_ (a':= ?_) ?_ ?_;rotate_left
   ·show Act.put _ (some 16) _=_
    simp only [Act.put,sA,sZ,sS,i64_w];rfl
   clear hHeld;refine tail_ (fuel:=1) 3 (by kernel_rfl) ?_;simp only [List.drop_succ_cons,List.drop_zero]
   go_wp2_with (first
   |((with_reducible refine gate_store (t:=27) (p:=3) rfl ?_);refine store_block rfl rfl 27 (.tmp 3) (.tmp 16) rfl rfl rfl BY.out rfl (by kernel_rfl) (aB rfl) ?_;intro wn hbox hg;have BY_0:=am hbox;replace VC:=am (R_grownT VC.out BY.out (by decide) hg);replace VB:=am (R_grownT VB.out BY.out (by decide) hg);replace BZ:=am (blk_grown BZ.out hg (fun he=>blk_ne BZ.out BY.out (by decide) (by injection he)));replace BP:=am (blk_grown BP.out hg (fun he=>blk_ne BP.out BY.out (by decide) (by injection he)));replace BS:=am (blk_grown BS.out hg (fun he=>Ne.symm NBYBS.out (by injection he)));replace HS:=am (HS.out.move hg.size (fun q hq hl=>hg.block q hl (fun he=>hq (by injection he with he;rw [he];exact OY.out))));replace HD:=am (HD.out.grown hg (fun k hk=>by cases hk;exact LBY.out));clear BY BZc BYc BPc BSc;have BY:=BY_0;clear BY_0 hbox hg;have BZc:=zc8 BZ.out;have BYc:=zc8 BY.out;have BPc:=zc8 BP.out;have BSc:=zc8 BS.out))
   refine bodyPost_ret (results_list (rs:= [.cell 2 48,.cell 3 27]) rfl (by simp) (.cell gz 48 #[.slice A lk cA,.slice B lb cB] (0,0) _ rfl BZ.out Try.underlying48 rfl (by kernel_rfl) (.cell gy 27 #[.slice Uc sn.cells.length uc,.slice Ut sn.tasks.length ut,.int .i64 sn.clock,.slice Ul sn.log.length ul] (0,0) _ rfl BY.out Try.underlying27 rfl (by kernel_rfl) .nil))) rfl ?_;exact ⟨p,sn,_,_,_,_,rfl,OK.out,HSZ.out,VC.out,VB.out,⟨Nat.le_refl _,fun W2 hs2 hm2=>HS.out W2 hs2 (fun q9 hB ho hl=>hm2 q9 hB hl (fun he=>ho (by rw [he];exact OG.out)))⟩,HIV.out.sysSz (by have:=HN.out;omega),(by have:=HIV.out.room;have:=HIV.out.many;have:=HN.out;omega),HTL.out,HD.out,HQ.out.1,by have:=HQ.out.2;omega⟩
end Go.Proofs.Ytimamoimphjakaa.Eq

namespace Go.Proofs.Ytimamoimphjakaa.Eq
open Go.RowKit Go.Proofs.YtimamoimphjakaaW.PrintWords Go.Proofs.YtimamoimphjakaaW.PrintLast Go.Proofs.YtimamoimphjakaaW.PrintMore
def isHeld (cs:List Cell) (i:Nat):Bool:=decide (0<=(cellAt cs i).lock)
def heldIn (cs:List Cell):List Int:=pickTo (isHeld cs) cs.length
theorem cell_lock {W:World} {A:Option Addr} {cs:List Cell} (h:kCell.C W A cs.length cs) {i:Nat} (hi:i < cs.length):∃ b o,A=some ⟨b,o,none⟩/\W.cell? ⟨b,o+i*3+2,none⟩=some (.int .i64 (cellAt cs i).lock)/\W.cell? ⟨b,o+i*3+1,none⟩=some (.int .i64 (cellAt cs i).time):=by
 obtain ⟨b,o,cs2,e2,hcl,hK,hcc,hc0⟩:=C_field h zCell i hi (by decide);rw [show cs.getD i zCell=cellAt cs i from rfl] at hK;obtain rfl:=kCell_open hK;exact ⟨b,o,e2,hcc 2 _ rfl,hcc 1 _ rfl⟩
theorem specHeld_calls (s:Sys) (cs:List Value) (w:World) (hx:kSys.K w s cs) (hn:s.cells.length<=1048576):
  Calls Try.prog 54 #[.agg cs.toArray] w fun e w'=>∃ v,e= .returned v/\(Kd.int .i64).R 3 w' w.heap.size (fun _=>True) v (heldIn s.cells)/\Below w.heap.size w w':=by
 obtain ⟨A0,c0,A1,c1,A3,c3,rfl,l0,g0,l1,g1,l3,g3⟩:=kSys_open hx;have G:=am g0;clear g0 g1 g3 l0 l1 l3 hx;go_enter Try.func54,Try.ntmps54;go_wp2_with (first|((with_reducible refine gate_dst (N:=1) rfl ?_);refine box_event rfl (N:=1) rfl (t:=27) (by go_simp<;>rfl) ?_;intro g hg w2 hbox hb;have BK:=am hbox;have HB:=am hb;have GE:=am (show w.heap.size<=g by omega);clear hbox hb hg;have hc:=zc8 BK.out)|((with_reducible refine gate_dst (N:=5) rfl ?_);refine Kd.R_lit (w0:=w) (Kd.int .i64) w.heap.size 3 rfl (N:=5) rfl (xs:=([]:List Int)) (inner:= []) (ok:=fun _=>True) (okp:=fun _=>True) (by go_simp<;>rfl) (Reps.none _ _) (fun _ hk=>hk) trivial HB.out (below_size HB.out) (by simp) ?_;intro v0 w3 ho hb hg _;have BK1:=am (blk_grown BK.out hg (by simp));have HO1:=am ho;have HB1:=am hb;clear ho hb hg HB BK hc;have hc:=zc8 BK1.out))
 go_loopw [3,4] (fun v i w'=>∃ k:Nat,k<=s.cells.length/\i= .int .i64 k/\Aside0 ((Kd.int .i64).R 3 w' w.heap.size (fun _=>True) v (pickTo (isHeld s.cells) k))/\Aside0 (w'.heap[g]? = some (.cells #[.slice A0 s.cells.length c0,.slice A1 s.tasks.length c1,.int .i64 s.clock,.slice A3 s.log.length c3] 27 (0,0)))/\Aside0 (Below w.heap.size w w')) (fun _ i _=>s.cells.length - (intOf i).toNat)
 case atStart=>exact ⟨0,Nat.zero_le _,rfl,HO1,BK1,HB1⟩
 case round=>
  clear HO1 BK1 HB1 hc;obtain ⟨k,hk,rfl,HO,BK,HB⟩:=hrel;have hlen:=pickTo_length (isHeld s.cells) k;by_cases hlt:k < s.cells.length
  ·have BKc:=zc8 BK.out
   obtain ⟨b,o,rfl,h_lock,-⟩:=cell_lock (Kd.C_below G.out HB.out) hlt;have q0:(0:Int)<=(k:Int):=by omega
   have q1:(k:Int) < (s.cells.length:Int):=by omega
   by_cases hy:(0:Int)<=(cellAt s.cells k).lock
   ·have y0:decide ((0:Int)<=(cellAt s.cells k).lock)=true:=decide_eq_true hy
    have HY:=am (show isHeld s.cells k=true from y0);clear hy;go_wp2_with (first|((with_reducible refine gate_builtin (b:=.append) (xs:=#[.tmp 20,.tmp 22]) rfl ?_);at_builtin;refine Kd.R_append (Kd.int .i64) (w0:=w) w.heap.size rfl (.tmp 20) (.tmp 22) 29 3 (.int .i64 0) 8 rfl Try.underlying29 info_int rfl (by decide) (by omega) _ (pickTo (isHeld s.cells) k) (k:Int) [.int .i64 (k:Int)] (fun _=>True) (fun _=>False) rfl rfl rfl (fun _ hk=>hk.elim) (fun _ _=>trivial) HO.out HB.out (below_size HB.out) (by omega) ?_;intro v1 w1 ho hb hg _;have BK1:=am (blk_grown BK.out hg (Kd.R_ne HO.out BK.out (by decide)));have HO1:=am ho;have HB1:=am hb;clear ho hb hg HO HB BK))
    go_roundw
    case rel=>exact ⟨k+1,by omega,by go_num,⟨by rw [pickTo_yes HY.out];exact HO1.out⟩,BK1,HB1⟩
    case measure=>simp [intOf];omega
   ·have y0:decide ((0:Int)<=(cellAt s.cells k).lock)=false:=decide_eq_false hy
    have HY:=am (show isHeld s.cells k=false from y0);clear hy;go_wp2;go_roundw
    case rel=>exact ⟨k+1,by omega,by go_num,⟨by rw [pickTo_no HY.out];exact HO.out⟩,BK,HB⟩
    case measure=>simp [intOf];omega
  ·have BKc:=zc8 BK.out
   go_wp2;go_ret;obtain rfl:k=s.cells.length:=by omega
   exact ⟨_,rfl,HO.out,HB.out⟩
end Go.Proofs.Ytimamoimphjakaa.Eq
namespace Go.Proofs.Ytimamoimphjakaa.Eq
theorem mem_pickTo {p:Nat->Bool} {k:Nat} {x:Int}:x ∈ pickTo p k ↔ ∃ i:Nat,i < k/\p i=true/\x=(i:Int):=by
 simp only [pickTo,List.mem_map,List.mem_filter,List.mem_range];constructor
 ·rintro ⟨i,⟨h1,h2⟩,rfl⟩;exact ⟨i,h1,h2,rfl⟩
 ·rintro ⟨i,h1,h2,rfl⟩;exact ⟨i,⟨h1,h2⟩,rfl⟩
theorem mem_kids {ts:List Task} {t x:Int}:x ∈ kids ts t ↔ ∃ i:Nat,i < ts.length/\0<=t/\(taskAt ts i).up=t/\t < (i:Int)/\x=(i:Int):=by
 simp only [kids,mem_pickTo,isKid,Bool.and_eq_true,decide_eq_true_eq];constructor
 ·rintro ⟨i,h1,⟨⟨h2,h3⟩,h4⟩,rfl⟩;exact ⟨i,h1,h2,h3,h4,rfl⟩
 ·rintro ⟨i,h1,h2,h3,h4,rfl⟩;exact ⟨i,h1,⟨⟨h2,h3⟩,h4⟩,rfl⟩
theorem nodup_flat {α:Type} {β:Type} {g:α->List β}:∀ {l:List α},(∀ x ∈ l,(g x).Nodup)->l.Pairwise (fun a b=>∀ x,x ∈ g a->x ∈ g b->False)->((l.map g).flatten).Nodup
 | [],_,_=>by simp
 | a :: l,h1,h2=>by
  rw [List.map_cons,List.flatten_cons,List.nodup_append];rw [List.pairwise_cons] at h2;refine ⟨h1 a List.mem_cons_self,nodup_flat (fun x hx=>h1 x (List.mem_cons_of_mem _ hx)) h2.2,fun x hx y hy he=> ?_⟩;subst he;obtain ⟨m,hm,hxm⟩:=List.mem_flatten.1 hy;obtain ⟨b,hb,rfl⟩:=List.mem_map.1 hm;exact h2.1 b hb x hx hxm
section
variable {ts:List Task}
structure OneTree (ts:List Task):Prop where
 pos:0 < ts.length
 first:(taskAt ts 0).up= -1
 up:∀ i,0 < i->i < ts.length->0<=(taskAt ts i).up/\(taskAt ts i).up < i
end
theorem ok_parts {p:Prog} {s:Sys} (h:sysOk p s=true):s.cells.length=p.cells.length/\(1<=s.tasks.length/\s.tasks.length<=7)/\(∀ i,i < s.cells.length->0<=(cellAt s.cells i).time/\(cellAt s.cells i).time<=s.clock)/\∀ i,i < s.tasks.length->upsOk s i=true:=by
 simp only [sysOk,Bool.and_eq_true,decide_eq_true_eq,inB_iff,allB_iff] at h;obtain ⟨⟨⟨⟨⟨⟨hp,hc⟩,ht⟩,hk⟩,hT⟩,hC⟩,hL⟩:=h;refine ⟨hc,by omega,fun i hi=> ?_,fun i hi=> ?_⟩
 ·simp only [cellsOk,allB_iff,Bool.and_eq_true,inB_iff] at hC
  exact (hC i hi).1.1.2
 ·have:=hT i hi
  simp only [taskOk,Bool.and_eq_true] at this;exact this.1.2
theorem ok_tree {p:Prog} {s:Sys} (h:sysOk p s=true):OneTree s.tasks:=by
 obtain ⟨_,hn,_,hu⟩:=ok_parts h;refine ⟨by omega, ?_,fun i h0 hi=> ?_⟩
 ·have:=hu 0 (by omega)
  simpa [upsOk] using this
 ·have:=hu i hi
  unfold upsOk at this;simp only [] at this;rw [if_neg (by omega)] at this;simp only [Bool.and_eq_true,inB_iff] at this;omega
theorem ok_up {p:Prog} {s:Sys} (h:sysOk p s=true) {i:Nat} (h0:0 < i) (hi:i < s.tasks.length) (hl:isLive (taskAt s.tasks i)=true):(taskAt s.tasks (taskAt s.tasks i).up.toNat).way=1:=by
 obtain ⟨_,hn,_,hu⟩:=ok_parts h
 have:=hu i hi
 unfold upsOk at this;simp only [] at this;rw [if_neg (by omega),hl] at this;simp only [Bool.and_eq_true,Bool.not_true,Bool.false_or,decide_eq_true_eq] at this;exact this.2
theorem ok_treeOk {p:Prog} {s:Sys} (h:sysOk p s=true):treeOk s.tasks=true:=by
 unfold treeOk;rw [decide_eq_true_eq];intro i hi hl;unfold upOk;by_cases h0:i=0
 ·subst h0
  have:=(ok_tree h).first
  simp [this]
 ·rw [show decide ((taskAt s.tasks (taskAt s.tasks i).up.toNat).way=1)=true from decide_eq_true (ok_up h (by omega) hi hl),Bool.or_true]
end Go.Proofs.Ytimamoimphjakaa.Eq
namespace Go.Proofs.Ytimamoimphjakaa.Eq
open Go.RowKit Go.Proofs.YtimamoimphjakaaW.PrintWords Go.Proofs.YtimamoimphjakaaW.PrintLast Go.Proofs.YtimamoimphjakaaW.PrintMore
theorem run_held (p:Prog) (ps:List Value) (s:Sys) (ss:List Value) (ks:List Int) (Ak:Option Addr) (ck:Nat) (g:Nat) (w:World) (hp:kProg.K w p ps) (hs:kSys.K w s ss) (hz:ProgSz p) (hsz:SysSz s) (hN:s.log.length+s.tasks.length<=1000000) (hk:(Kd.int .i64).C w Ak ks.length ks) (hg:g < w.heap.size):
  Calls Try.prog 55 #[.agg ps.toArray,.agg ss.toArray,.slice Ak ks.length ck] w fun e w'=>∃ (b:Bool) (X0 X1 X3:Option Addr) (n0 k0 n1 k1 n3 k3:Nat) (zc:Int),e= .returned (.tuple #[.agg #[.slice X0 n0 k0,.slice X1 n1 k1,.int .i64 zc,.slice X3 n3 k3],.bool b])/\Below w.heap.size w w'/\(b=true->sysOk p s=true/\Held w.heap.size w'.heap.size g (turns p s ks) [.slice X0 n0 k0,.slice X1 n1 k1,.int .i64 zc,.slice X3 n3 k3] w'):=by
 refine (sysRun_calls p ps s ss ks Ak ck w hp hs hz hsz hN hk).mono ?_;rintro e w' ⟨ss1,b,rfl,hb,hbb,hyes,hno⟩
 cases b with
 | false=>
  obtain ⟨X0,k0,X1,k1,X3,k3,rfl,-⟩:=kSys_open (hno rfl)
  exact ⟨false,X0,X1,X3,_,k0,_,k1,_,k3,_,rfl,hb,fun h=>by cases h⟩
 | true=>
  obtain ⟨own,vc,vt,vl,rfl,hsy⟩:=hyes rfl;have hst:=hsy.sta;have hlo:=hsy.low g hg;obtain ⟨X0,k0,e0⟩:=Kd.R_slice hsy.cells;obtain ⟨X1,k1,e1⟩:=Kd.R_slice hsy.tasks;obtain ⟨X3,k3,e3⟩:=Kd.R_slice hsy.log;subst e0 e1 e3
  have hok:sysOk p s=true:=by
   have:=hbb.symm
   simp only [Bool.and_eq_true] at this;exact this.1
  exact ⟨true,X0,X1,X3,_,k0,_,k1,_,k3,_,rfl,hb,fun _=>⟨hok,Nat.le_refl _,fun W2 h2 hm=>hst W2 h2 (fun k hB ho hl=>hm k hB hl (fun he=>ho (by rw [he];exact hlo)))⟩⟩
theorem turn_sz {p:Prog} {s:Sys} {k:Int} {L:Nat} (h:sysOk p s=true) (hl:s.log.length<=L) (hL:L<=100000):SysSz (turns p s [k])/\(turns p s [k]).log.length<=L+9/\(turns p s [k]).tasks.length<=L+9/\1<=(turns p s [k]).tasks.length:=by
 have h7:=(ok_parts h).2.1;have hi:=(Inv.ofOk h).turns [k];have hlen:=turns_len p [k] s;simp only [List.length_singleton] at hi;have hr:=hi.room;have hm:=hi.many;exact ⟨hi.sysSz (by omega),by omega,by omega,by omega⟩
theorem box_step {P:Program} {ops:Array Oper} {Q:Exit->Go.Act->World->Prop} {oi:Oper} {N:Option Tmp} {a:Go.Act} {w:World} {K:Go.Act->World->Prop} {t:TypeId} {cs:Array Value} (hw:Region.wanted oi (yielded ops a.tmps)=true) (hN:oi.dst=N)
  (hrun:∀ W:World,(execOp a.eval oi).run P W= .ok (.value (.pointer (some ⟨W.heap.size,0,none⟩))) (W.alloc (.cells cs t (0,0))))
  (h:∀ g,g=w.heap.size->∀ w1,w1.heap[g]? = some (.cells cs t (0,0))->Below w.heap.size w w1->K (a.put N (.pointer (some ⟨g,0,none⟩))) w1):if Region.wanted oi (yielded ops a.tmps)=true then Oper.wp P oi a w K Q else K (a.put N undef) w:=
 value_ hw hN (hrun w) (h _ rfl _ (blk_new w _) (below_alloc (Below.refl _ _) _))
def OkPost (w:World) (e:Ending) (w':World):Prop:=∃ p s Ac lc cc Ab lb cb Y0 m0 j0 Y1 m1 j1 yc Y3 m3 j3,e= .returned (.tuple #[.agg #[.slice Ac lc cc,.slice Ab lb cb],.agg #[.slice Y0 m0 j0,.slice Y1 m1 j1,.int .i64 yc,.slice Y3 m3 j3]])/\kProg.K w' p [.slice Ac lc cc,.slice Ab lb cb]/\ProgSz p/\kSys.K w' s [.slice Y0 m0 j0,.slice Y1 m1 j1,.int .i64 yc,.slice Y3 m3 j3]/\SysSz s/\1<=s.tasks.length/\s.tasks.length<=2000/\s.log.length<=2000/\Below w.heap.size w w'
theorem drawSysOk_calls (A:Option Addr) (c:Nat) (l:List Int) (w:World) (hC:(Kd.int .u8).C w A l.length l) (hc:l.length<=c) (hb:∀ i:Nat,0<=l.getD i 0/\l.getD i 0<=255):
  Calls Try.prog 33 #[.slice A l.length c] w fun e w'=>OkPost w e w':=by
 have HC:=am hC;have HL:=am hc;have HY:=am hb;clear hC hc hb;go_enter Try.func33,Try.ntmps33
 go_wp2_with (first
 |((with_reducible refine gate_dst (N:=2) rfl ?_);refine box_event rfl (N:=2) rfl (t:=48) (by go_simp<;>rfl) ?_;intro gz hg w2 hbox hb;have BZ:=am hbox;have LZ:=am (Nat.le_of_eq hg.symm);have HB:=am hb;clear hbox hg hb)
 |((with_reducible refine gate_dst (N:=3) rfl ?_);refine box_event rfl (N:=3) rfl (t:=27) (by go_simp<;>rfl) ?_;intro gy hg w3 hbox hb;have BY:=am hbox;have LY:=am (Nat.le_trans HB.out.size (Nat.le_of_eq hg.symm));have NZY:=am (show gz ≠ gy from fun he=>by have:=blk_lt BZ.out;omega);replace BZ:=am (zb8 BZ.out hb);replace HB:=am (below_step HB.out hb);clear hbox hg hb)
 |(go_at_call 47;refine (open_rds A c l _ (Kd.C_below HC.out HB.out) HL.out HY.out).mono ?_;rintro e wo ⟨g,bs,rfl,hi,hcd,hbo⟩;have HI:=am hi;have HCD:=am hcd;have HBO:=am hbo;clear hi hcd hbo)
 |(go_at_call 48;refine (l71Off_calls _ _ g bs 0 HI.out HBO.out HCD.out (by decide) (by decide)).mono ?_;rintro e wf ⟨p,s,vc,vb,ss,q,rfl,-,hpz,hvc,hvb,hs,hsz,hln,htl,hd,hq0,hq1⟩;have LZO:=am (blk_lt (zb8 BZ.out HBO.out));have LYO:=am (blk_lt (zb8 BY.out HBO.out));clear HBO HI;obtain ⟨Ac,cc,ev⟩:=Kd.R_slice hvc;subst ev;obtain ⟨Ab,cb,ev⟩:=Kd.R_slice hvb;subst ev;obtain ⟨lc,hlc⟩:∃ n,n=p.cells.length:=⟨_,rfl⟩;obtain ⟨lb,hlb⟩:∃ n,n=p.bodies.length:=⟨_,rfl⟩;rw [<-hlc] at hvc;rw [<-hlb] at hvb;rw [<-hlc,<-hlb];clear hlc hlb;obtain ⟨Y0,j0,Y1,j1,Y3,j3,rfl,-⟩:=kSys_open hs.now;obtain ⟨m0,hm0⟩:∃ n,n=s.cells.length:=⟨_,rfl⟩;obtain ⟨m1,hm1⟩:∃ n,n=s.tasks.length:=⟨_,rfl⟩;obtain ⟨m3,hm3⟩:∃ n,n=s.log.length:=⟨_,rfl⟩;obtain ⟨yc,hyc⟩:∃ n,n=s.clock:=⟨_,rfl⟩;rw [<-hm0,<-hm1,<-hm3,<-hyc] at hs;rw [<-hm0,<-hm1,<-hm3,<-hyc];clear hm0 hm1 hm3 hyc;have HS:=am hs;have HSZ:=am hsz;have HLN:=am (show s.log.length<=1000+9*0/\1<=s.tasks.length/\s.tasks.length<=2000 by omega);have HD:=am hd;have HQ:=am (show 0<=q/\q<=8000 from ⟨hq0,by omega⟩);have LWF:=am (show wo.heap.size<=wf.heap.size from HD.out.size);have HPZ:=am hpz;have VC:=am hvc;have VB:=am hvb;clear hs hsz hln htl hd hq0 hq1 hpz hvc hvb)
 |((with_reducible refine gate_dst (N:=5) rfl ?_);refine box_event rfl (N:=5) rfl (t:=48) (by go_simp<;>rfl) ?_;intro gp hg wt hbox hb;have BP0:=am hbox;have LBP:=am (Nat.le_of_eq hg.symm);have HBT:=am hb;have LBPo:=am (show wo.heap.size<=gp from Nat.le_trans (Nat.le_trans HD.out.size (Nat.le_refl _)) (Nat.le_of_eq hg.symm));clear hbox hb hg)
 |((with_reducible refine gate_dst (N:=6) rfl ?_);refine box_event rfl (N:=6) rfl (t:=27) (by go_simp<;>rfl) ?_;intro gs hg wt hbox hb;have NBPBS:=am (show gp ≠ gs from fun he=>by have:=blk_lt BP0.out;omega);replace BP0:=am (zb8 BP0.out hb);have BS0:=am hbox;have LBS:=am (Nat.le_trans HBT.out.size (Nat.le_of_eq hg.symm));replace HBT:=am (below_step HBT.out hb);have LBSo:=am (show wf.heap.size<=gs from LBS.out);clear hbox hb hg)
 |((with_reducible refine gate_store (t:=48) (p:=5) rfl ?_);refine store_block rfl rfl 48 (.tmp 5) (.tmp 15) rfl rfl rfl BP0.out rfl (by kernel_rfl) (aB rfl) ?_;intro wn hbox hg;have BP:=am hbox;replace BS0:=am (blk_grown BS0.out hg (fun he=>NBPBS.out (by injection he with he;exact he.symm)));replace HBT:=am (pw_below_grown HBT.out _ HBT.out.size hg (fun z hz=>by cases hz;exact LBP.out));clear BP0 hbox hg)
 |((with_reducible refine gate_store (t:=27) (p:=6) rfl ?_);refine store_block rfl rfl 27 (.tmp 6) (.tmp 16) rfl rfl rfl BS0.out rfl (by kernel_rfl) (aB rfl) ?_;intro wn hbox hg;have BS:=am hbox;replace BP:=am (blk_grown BP.out hg (fun he=>NBPBS.out (by injection he)));replace HBT:=am (pw_below_grown HBT.out _ HBT.out.size hg (fun z hz=>by cases hz;exact LBS.out));clear BS0 hbox hg;have hbT:=HBT.out;clear HBT;replace VC:=am (Kd.R_below VC.out hbT);replace VB:=am (Kd.R_below VB.out hbT);replace HS:=am (HS.out.grow hbT);replace HD:=am (HD.out.grow hbT);clear hbT;have BPc:=zc8 BP.out;have BSc:=zc8 BS.out)
 |(go_at_call 49;fail))
 refine (pick_rds HD.out HCD.out (by have:=HQ.out;omega) 8).mono ?_;rintro e wn ⟨x,q2,rfl,-,hq2,hd,hk⟩;replace HQ:=am (show 0<=q2/\q2<=8001 from by have:=HQ.out;omega);clear hq2;replace VC:=am (HD.out.rowK hk VC.out (by decide));replace VB:=am (HD.out.rowK hk VB.out (by decide));replace BP:=am (HD.out.blkK hk BP.out (by decide));replace BS:=am (HD.out.blkK hk BS.out (by decide));replace HS:=am (HS.out.keep hk);replace HD:=am hd;clear hk hd BPc BSc;have BPc:=zc8 BP.out;have BSc:=zc8 BS.out;by_cases hx0:(x:Int)=0
 ·have yx:((x:Int) == 0)=true:=by rw [beq_iff_eq];exact hx0
  have HBB:=am (Nat.le_refl wo.heap.size);clear hx0;go_wp2;refine st9 (n:=5) (S:=fun W=>W.heap[gs]? = some (.cells #[.slice Y0 m0 j0,.slice Y1 m1 j1,.int .i64 yc,.slice Y3 m3 j3] 27 (0,0))) (ds:= [4]) (by kernel_rfl) rfl (blk_drew BS.out) (fun hHeld=> ?_);have hb:=below_drew (Below.refl wn.heap.size wn);generalize wn.drew=w7 at hb hHeld ⊢;replace VC:=am (Kd.R_below VC.out hb);replace VB:=am (Kd.R_below VB.out hb);replace BP:=am (zb8 BP.out hb);replace BS:=am (zb8 BS.out hb);replace HS:=am (HS.out.grow hb);replace HD:=am (HD.out.grow hb);clear BPc BSc hb;have BPc:=zc8 BP.out;have BSc:=zc8 BS.out;refine ba9 (fuel:=3) (n:=2) [0,2] (by kernel_rfl) (fun N _ _ _ _ h=>by cases N <;> exact h) hHeld ?_
  iterate 2 (
   refine stillS_step (v:= ?_) (a':= ?_) rfl (Or.inl ⟨by rfl, ?_⟩) ?_ ?_;rotate_left
   ·rintro W s0
    have t0:=zc8 s0;clear s0;go_simp;with_reducible rfl
   rotate_left
   ·simp only [Act.put,sA,sZ,sS,i64_w]
    rfl)
  refine stillS_nil ?_;refine on9 (i:=1) (N:=some 21) rfl rfl (by kernel_rfl) (by decide) (fun K hK=> ?_);refine goes_ Try.func53 (by kernel_rfl) rfl #[.pointer (some ⟨g,0,none⟩)] (by rfl) rfl rfl (by (try simp only [List.map_toArray,List.map_cons,List.map_nil]);first | done | rfl) ?_;refine (l71Prog_calls _ _ g bs _ HD.out.rd HD.out.below HCD.out HD.out.pos (by have:=HQ.out;omega)).mono ?_;rintro e wp ⟨p2,vc2,vb2,q3,rfl,-,hpz2,-,hvc2,hvb2,hi2,hq3,hq4,hbl2,hk⟩;refine ⟨_,rfl, ?_⟩;obtain ⟨Ac2,cc2,ev⟩:=Kd.R_slice hvc2;subst ev;obtain ⟨Ab2,cb2,ev⟩:=Kd.R_slice hvb2;subst ev;refine hK.out _ _ (HD.out.blkK hk hHeld (by decide)) (fun hHeld=> ?_);clear hK K;refine norm_ (a':= ?_) ?_ ?_;rotate_left
  ·show Act.put _ (some 21) _=_
   simp only [Act.put,sA,sZ,sS,i64_w];rfl
  replace HS:=am (HS.out.keep hk);replace HD:=am (HD.out.next hi2 hbl2 hk (Int.le_trans HD.out.pos hq3));clear VC VB BP BS BPc BSc hk hi2 hbl2 hq3 hq4 HPZ;have VC:=am hvc2;have VB:=am hvb2;have HPZ:=am hpz2;clear hvc2 hvb2 hpz2;replace BZ:=am (zb8 BZ.out HD.out.below);replace BY:=am (zb8 BY.out HD.out.below);have HBW:=am (below_step HB.out HD.out.below);clear HD;refine on9 (i:=3) (N:=none) rfl rfl (by kernel_rfl) (by decide) (fun K hK=> ?_);obtain ⟨hbox,hg⟩:=setCells_blk (cs:= [.slice Ac2 p2.cells.length cc2,.slice Ab2 p2.bodies.length cb2]) BZ.out rfl;rw [if_pos (by rfl)];refine store_wp rfl 48 (.tmp 2) (.tmp 21) rfl rfl rfl BZ.out rfl (by kernel_rfl) (aB rfl) ?_;generalize World.setCells _ gz 0 [.slice Ac2 p2.cells.length cc2,.slice Ab2 p2.bodies.length cb2]=wy at hbox hg ⊢;have NSZ:gs ≠ gz:=fun he=>by have h1:=LBSo.out;have h2:=LZO.out;have h3:=LWF.out;omega
  refine hK.out _ _ (blk_grown hHeld hg (fun he=>NSZ (by injection he))) (fun hHeld=> ?_);clear hK K;have BZ_:=am hbox;replace VC:=am (R_grownT VC.out BZ.out (by decide) hg);replace VB:=am (R_grownT VB.out BZ.out (by decide) hg);replace BY:=am (blk_grown BY.out hg (fun he=>NZY.out (by injection he with he;exact he.symm)));replace HS:=am (HS.out.grown hg (fun z hz=>by cases hz;exact .inl (Nat.lt_of_lt_of_le LZO.out HBB.out)));replace HBW:=am (pw_below_grown HBW.out _ HBW.out.size hg (fun z hz=>by cases hz;exact LZ.out));clear hbox hg BZ NSZ;have BZ:=BZ_;clear BZ_;clear hHeld;refine tail_ (fuel:=1) 4 (by kernel_rfl) ?_;simp only [List.drop_succ_cons,List.drop_zero]
  go_wp2_with (first
  |((with_reducible refine gate_store (t:=27) (p:=3) rfl ?_);refine store_block rfl rfl 27 (.tmp 3) (.tmp 22) rfl rfl rfl BY.out rfl (by kernel_rfl) (aB rfl) ?_;intro wn hbox hg;have BY_:=am hbox;replace VC:=am (R_grownT VC.out BY.out (by decide) hg);replace VB:=am (R_grownT VB.out BY.out (by decide) hg);replace BZ:=am (blk_grown BZ.out hg (fun he=>NZY.out (by injection he)));replace HS:=am (HS.out.grown hg (fun z hz=>by cases hz;exact .inl (Nat.lt_of_lt_of_le LYO.out HBB.out)));replace HBW:=am (pw_below_grown HBW.out _ HBW.out.size hg (fun z hz=>by cases hz;exact LY.out));clear hbox hg BY;have BY:=BY_;clear BY_))
  refine bodyPost_ret (results_list (rs:= [.cell 2 48,.cell 3 27]) rfl (by simp) (.cell gz 48 #[.slice Ac2 p2.cells.length cc2,.slice Ab2 p2.bodies.length cb2] (0,0) _ rfl BZ.out Try.underlying48 rfl (by kernel_rfl) (.cell gy 27 #[.slice Y0 m0 j0,.slice Y1 m1 j1,.int .i64 yc,.slice Y3 m3 j3] (0,0) _ rfl BY.out Try.underlying27 rfl (by kernel_rfl) .nil))) rfl ?_;exact ⟨_,_,_,_,_,_,_,_,_,_,_,_,_,_,_,_,_,_,rfl,prog_K VC.out VB.out,HPZ.out,HS.out.now,HSZ.out,HLN.out.2.1,HLN.out.2.2,by have:=HLN.out.1;omega,HBW.out⟩
 ·have yx:((x:Int) == 0)=false:=by rw [beq_eq_false_iff_ne];exact hx0
  clear hx0;have HBB:=am (Nat.le_refl wo.heap.size);have HGN:=am (show gs < wo.heap.size\/wf.heap.size<=gs from .inr LBSo.out);have HQ_:=am (show 0<=q2/\q2<=8001+((0:Nat):Int) from by have:=HQ.out;omega);clear HQ;have HQ:=HQ_;clear HQ_;go_wp2;go_loopw [7] (fun i w'=>∃ k:Nat,k<=80/\i= .int .i64 k/\∃ (s1:Sys) (Y0:Option Addr) (m0 j0:Nat) (Y1:Option Addr) (m1 j1:Nat) (yc:Int) (Y3:Option Addr) (m3 j3:Nat) (B N:Nat) (q:Int),Aside0 (Held B N g s1 [.slice Y0 m0 j0,.slice Y1 m1 j1,.int .i64 yc,.slice Y3 m3 j3] w')/\Aside0 (wo.heap.size<=B)/\Aside0 (gs < B\/N<=gs)/\Aside0 (SysSz s1)/\Aside0 (s1.log.length<=1000+9*k/\1<=s1.tasks.length/\s1.tasks.length<=2000)/\Aside0 (w'.heap[gp]? = some (.cells #[.slice Ac lc cc,.slice Ab lb cb] 48 (0,0)))/\Aside0 (w'.heap[gs]? = some (.cells #[.slice Y0 m0 j0,.slice Y1 m1 j1,.int .i64 yc,.slice Y3 m3 j3] 27 (0,0)))/\Aside0 ((Kd.int .i64).R 3 w' wo.heap.size (fun _=>True) (.slice Ac lc cc) p.cells)/\Aside0 ((Kd.slice 108 kAct).R 104 w' wo.heap.size (fun _=>True) (.slice Ab lb cb) p.bodies)/\Aside0 (Rds _ wo g bs q w')/\Aside0 (0<=q/\q<=8001+(k:Int))) (fun i _=>81 - (intOf i).toNat)
  case atStart=>exact ⟨0,by omega,rfl,_,_,_,_,_,_,_,_,_,_,_,_,_,q2,HS,HBB,HGN,HSZ,HLN,BP,BS,VC,VB,HD,HQ⟩
  case round=>
   clear HS HBB HGN HSZ HLN BP BS VC VB HD HQ BPc BSc;obtain ⟨k,hk80,rfl,s1,Y0,m0,j0,Y1,m1,j1,yc,Y3,m3,j3,B,N,q,HS,HBB,HGN,HSZ,HLN,BP,BS,VC,VB,HD,HQ⟩:=hrel;have BPc:=zc8 BP.out;have BSc:=zc8 BS.out;have LGF:=am (show wo.heap.size<=wf.heap.size from LWF.out);by_cases hk9:(k:Int) < 80
   ·have yk:decide ((k:Int) < 80)=true:=decide_eq_true hk9
    by_cases hz:((heldIn s1.cells).length:Int)=0
    ·have yz:(((heldIn s1.cells).length:Int) == 0)=true:=by rw [beq_iff_eq];exact hz
     clear hz
     go_wp2_with (first
     |((with_reducible refine gate_dst (N:=26) rfl ?_);refine wpList_load_mid rfl 27 (.tmp 6) rfl gs 0 rfl _ _ (lC BS.out) Try.underlying27 rfl (by kernel_rfl) ?_)
     |(go_at_call 54;refine (specHeld_calls s1 _ _ HS.out.now HSZ.out.cells).mono ?_;rintro e wn ⟨v,rfl,hv,hb⟩;obtain ⟨Av,cv,ev,-,-⟩:=Kd.R_reads hv;subst ev;clear hv;replace VC:=am (Kd.R_below VC.out hb);replace VB:=am (Kd.R_below VB.out hb);replace BP:=am (zb8 BP.out hb);replace BS:=am (zb8 BS.out hb);replace HS:=am (HS.out.grow hb);replace HD:=am (HD.out.grow hb);clear BPc BSc hb;have BPc:=zc8 BP.out;have BSc:=zc8 BS.out))
     refine st9 (n:=12) (S:=fun W=>W.heap[gp]? = some (.cells #[.slice Ac lc cc,.slice Ab lb cb] 48 (0,0))/\W.heap[gs]? = some (.cells #[.slice Y0 m0 j0,.slice Y1 m1 j1,.int .i64 yc,.slice Y3 m3 j3] 27 (0,0))) (ds:= [10,11]) (by kernel_rfl) rfl ⟨blk_drew BP.out,blk_drew BS.out⟩ (fun hHeld=> ?_);have hb:=below_drew (Below.refl wn.heap.size wn);generalize wn.drew=w7 at hb hHeld ⊢;replace VC:=am (Kd.R_below VC.out hb);replace VB:=am (Kd.R_below VB.out hb);replace BP:=am (zb8 BP.out hb);replace BS:=am (zb8 BS.out hb);replace HS:=am (HS.out.grow hb);replace HD:=am (HD.out.grow hb);clear BPc BSc hb;have BPc:=zc8 BP.out;have BSc:=zc8 BS.out;refine ba9 (fuel:=9) (n:=3) [0,1,2] (by kernel_rfl) (fun N _ _ _ _ h=>by cases N <;> exact h) hHeld ?_
     iterate 3 (
      refine stillS_step (v:= ?_) (a':= ?_) rfl (Or.inl ⟨by rfl, ?_⟩) ?_ ?_;rotate_left
      ·rintro W ⟨s0,s9⟩
       have t0:=zc8 s0;have t1:=zc8 s9;clear s0 s9;go_simp;with_reducible rfl
      rotate_left
      ·simp only [Act.put,sA,sZ,sS,i64_w]
       rfl)
     refine stillS_nil ?_;refine tw9 (i:=3) (j:=9) (Ni:=some 37) (Nj:=some 8) rfl rfl rfl rfl (by kernel_rfl) (by decide) (by decide) (fun K hK=> ?_) (fun K hK=> ?_)
     ·refine goes_ Try.func49 (by kernel_rfl) rfl #[.pointer (some ⟨g,0,none⟩),.int .i64 7] (by rfl) rfl rfl (by (try simp only [List.map_toArray,List.map_cons,List.map_nil]);first | done | rfl) ?_
      refine (pick_rds HD.out HCD.out (by have:=HQ.out;omega) 7).mono ?_;rintro e wn ⟨z,q2,rfl,-,hq2,hd,hk⟩;refine ⟨_,rfl, ?_⟩;refine hK.out _ _ ⟨HD.out.blkK hk hHeld.1 (by decide),HD.out.blkK hk hHeld.2 (by decide)⟩ (fun hHeld=> ?_);clear hK K;refine norm_ (a':= ?_) ?_ ?_;rotate_left
      ·show Act.put _ (some 37) _=_
       simp only [Act.put,sA,sZ,sS,i64_w];rfl
      replace HQ:=am (show 0<=q2/\q2<=8001+(k:Int)+1 from by have:=HQ.out;omega);clear hq2;replace VC:=am (HD.out.rowK hk VC.out (by decide));replace VB:=am (HD.out.rowK hk VB.out (by decide));replace BP:=am (HD.out.blkK hk BP.out (by decide));replace BS:=am (HD.out.blkK hk BS.out (by decide));replace HS:=am (HS.out.keep hk);replace HD:=am hd;clear hk hd BPc BSc;have BPc:=zc8 BP.out;have BSc:=zc8 BS.out;refine tw9 (i:=4) (j:=9) (Ni:=some 38) (Nj:=some 8) rfl rfl rfl rfl (by kernel_rfl) (by decide) (by decide) (fun K hK=> ?_) (fun K hK=> ?_)
      ·refine Kd.R_lit_step (w0:=_) (Kd.int .i64) wo.heap.size 3 (by rfl) (N:=38) rfl (xs:=([(z:Int)]:List Int)) (inner:= [.int .i64 z]) (ok:=(fun _=>True)) (okp:=(fun _=>True)) (by go_simp<;>rfl) (Reps.one rfl (Reps.none _ _)) (fun _ _=>trivial) trivial (Below.refl _ _) HD.out.size (by simp) ?_
       intro v1 wl hv1 hb1 hg hx9;clear hb1 hx9;obtain ⟨Ak,ck,ev⟩:=Kd.R_slice hv1;subst ev;refine hK.out _ _ ⟨zb8 hHeld.1 (grown_below hg),zb8 hHeld.2 (grown_below hg)⟩ (fun hHeld=> ?_);clear hK K;refine norm_ (a':= ?_) ?_ ?_;rotate_left
       ·show Act.put _ (some 38) _=_
        simp only [Act.put,sA,sZ,sS,i64_w];rfl
       have hb:=grown_below hg;clear hg;replace VC:=am (Kd.R_below VC.out hb);replace VB:=am (Kd.R_below VB.out hb);replace BP:=am (zb8 BP.out hb);replace BS:=am (zb8 BS.out hb);replace HS:=am (HS.out.grow hb);replace HD:=am (HD.out.grow hb);clear BPc BSc hb;have BPc:=zc8 BP.out;have BSc:=zc8 BS.out;have KS:=am (Kd.R_reads' hv1).2.2;clear hv1;refine tw9 (i:=5) (j:=9) (Ni:=some 39) (Nj:=some 8) rfl rfl rfl rfl (by kernel_rfl) (by decide) (by decide) (fun K hK=> ?_) (fun K hK=> ?_)
       ·refine goes_ Try.func55 (by kernel_rfl) rfl #[.agg #[.slice Ac lc cc,.slice Ab lb cb],.agg #[.slice Y0 m0 j0,.slice Y1 m1 j1,.int .i64 yc,.slice Y3 m3 j3],.slice Ak [(z:Int)].length ck] (by rfl) rfl rfl (by (try simp only [List.map_toArray,List.map_cons,List.map_nil]);first | done | rfl) ?_
        refine (run_held p _ s1 _ [(z:Int)] Ak ck g _ (prog_K VC.out VB.out) HS.out.now HPZ.out HSZ.out (by have:=HLN.out;omega) KS.out (Nat.lt_of_lt_of_le HD.out.lt HD.out.size)).mono ?_;rintro e wc ⟨bb,X0,X1,X3,n0,k0,n1,k1,n3,k3,zc,rfl,hb,hx⟩;refine ⟨_,rfl, ?_⟩;refine hK.out _ _ ⟨zb8 hHeld.1 hb,zb8 hHeld.2 hb⟩ (fun hHeld=> ?_);clear hK K;refine norm_ (a':= ?_) ?_ ?_;rotate_left
        ·show Act.put _ (some 39) _=_
         simp only [Act.put,sA,sZ,sS,i64_w];rfl
        have hbs:=blk_lt BS.out;have hws:=HD.out.size;have XR:=am (show bb=true->sysOk p s1=true/\∃ B1 N1,Held B1 N1 g (turns p s1 [(z:Int)]) [.slice X0 n0 k0,.slice X1 n1 k1,.int .i64 zc,.slice X3 n3 k3] wc/\wo.heap.size<=B1/\gs < B1 from fun h=>⟨(hx h).1,_,_,(hx h).2,hws,hbs⟩);clear hx hbs hws KS;replace VC:=am (Kd.R_below VC.out hb);replace VB:=am (Kd.R_below VB.out hb);replace BP:=am (zb8 BP.out hb);replace BS:=am (zb8 BS.out hb);replace HS:=am (HS.out.grow hb);replace HD:=am (HD.out.grow hb);clear BPc BSc hb;have BPc:=zc8 BP.out;have BSc:=zc8 BS.out;refine ba9 (fuel:=4) (n:=2) [6,7] (by kernel_rfl) (fun N _ _ _ _ h=>by cases N <;> exact h) hHeld ?_
        iterate 2 (
         refine stillS_step (v:= ?_) (a':= ?_) rfl (Or.inl ⟨by rfl, ?_⟩) ?_ ?_;rotate_left
         ·intro W s0
          go_simp
          with_reducible rfl
         rotate_left
         ·simp only [Act.put,sA,sZ,sS,i64_w]
          rfl)
        refine stillS_nil ?_;refine pure_ (i:=8) (N:=some 41) (v:=.bool bb) (a':= ?_) #[true,true,true,true,true,true,true,true,true,false,false,false] rfl rfl (by kernel_rfl) (fun _ _ _ h=>h) (Or.inl ⟨by rfl,fun W=>by go_simp<;>rfl⟩) ?_ ?_;rotate_left
        ·simp only [Act.put,sA,sZ,sS,i64_w]
         rfl
        refine on9 (i:=9) (N:=some 8) rfl rfl (by kernel_rfl) (by decide) (fun K hK=> ?_);refine box_step (t:=27) (cs:=#[.slice none 0 0,.slice none 0 0,.int .i64 0,.slice none 0 0]) (by rfl) rfl (by intro W;first|(go_simp;done)|(go_simp;rfl)) ?_;intro g8 hg8 wb hbox hb;refine hK.out _ _ ⟨zb8 hHeld.1 hb,zb8 hHeld.2 hb⟩ (fun hHeld=> ?_);clear hK K;refine norm_ (a':= ?_) ?_ ?_;rotate_left
        ·show Act.put _ (some 8) _=_
         simp only [Act.put,sA,sZ,sS,i64_w];rfl
        replace XR:=am (show bb=true->sysOk p s1=true/\∃ B1 N1,Held B1 N1 g (turns p s1 [(z:Int)]) [.slice X0 n0 k0,.slice X1 n1 k1,.int .i64 zc,.slice X3 n3 k3] wb/\wo.heap.size<=B1/\gs < B1/\(g8 < B1\/N1<=g8) from fun h=>by obtain ⟨h1,B1,N1,h2,h3,h4⟩:=XR.out h;exact ⟨h1,B1,N1,h2.grow hb,h3,h4,.inr (by have:=h2.size;omega)⟩);have N8S:=am (show gs ≠ g8 from fun he=>by have:=blk_lt BS.out;omega);have N8P:=am (show gp ≠ g8 from fun he=>by have:=blk_lt BP.out;omega);have L8:=am (show wo.heap.size<=g8 by have:=HD.out.size;omega);have H8:=am (show N<=g8 by have:=HS.out.size;omega);have B8:=am hbox;clear hbox hg8;replace VC:=am (Kd.R_below VC.out hb);replace VB:=am (Kd.R_below VB.out hb);replace BP:=am (zb8 BP.out hb);replace BS:=am (zb8 BS.out hb);replace HS:=am (HS.out.grow hb);replace HD:=am (HD.out.grow hb);clear BPc BSc hb;have BPc:=zc8 BP.out;have BSc:=zc8 BS.out;have B8c:=zc8 B8.out;clear hHeld;refine tail_ (fuel:=2) 10 (by kernel_rfl) ?_;simp only [List.drop_succ_cons,List.drop_zero]
        cases bb with
        | false=>
         clear XR
         go_wp2_with (first
         |((with_reducible refine gate_store (t:=27) (p:=8) rfl ?_);refine store_block rfl rfl 27 (.tmp 8) (.tmp 40) rfl rfl rfl B8.out rfl (by kernel_rfl) (aB rfl) ?_;intro wn hbox hg;have B8_:=am hbox;replace VC:=am (R_grownT VC.out B8.out (by decide) hg);replace VB:=am (R_grownT VB.out B8.out (by decide) hg);replace BP:=am (blk_grown BP.out hg (fun he=>N8P.out (by injection he)));replace BS:=am (blk_grown BS.out hg (fun he=>N8S.out (by injection he)));replace HS:=am (HS.out.grown hg (fun q hq=>by cases hq;exact .inr H8.out));replace HD:=am (HD.out.grown hg (fun q hq=>by cases hq;exact L8.out));clear hbox hg B8 B8c BPc BSc;have B8:=B8_;clear B8_;have B8c:=zc8 B8.out;have BPc:=zc8 BP.out;have BSc:=zc8 BS.out))
         go_roundw
         case rel=>exact ⟨k+1,by omega,by go_num,s1,Y0,m0,j0,Y1,m1,j1,yc,Y3,m3,j3,B,N,_,HS,HBB,HGN,HSZ,⟨by have:=HLN.out;omega⟩,BP,BS,VC,VB,HD,⟨by have:=HQ.out;omega⟩⟩
         case measure=>simp [intOf];omega
        | true=>
         have LSO:=am (show wo.heap.size<=gs from Nat.le_trans LWF.out LBSo.out)
         go_wp2_with (first
         |((with_reducible refine gate_store (t:=27) (p:=8) rfl ?_);refine store_block rfl rfl 27 (.tmp 8) (.tmp 40) rfl rfl rfl B8.out rfl (by kernel_rfl) (aB rfl) ?_;intro wn hbox hg;have B8_:=am hbox;replace XR:=am (show true=true->sysOk p s1=true/\∃ B1 N1,Held B1 N1 g (turns p s1 [(z:Int)]) [.slice X0 n0 k0,.slice X1 n1 k1,.int .i64 zc,.slice X3 n3 k3] wn/\wo.heap.size<=B1/\gs < B1/\(g8 < B1\/N1<=g8) from fun h=>by obtain ⟨h1,B1,N1,h2,h3,h4,h5⟩:=XR.out h;exact ⟨h1,B1,N1,h2.grown hg (fun q hq=>by cases hq;exact h5),h3,h4,h5⟩);replace VC:=am (R_grownT VC.out B8.out (by decide) hg);replace VB:=am (R_grownT VB.out B8.out (by decide) hg);replace BP:=am (blk_grown BP.out hg (fun he=>N8P.out (by injection he)));replace BS:=am (blk_grown BS.out hg (fun he=>N8S.out (by injection he)));replace HS:=am (HS.out.grown hg (fun q hq=>by cases hq;exact .inr H8.out));replace HD:=am (HD.out.grown hg (fun q hq=>by cases hq;exact L8.out));clear hbox hg B8 B8c BPc BSc;have B8:=B8_;clear B8_;have B8c:=zc8 B8.out;have BPc:=zc8 BP.out;have BSc:=zc8 BS.out)
         |((with_reducible refine gate_dst (N:=43) rfl ?_);refine wpList_load_mid rfl 27 (.tmp 8) rfl g8 0 rfl _ _ (lC B8.out) Try.underlying27 rfl (by kernel_rfl) ?_)
         |((with_reducible refine gate_store (t:=27) (p:=6) rfl ?_);refine store_block rfl rfl 27 (.tmp 6) (.tmp 43) rfl rfl rfl BS.out rfl (by kernel_rfl) (aB rfl) ?_;intro wn hbox hg;have BS_:=am hbox;replace XR:=am (show true=true->sysOk p s1=true/\∃ B1 N1,Held B1 N1 g (turns p s1 [(z:Int)]) [.slice X0 n0 k0,.slice X1 n1 k1,.int .i64 zc,.slice X3 n3 k3] wn/\wo.heap.size<=B1/\gs < B1/\(g8 < B1\/N1<=g8) from fun h=>by obtain ⟨h1,B1,N1,h2,h3,h4,h5⟩:=XR.out h;exact ⟨h1,B1,N1,h2.grown hg (fun q hq=>by cases hq;exact .inl h4),h3,h4,h5⟩);replace VC:=am (R_grownT VC.out BS.out (by decide) hg);replace VB:=am (R_grownT VB.out BS.out (by decide) hg);replace BP:=am (blk_grown BP.out hg (fun he=>NBPBS.out (by injection he)));replace HD:=am (HD.out.grown hg (fun q hq=>by cases hq;exact LSO.out));clear hbox hg B8 B8c BS BPc BSc HS;have BS:=BS_;clear BS_;have BPc:=zc8 BP.out;have BSc:=zc8 BS.out))
         obtain ⟨ho,B1,N1,hx1,hx2,hx3,-⟩:=XR.out rfl;obtain ⟨t1,t2,t3,t4⟩:=turn_sz (k:=(z:Int)) ho HLN.out.1 (by omega);have TS:=am t1;have TL9:=am (show (turns p s1 [(z:Int)]).log.length<=1000+9*(k+1)/\1<=(turns p s1 [(z:Int)]).tasks.length/\(turns p s1 [(z:Int)]).tasks.length<=2000 by omega);have HX:=am hx1;have HX2:=am hx2;have HX3:=am (show gs < B1\/N1<=gs from .inl hx3);clear t1 t2 t3 t4 hx1 hx2 hx3 ho;go_roundw
         case rel=>exact ⟨k+1,by omega,by go_num,_,X0,n0,k0,X1,n1,k1,zc,X3,n3,k3,B1,N1,_,HX,HX2,HX3,TS,TL9,BP,BS,VC,VB,HD,⟨by have:=HQ.out;omega⟩⟩
         case measure=>simp [intOf];omega
       ·refine box_step (t:=27) (cs:=#[.slice none 0 0,.slice none 0 0,.int .i64 0,.slice none 0 0]) (by rfl) rfl (by intro W;first|(go_simp;done)|(go_simp;rfl)) ?_
        intro g8 hg8 wb hbox hb;refine hK.out _ _ ⟨zb8 hHeld.1 hb,zb8 hHeld.2 hb⟩ (fun hHeld=> ?_);clear hK K;refine norm_ (a':= ?_) ?_ ?_;rotate_left
        ·show Act.put _ (some 8) _=_
         simp only [Act.put,sA,sZ,sS,i64_w];rfl
        have N8S:=am (show gs ≠ g8 from fun he=>by have:=blk_lt BS.out;omega);have N8P:=am (show gp ≠ g8 from fun he=>by have:=blk_lt BP.out;omega);have L8:=am (show wo.heap.size<=g8 by have:=HD.out.size;omega);have H8:=am (show N<=g8 by have:=HS.out.size;omega);have B8:=am hbox;clear hbox hg8;replace VC:=am (Kd.R_below VC.out hb);replace VB:=am (Kd.R_below VB.out hb);replace BP:=am (zb8 BP.out hb);replace BS:=am (zb8 BS.out hb);replace HS:=am (HS.out.grow hb);replace HD:=am (HD.out.grow hb);replace KS:=am (Kd.C_below KS.out hb);clear BPc BSc hb;have BPc:=zc8 BP.out;have BSc:=zc8 BS.out;have B8c:=zc8 B8.out;refine on9 (i:=5) (N:=some 39) rfl rfl (by kernel_rfl) (by decide) (fun K hK=> ?_);refine goes_ Try.func55 (by kernel_rfl) rfl #[.agg #[.slice Ac lc cc,.slice Ab lb cb],.agg #[.slice Y0 m0 j0,.slice Y1 m1 j1,.int .i64 yc,.slice Y3 m3 j3],.slice Ak [(z:Int)].length ck] (by rfl) rfl rfl (by (try simp only [List.map_toArray,List.map_cons,List.map_nil]);first | done | rfl) ?_;refine (run_held p _ s1 _ [(z:Int)] Ak ck g _ (prog_K VC.out VB.out) HS.out.now HPZ.out HSZ.out (by have:=HLN.out;omega) KS.out (Nat.lt_of_lt_of_le HD.out.lt HD.out.size)).mono ?_;rintro e wc ⟨bb,X0,X1,X3,n0,k0,n1,k1,n3,k3,zc,rfl,hb,hx⟩;refine ⟨_,rfl, ?_⟩;refine hK.out _ _ ⟨zb8 hHeld.1 hb,zb8 hHeld.2 hb⟩ (fun hHeld=> ?_);clear hK K;refine norm_ (a':= ?_) ?_ ?_;rotate_left
        ·show Act.put _ (some 39) _=_
         simp only [Act.put,sA,sZ,sS,i64_w];rfl
        have hbs:=blk_lt BS.out;have hws:=HD.out.size;have XR:=am (show bb=true->sysOk p s1=true/\∃ B1 N1,Held B1 N1 g (turns p s1 [(z:Int)]) [.slice X0 n0 k0,.slice X1 n1 k1,.int .i64 zc,.slice X3 n3 k3] wc/\wo.heap.size<=B1/\gs < B1/\g8 < B1 from fun h=>⟨(hx h).1,_,_,(hx h).2,hws,hbs,blk_lt B8.out⟩);clear hx hbs hws KS;replace VC:=am (Kd.R_below VC.out hb);replace VB:=am (Kd.R_below VB.out hb);replace BP:=am (zb8 BP.out hb);replace BS:=am (zb8 BS.out hb);replace HS:=am (HS.out.grow hb);replace HD:=am (HD.out.grow hb);replace B8:=am (zb8 B8.out hb);clear BPc BSc B8c hb;have BPc:=zc8 BP.out;have BSc:=zc8 BS.out;have B8c:=zc8 B8.out;replace XR:=am (show bb=true->sysOk p s1=true/\∃ B1 N1,Held B1 N1 g (turns p s1 [(z:Int)]) [.slice X0 n0 k0,.slice X1 n1 k1,.int .i64 zc,.slice X3 n3 k3] wc/\wo.heap.size<=B1/\gs < B1/\(g8 < B1\/N1<=g8) from fun h=>by obtain ⟨h1,B1,N1,h2,h3,h4,h5⟩:=XR.out h;exact ⟨h1,B1,N1,h2,h3,h4,.inl h5⟩);refine ba9 (fuel:=3) (n:=2) [6,7] (by kernel_rfl) (fun N _ _ _ _ h=>by cases N <;> exact h) hHeld ?_
        iterate 2 (
         refine stillS_step (v:= ?_) (a':= ?_) rfl (Or.inl ⟨by rfl, ?_⟩) ?_ ?_;rotate_left
         ·intro W s0
          go_simp
          with_reducible rfl
         rotate_left
         ·simp only [Act.put,sA,sZ,sS,i64_w]
          rfl)
        refine stillS_nil ?_;refine pure_ (i:=8) (N:=some 41) (v:=.bool bb) (a':= ?_) #[true,true,true,true,true,true,true,true,true,true,false,false] rfl rfl (by kernel_rfl) (fun _ _ _ h=>h) (Or.inl ⟨by rfl,fun W=>by go_simp<;>rfl⟩) ?_ ?_;rotate_left
        ·simp only [Act.put,sA,sZ,sS,i64_w]
         rfl
        clear hHeld;refine tail_ (fuel:=2) 10 (by kernel_rfl) ?_;simp only [List.drop_succ_cons,List.drop_zero]
        cases bb with
        | false=>
         clear XR
         go_wp2_with (first
         |((with_reducible refine gate_store (t:=27) (p:=8) rfl ?_);refine store_block rfl rfl 27 (.tmp 8) (.tmp 40) rfl rfl rfl B8.out rfl (by kernel_rfl) (aB rfl) ?_;intro wn hbox hg;have B8_:=am hbox;replace VC:=am (R_grownT VC.out B8.out (by decide) hg);replace VB:=am (R_grownT VB.out B8.out (by decide) hg);replace BP:=am (blk_grown BP.out hg (fun he=>N8P.out (by injection he)));replace BS:=am (blk_grown BS.out hg (fun he=>N8S.out (by injection he)));replace HS:=am (HS.out.grown hg (fun q hq=>by cases hq;exact .inr H8.out));replace HD:=am (HD.out.grown hg (fun q hq=>by cases hq;exact L8.out));clear hbox hg B8 B8c BPc BSc;have B8:=B8_;clear B8_;have B8c:=zc8 B8.out;have BPc:=zc8 BP.out;have BSc:=zc8 BS.out))
         go_roundw
         case rel=>exact ⟨k+1,by omega,by go_num,s1,Y0,m0,j0,Y1,m1,j1,yc,Y3,m3,j3,B,N,_,HS,HBB,HGN,HSZ,⟨by have:=HLN.out;omega⟩,BP,BS,VC,VB,HD,⟨by have:=HQ.out;omega⟩⟩
         case measure=>simp [intOf];omega
        | true=>
         have LSO:=am (show wo.heap.size<=gs from Nat.le_trans LWF.out LBSo.out)
         go_wp2_with (first
         |((with_reducible refine gate_store (t:=27) (p:=8) rfl ?_);refine store_block rfl rfl 27 (.tmp 8) (.tmp 40) rfl rfl rfl B8.out rfl (by kernel_rfl) (aB rfl) ?_;intro wn hbox hg;have B8_:=am hbox;replace XR:=am (show true=true->sysOk p s1=true/\∃ B1 N1,Held B1 N1 g (turns p s1 [(z:Int)]) [.slice X0 n0 k0,.slice X1 n1 k1,.int .i64 zc,.slice X3 n3 k3] wn/\wo.heap.size<=B1/\gs < B1/\(g8 < B1\/N1<=g8) from fun h=>by obtain ⟨h1,B1,N1,h2,h3,h4,h5⟩:=XR.out h;exact ⟨h1,B1,N1,h2.grown hg (fun q hq=>by cases hq;exact h5),h3,h4,h5⟩);replace VC:=am (R_grownT VC.out B8.out (by decide) hg);replace VB:=am (R_grownT VB.out B8.out (by decide) hg);replace BP:=am (blk_grown BP.out hg (fun he=>N8P.out (by injection he)));replace BS:=am (blk_grown BS.out hg (fun he=>N8S.out (by injection he)));replace HS:=am (HS.out.grown hg (fun q hq=>by cases hq;exact .inr H8.out));replace HD:=am (HD.out.grown hg (fun q hq=>by cases hq;exact L8.out));clear hbox hg B8 B8c BPc BSc;have B8:=B8_;clear B8_;have B8c:=zc8 B8.out;have BPc:=zc8 BP.out;have BSc:=zc8 BS.out)
         |((with_reducible refine gate_dst (N:=43) rfl ?_);refine wpList_load_mid rfl 27 (.tmp 8) rfl g8 0 rfl _ _ (lC B8.out) Try.underlying27 rfl (by kernel_rfl) ?_)
         |((with_reducible refine gate_store (t:=27) (p:=6) rfl ?_);refine store_block rfl rfl 27 (.tmp 6) (.tmp 43) rfl rfl rfl BS.out rfl (by kernel_rfl) (aB rfl) ?_;intro wn hbox hg;have BS_:=am hbox;replace XR:=am (show true=true->sysOk p s1=true/\∃ B1 N1,Held B1 N1 g (turns p s1 [(z:Int)]) [.slice X0 n0 k0,.slice X1 n1 k1,.int .i64 zc,.slice X3 n3 k3] wn/\wo.heap.size<=B1/\gs < B1/\(g8 < B1\/N1<=g8) from fun h=>by obtain ⟨h1,B1,N1,h2,h3,h4,h5⟩:=XR.out h;exact ⟨h1,B1,N1,h2.grown hg (fun q hq=>by cases hq;exact .inl h4),h3,h4,h5⟩);replace VC:=am (R_grownT VC.out BS.out (by decide) hg);replace VB:=am (R_grownT VB.out BS.out (by decide) hg);replace BP:=am (blk_grown BP.out hg (fun he=>NBPBS.out (by injection he)));replace HD:=am (HD.out.grown hg (fun q hq=>by cases hq;exact LSO.out));clear hbox hg B8 B8c BS BPc BSc HS;have BS:=BS_;clear BS_;have BPc:=zc8 BP.out;have BSc:=zc8 BS.out))
         obtain ⟨ho,B1,N1,hx1,hx2,hx3,-⟩:=XR.out rfl;obtain ⟨t1,t2,t3,t4⟩:=turn_sz (k:=(z:Int)) ho HLN.out.1 (by omega);have TS:=am t1;have TL9:=am (show (turns p s1 [(z:Int)]).log.length<=1000+9*(k+1)/\1<=(turns p s1 [(z:Int)]).tasks.length/\(turns p s1 [(z:Int)]).tasks.length<=2000 by omega);have HX:=am hx1;have HX2:=am hx2;have HX3:=am (show gs < B1\/N1<=gs from .inl hx3);clear t1 t2 t3 t4 hx1 hx2 hx3 ho;go_roundw
         case rel=>exact ⟨k+1,by omega,by go_num,_,X0,n0,k0,X1,n1,k1,zc,X3,n3,k3,B1,N1,_,HX,HX2,HX3,TS,TL9,BP,BS,VC,VB,HD,⟨by have:=HQ.out;omega⟩⟩
         case measure=>simp [intOf];omega
      ·refine box_step (t:=27) (cs:=#[.slice none 0 0,.slice none 0 0,.int .i64 0,.slice none 0 0]) (by rfl) rfl (by intro W;first|(go_simp;done)|(go_simp;rfl)) ?_
       intro g8 hg8 wb hbox hb;refine hK.out _ _ ⟨zb8 hHeld.1 hb,zb8 hHeld.2 hb⟩ (fun hHeld=> ?_);clear hK K;refine norm_ (a':= ?_) ?_ ?_;rotate_left
       ·show Act.put _ (some 8) _=_
        simp only [Act.put,sA,sZ,sS,i64_w];rfl
       have N8S:=am (show gs ≠ g8 from fun he=>by have:=blk_lt BS.out;omega);have N8P:=am (show gp ≠ g8 from fun he=>by have:=blk_lt BP.out;omega);have L8:=am (show wo.heap.size<=g8 by have:=HD.out.size;omega);have H8:=am (show N<=g8 by have:=HS.out.size;omega);have B8:=am hbox;clear hbox hg8;replace VC:=am (Kd.R_below VC.out hb);replace VB:=am (Kd.R_below VB.out hb);replace BP:=am (zb8 BP.out hb);replace BS:=am (zb8 BS.out hb);replace HS:=am (HS.out.grow hb);replace HD:=am (HD.out.grow hb);clear BPc BSc hb;have BPc:=zc8 BP.out;have BSc:=zc8 BS.out;have B8c:=zc8 B8.out;refine on9 (i:=4) (N:=some 38) rfl rfl (by kernel_rfl) (by decide) (fun K hK=> ?_);refine Kd.R_lit_step (w0:=_) (Kd.int .i64) wo.heap.size 3 (by rfl) (N:=38) rfl (xs:=([(z:Int)]:List Int)) (inner:= [.int .i64 z]) (ok:=(fun _=>True)) (okp:=(fun _=>True)) (by go_simp<;>rfl) (Reps.one rfl (Reps.none _ _)) (fun _ _=>trivial) trivial (Below.refl _ _) HD.out.size (by simp) ?_;intro v1 wl hv1 hb1 hg hx9;clear hb1 hx9;obtain ⟨Ak,ck,ev⟩:=Kd.R_slice hv1;subst ev;refine hK.out _ _ ⟨zb8 hHeld.1 (grown_below hg),zb8 hHeld.2 (grown_below hg)⟩ (fun hHeld=> ?_);clear hK K;refine norm_ (a':= ?_) ?_ ?_;rotate_left
       ·show Act.put _ (some 38) _=_
        simp only [Act.put,sA,sZ,sS,i64_w];rfl
       have hb:=grown_below hg;clear hg;replace VC:=am (Kd.R_below VC.out hb);replace VB:=am (Kd.R_below VB.out hb);replace BP:=am (zb8 BP.out hb);replace BS:=am (zb8 BS.out hb);replace HS:=am (HS.out.grow hb);replace HD:=am (HD.out.grow hb);replace B8:=am (zb8 B8.out hb);clear BPc BSc B8c hb;have BPc:=zc8 BP.out;have BSc:=zc8 BS.out;have B8c:=zc8 B8.out;have KS:=am (Kd.R_reads' hv1).2.2;clear hv1;refine on9 (i:=5) (N:=some 39) rfl rfl (by kernel_rfl) (by decide) (fun K hK=> ?_);refine goes_ Try.func55 (by kernel_rfl) rfl #[.agg #[.slice Ac lc cc,.slice Ab lb cb],.agg #[.slice Y0 m0 j0,.slice Y1 m1 j1,.int .i64 yc,.slice Y3 m3 j3],.slice Ak [(z:Int)].length ck] (by rfl) rfl rfl (by (try simp only [List.map_toArray,List.map_cons,List.map_nil]);first | done | rfl) ?_;refine (run_held p _ s1 _ [(z:Int)] Ak ck g _ (prog_K VC.out VB.out) HS.out.now HPZ.out HSZ.out (by have:=HLN.out;omega) KS.out (Nat.lt_of_lt_of_le HD.out.lt HD.out.size)).mono ?_;rintro e wc ⟨bb,X0,X1,X3,n0,k0,n1,k1,n3,k3,zc,rfl,hb,hx⟩;refine ⟨_,rfl, ?_⟩;refine hK.out _ _ ⟨zb8 hHeld.1 hb,zb8 hHeld.2 hb⟩ (fun hHeld=> ?_);clear hK K;refine norm_ (a':= ?_) ?_ ?_;rotate_left
       ·show Act.put _ (some 39) _=_
        simp only [Act.put,sA,sZ,sS,i64_w];rfl
       have hbs:=blk_lt BS.out;have hws:=HD.out.size;have XR:=am (show bb=true->sysOk p s1=true/\∃ B1 N1,Held B1 N1 g (turns p s1 [(z:Int)]) [.slice X0 n0 k0,.slice X1 n1 k1,.int .i64 zc,.slice X3 n3 k3] wc/\wo.heap.size<=B1/\gs < B1/\g8 < B1 from fun h=>⟨(hx h).1,_,_,(hx h).2,hws,hbs,blk_lt B8.out⟩);clear hx hbs hws KS;replace VC:=am (Kd.R_below VC.out hb);replace VB:=am (Kd.R_below VB.out hb);replace BP:=am (zb8 BP.out hb);replace BS:=am (zb8 BS.out hb);replace HS:=am (HS.out.grow hb);replace HD:=am (HD.out.grow hb);replace B8:=am (zb8 B8.out hb);clear BPc BSc B8c hb;have BPc:=zc8 BP.out;have BSc:=zc8 BS.out;have B8c:=zc8 B8.out;replace XR:=am (show bb=true->sysOk p s1=true/\∃ B1 N1,Held B1 N1 g (turns p s1 [(z:Int)]) [.slice X0 n0 k0,.slice X1 n1 k1,.int .i64 zc,.slice X3 n3 k3] wc/\wo.heap.size<=B1/\gs < B1/\(g8 < B1\/N1<=g8) from fun h=>by obtain ⟨h1,B1,N1,h2,h3,h4,h5⟩:=XR.out h;exact ⟨h1,B1,N1,h2,h3,h4,.inl h5⟩);refine ba9 (fuel:=3) (n:=2) [6,7] (by kernel_rfl) (fun N _ _ _ _ h=>by cases N <;> exact h) hHeld ?_
       iterate 2 (
        refine stillS_step (v:= ?_) (a':= ?_) rfl (Or.inl ⟨by rfl, ?_⟩) ?_ ?_;rotate_left
        ·intro W s0
         go_simp
         with_reducible rfl
        rotate_left
        ·simp only [Act.put,sA,sZ,sS,i64_w]
         rfl)
       refine stillS_nil ?_;refine pure_ (i:=8) (N:=some 41) (v:=.bool bb) (a':= ?_) #[true,true,true,true,true,true,true,true,true,true,false,false] rfl rfl (by kernel_rfl) (fun _ _ _ h=>h) (Or.inl ⟨by rfl,fun W=>by go_simp<;>rfl⟩) ?_ ?_;rotate_left
       ·simp only [Act.put,sA,sZ,sS,i64_w]
        rfl
       clear hHeld;refine tail_ (fuel:=2) 10 (by kernel_rfl) ?_;simp only [List.drop_succ_cons,List.drop_zero]
       cases bb with
       | false=>
        clear XR
        go_wp2_with (first
        |((with_reducible refine gate_store (t:=27) (p:=8) rfl ?_);refine store_block rfl rfl 27 (.tmp 8) (.tmp 40) rfl rfl rfl B8.out rfl (by kernel_rfl) (aB rfl) ?_;intro wn hbox hg;have B8_:=am hbox;replace VC:=am (R_grownT VC.out B8.out (by decide) hg);replace VB:=am (R_grownT VB.out B8.out (by decide) hg);replace BP:=am (blk_grown BP.out hg (fun he=>N8P.out (by injection he)));replace BS:=am (blk_grown BS.out hg (fun he=>N8S.out (by injection he)));replace HS:=am (HS.out.grown hg (fun q hq=>by cases hq;exact .inr H8.out));replace HD:=am (HD.out.grown hg (fun q hq=>by cases hq;exact L8.out));clear hbox hg B8 B8c BPc BSc;have B8:=B8_;clear B8_;have B8c:=zc8 B8.out;have BPc:=zc8 BP.out;have BSc:=zc8 BS.out))
        go_roundw
        case rel=>exact ⟨k+1,by omega,by go_num,s1,Y0,m0,j0,Y1,m1,j1,yc,Y3,m3,j3,B,N,_,HS,HBB,HGN,HSZ,⟨by have:=HLN.out;omega⟩,BP,BS,VC,VB,HD,⟨by have:=HQ.out;omega⟩⟩
        case measure=>simp [intOf];omega
       | true=>
        have LSO:=am (show wo.heap.size<=gs from Nat.le_trans LWF.out LBSo.out)
        go_wp2_with (first
        |((with_reducible refine gate_store (t:=27) (p:=8) rfl ?_);refine store_block rfl rfl 27 (.tmp 8) (.tmp 40) rfl rfl rfl B8.out rfl (by kernel_rfl) (aB rfl) ?_;intro wn hbox hg;have B8_:=am hbox;replace XR:=am (show true=true->sysOk p s1=true/\∃ B1 N1,Held B1 N1 g (turns p s1 [(z:Int)]) [.slice X0 n0 k0,.slice X1 n1 k1,.int .i64 zc,.slice X3 n3 k3] wn/\wo.heap.size<=B1/\gs < B1/\(g8 < B1\/N1<=g8) from fun h=>by obtain ⟨h1,B1,N1,h2,h3,h4,h5⟩:=XR.out h;exact ⟨h1,B1,N1,h2.grown hg (fun q hq=>by cases hq;exact h5),h3,h4,h5⟩);replace VC:=am (R_grownT VC.out B8.out (by decide) hg);replace VB:=am (R_grownT VB.out B8.out (by decide) hg);replace BP:=am (blk_grown BP.out hg (fun he=>N8P.out (by injection he)));replace BS:=am (blk_grown BS.out hg (fun he=>N8S.out (by injection he)));replace HS:=am (HS.out.grown hg (fun q hq=>by cases hq;exact .inr H8.out));replace HD:=am (HD.out.grown hg (fun q hq=>by cases hq;exact L8.out));clear hbox hg B8 B8c BPc BSc;have B8:=B8_;clear B8_;have B8c:=zc8 B8.out;have BPc:=zc8 BP.out;have BSc:=zc8 BS.out)
        |((with_reducible refine gate_dst (N:=43) rfl ?_);refine wpList_load_mid rfl 27 (.tmp 8) rfl g8 0 rfl _ _ (lC B8.out) Try.underlying27 rfl (by kernel_rfl) ?_)
        |((with_reducible refine gate_store (t:=27) (p:=6) rfl ?_);refine store_block rfl rfl 27 (.tmp 6) (.tmp 43) rfl rfl rfl BS.out rfl (by kernel_rfl) (aB rfl) ?_;intro wn hbox hg;have BS_:=am hbox;replace XR:=am (show true=true->sysOk p s1=true/\∃ B1 N1,Held B1 N1 g (turns p s1 [(z:Int)]) [.slice X0 n0 k0,.slice X1 n1 k1,.int .i64 zc,.slice X3 n3 k3] wn/\wo.heap.size<=B1/\gs < B1/\(g8 < B1\/N1<=g8) from fun h=>by obtain ⟨h1,B1,N1,h2,h3,h4,h5⟩:=XR.out h;exact ⟨h1,B1,N1,h2.grown hg (fun q hq=>by cases hq;exact .inl h4),h3,h4,h5⟩);replace VC:=am (R_grownT VC.out BS.out (by decide) hg);replace VB:=am (R_grownT VB.out BS.out (by decide) hg);replace BP:=am (blk_grown BP.out hg (fun he=>NBPBS.out (by injection he)));replace HD:=am (HD.out.grown hg (fun q hq=>by cases hq;exact LSO.out));clear hbox hg B8 B8c BS BPc BSc HS;have BS:=BS_;clear BS_;have BPc:=zc8 BP.out;have BSc:=zc8 BS.out))
        obtain ⟨ho,B1,N1,hx1,hx2,hx3,-⟩:=XR.out rfl;obtain ⟨t1,t2,t3,t4⟩:=turn_sz (k:=(z:Int)) ho HLN.out.1 (by omega);have TS:=am t1;have TL9:=am (show (turns p s1 [(z:Int)]).log.length<=1000+9*(k+1)/\1<=(turns p s1 [(z:Int)]).tasks.length/\(turns p s1 [(z:Int)]).tasks.length<=2000 by omega);have HX:=am hx1;have HX2:=am hx2;have HX3:=am (show gs < B1\/N1<=gs from .inl hx3);clear t1 t2 t3 t4 hx1 hx2 hx3 ho;go_roundw
        case rel=>exact ⟨k+1,by omega,by go_num,_,X0,n0,k0,X1,n1,k1,zc,X3,n3,k3,B1,N1,_,HX,HX2,HX3,TS,TL9,BP,BS,VC,VB,HD,⟨by have:=HQ.out;omega⟩⟩
        case measure=>simp [intOf];omega
     ·refine box_step (t:=27) (cs:=#[.slice none 0 0,.slice none 0 0,.int .i64 0,.slice none 0 0]) (by rfl) rfl (by intro W;first|(go_simp;done)|(go_simp;rfl)) ?_
      intro g8 hg8 wb hbox hb;refine hK.out _ _ ⟨zb8 hHeld.1 hb,zb8 hHeld.2 hb⟩ (fun hHeld=> ?_);clear hK K;refine norm_ (a':= ?_) ?_ ?_;rotate_left
      ·show Act.put _ (some 8) _=_
       simp only [Act.put,sA,sZ,sS,i64_w];rfl
      have N8S:=am (show gs ≠ g8 from fun he=>by have:=blk_lt BS.out;omega);have N8P:=am (show gp ≠ g8 from fun he=>by have:=blk_lt BP.out;omega);have L8:=am (show wo.heap.size<=g8 by have:=HD.out.size;omega);have H8:=am (show N<=g8 by have:=HS.out.size;omega);have B8:=am hbox;clear hbox hg8;replace VC:=am (Kd.R_below VC.out hb);replace VB:=am (Kd.R_below VB.out hb);replace BP:=am (zb8 BP.out hb);replace BS:=am (zb8 BS.out hb);replace HS:=am (HS.out.grow hb);replace HD:=am (HD.out.grow hb);clear BPc BSc hb;have BPc:=zc8 BP.out;have BSc:=zc8 BS.out;have B8c:=zc8 B8.out;refine on9 (i:=3) (N:=some 37) rfl rfl (by kernel_rfl) (by decide) (fun K hK=> ?_);refine goes_ Try.func49 (by kernel_rfl) rfl #[.pointer (some ⟨g,0,none⟩),.int .i64 7] (by rfl) rfl rfl (by (try simp only [List.map_toArray,List.map_cons,List.map_nil]);first | done | rfl) ?_;refine (pick_rds HD.out HCD.out (by have:=HQ.out;omega) 7).mono ?_;rintro e wn ⟨z,q2,rfl,-,hq2,hd,hk⟩;refine ⟨_,rfl, ?_⟩;refine hK.out _ _ ⟨HD.out.blkK hk hHeld.1 (by decide),HD.out.blkK hk hHeld.2 (by decide)⟩ (fun hHeld=> ?_);clear hK K;refine norm_ (a':= ?_) ?_ ?_;rotate_left
      ·show Act.put _ (some 37) _=_
       simp only [Act.put,sA,sZ,sS,i64_w];rfl
      replace HQ:=am (show 0<=q2/\q2<=8001+(k:Int)+1 from by have:=HQ.out;omega);clear hq2;replace VC:=am (HD.out.rowK hk VC.out (by decide));replace VB:=am (HD.out.rowK hk VB.out (by decide));replace BP:=am (HD.out.blkK hk BP.out (by decide));replace BS:=am (HD.out.blkK hk BS.out (by decide));replace B8:=am (HD.out.blkK hk B8.out (by decide));replace HS:=am (HS.out.keep hk);replace HD:=am hd;clear hk hd BPc BSc B8c;have BPc:=zc8 BP.out;have BSc:=zc8 BS.out;have B8c:=zc8 B8.out;refine on9 (i:=4) (N:=some 38) rfl rfl (by kernel_rfl) (by decide) (fun K hK=> ?_);refine Kd.R_lit_step (w0:=_) (Kd.int .i64) wo.heap.size 3 (by rfl) (N:=38) rfl (xs:=([(z:Int)]:List Int)) (inner:= [.int .i64 z]) (ok:=(fun _=>True)) (okp:=(fun _=>True)) (by go_simp<;>rfl) (Reps.one rfl (Reps.none _ _)) (fun _ _=>trivial) trivial (Below.refl _ _) HD.out.size (by simp) ?_;intro v1 wl hv1 hb1 hg hx9;clear hb1 hx9;obtain ⟨Ak,ck,ev⟩:=Kd.R_slice hv1;subst ev;refine hK.out _ _ ⟨zb8 hHeld.1 (grown_below hg),zb8 hHeld.2 (grown_below hg)⟩ (fun hHeld=> ?_);clear hK K;refine norm_ (a':= ?_) ?_ ?_;rotate_left
      ·show Act.put _ (some 38) _=_
       simp only [Act.put,sA,sZ,sS,i64_w];rfl
      have hb:=grown_below hg;clear hg;replace VC:=am (Kd.R_below VC.out hb);replace VB:=am (Kd.R_below VB.out hb);replace BP:=am (zb8 BP.out hb);replace BS:=am (zb8 BS.out hb);replace HS:=am (HS.out.grow hb);replace HD:=am (HD.out.grow hb);replace B8:=am (zb8 B8.out hb);clear BPc BSc B8c hb;have BPc:=zc8 BP.out;have BSc:=zc8 BS.out;have B8c:=zc8 B8.out;have KS:=am (Kd.R_reads' hv1).2.2;clear hv1;refine on9 (i:=5) (N:=some 39) rfl rfl (by kernel_rfl) (by decide) (fun K hK=> ?_);refine goes_ Try.func55 (by kernel_rfl) rfl #[.agg #[.slice Ac lc cc,.slice Ab lb cb],.agg #[.slice Y0 m0 j0,.slice Y1 m1 j1,.int .i64 yc,.slice Y3 m3 j3],.slice Ak [(z:Int)].length ck] (by rfl) rfl rfl (by (try simp only [List.map_toArray,List.map_cons,List.map_nil]);first | done | rfl) ?_;refine (run_held p _ s1 _ [(z:Int)] Ak ck g _ (prog_K VC.out VB.out) HS.out.now HPZ.out HSZ.out (by have:=HLN.out;omega) KS.out (Nat.lt_of_lt_of_le HD.out.lt HD.out.size)).mono ?_;rintro e wc ⟨bb,X0,X1,X3,n0,k0,n1,k1,n3,k3,zc,rfl,hb,hx⟩;refine ⟨_,rfl, ?_⟩;refine hK.out _ _ ⟨zb8 hHeld.1 hb,zb8 hHeld.2 hb⟩ (fun hHeld=> ?_);clear hK K;refine norm_ (a':= ?_) ?_ ?_;rotate_left
      ·show Act.put _ (some 39) _=_
       simp only [Act.put,sA,sZ,sS,i64_w];rfl
      have hbs:=blk_lt BS.out;have hws:=HD.out.size;have XR:=am (show bb=true->sysOk p s1=true/\∃ B1 N1,Held B1 N1 g (turns p s1 [(z:Int)]) [.slice X0 n0 k0,.slice X1 n1 k1,.int .i64 zc,.slice X3 n3 k3] wc/\wo.heap.size<=B1/\gs < B1/\g8 < B1 from fun h=>⟨(hx h).1,_,_,(hx h).2,hws,hbs,blk_lt B8.out⟩);clear hx hbs hws KS;replace VC:=am (Kd.R_below VC.out hb);replace VB:=am (Kd.R_below VB.out hb);replace BP:=am (zb8 BP.out hb);replace BS:=am (zb8 BS.out hb);replace HS:=am (HS.out.grow hb);replace HD:=am (HD.out.grow hb);replace B8:=am (zb8 B8.out hb);clear BPc BSc B8c hb;have BPc:=zc8 BP.out;have BSc:=zc8 BS.out;have B8c:=zc8 B8.out;replace XR:=am (show bb=true->sysOk p s1=true/\∃ B1 N1,Held B1 N1 g (turns p s1 [(z:Int)]) [.slice X0 n0 k0,.slice X1 n1 k1,.int .i64 zc,.slice X3 n3 k3] wc/\wo.heap.size<=B1/\gs < B1/\(g8 < B1\/N1<=g8) from fun h=>by obtain ⟨h1,B1,N1,h2,h3,h4,h5⟩:=XR.out h;exact ⟨h1,B1,N1,h2,h3,h4,.inl h5⟩);refine ba9 (fuel:=3) (n:=2) [6,7] (by kernel_rfl) (fun N _ _ _ _ h=>by cases N <;> exact h) hHeld ?_
      iterate 2 (
       refine stillS_step (v:= ?_) (a':= ?_) rfl (Or.inl ⟨by rfl, ?_⟩) ?_ ?_;rotate_left
       ·intro W s0
        go_simp
        with_reducible rfl
       rotate_left
       ·simp only [Act.put,sA,sZ,sS,i64_w]
        rfl)
      refine stillS_nil ?_;refine pure_ (i:=8) (N:=some 41) (v:=.bool bb) (a':= ?_) #[true,true,true,true,true,true,true,true,true,true,false,false] rfl rfl (by kernel_rfl) (fun _ _ _ h=>h) (Or.inl ⟨by rfl,fun W=>by go_simp<;>rfl⟩) ?_ ?_;rotate_left
      ·simp only [Act.put,sA,sZ,sS,i64_w]
       rfl
      clear hHeld;refine tail_ (fuel:=2) 10 (by kernel_rfl) ?_;simp only [List.drop_succ_cons,List.drop_zero]
      cases bb with
      | false=>
       clear XR
       go_wp2_with (first
       |((with_reducible refine gate_store (t:=27) (p:=8) rfl ?_);refine store_block rfl rfl 27 (.tmp 8) (.tmp 40) rfl rfl rfl B8.out rfl (by kernel_rfl) (aB rfl) ?_;intro wn hbox hg;have B8_:=am hbox;replace VC:=am (R_grownT VC.out B8.out (by decide) hg);replace VB:=am (R_grownT VB.out B8.out (by decide) hg);replace BP:=am (blk_grown BP.out hg (fun he=>N8P.out (by injection he)));replace BS:=am (blk_grown BS.out hg (fun he=>N8S.out (by injection he)));replace HS:=am (HS.out.grown hg (fun q hq=>by cases hq;exact .inr H8.out));replace HD:=am (HD.out.grown hg (fun q hq=>by cases hq;exact L8.out));clear hbox hg B8 B8c BPc BSc;have B8:=B8_;clear B8_;have B8c:=zc8 B8.out;have BPc:=zc8 BP.out;have BSc:=zc8 BS.out))
       go_roundw
       case rel=>exact ⟨k+1,by omega,by go_num,s1,Y0,m0,j0,Y1,m1,j1,yc,Y3,m3,j3,B,N,_,HS,HBB,HGN,HSZ,⟨by have:=HLN.out;omega⟩,BP,BS,VC,VB,HD,⟨by have:=HQ.out;omega⟩⟩
       case measure=>simp [intOf];omega
      | true=>
       have LSO:=am (show wo.heap.size<=gs from Nat.le_trans LWF.out LBSo.out)
       go_wp2_with (first
       |((with_reducible refine gate_store (t:=27) (p:=8) rfl ?_);refine store_block rfl rfl 27 (.tmp 8) (.tmp 40) rfl rfl rfl B8.out rfl (by kernel_rfl) (aB rfl) ?_;intro wn hbox hg;have B8_:=am hbox;replace XR:=am (show true=true->sysOk p s1=true/\∃ B1 N1,Held B1 N1 g (turns p s1 [(z:Int)]) [.slice X0 n0 k0,.slice X1 n1 k1,.int .i64 zc,.slice X3 n3 k3] wn/\wo.heap.size<=B1/\gs < B1/\(g8 < B1\/N1<=g8) from fun h=>by obtain ⟨h1,B1,N1,h2,h3,h4,h5⟩:=XR.out h;exact ⟨h1,B1,N1,h2.grown hg (fun q hq=>by cases hq;exact h5),h3,h4,h5⟩);replace VC:=am (R_grownT VC.out B8.out (by decide) hg);replace VB:=am (R_grownT VB.out B8.out (by decide) hg);replace BP:=am (blk_grown BP.out hg (fun he=>N8P.out (by injection he)));replace BS:=am (blk_grown BS.out hg (fun he=>N8S.out (by injection he)));replace HS:=am (HS.out.grown hg (fun q hq=>by cases hq;exact .inr H8.out));replace HD:=am (HD.out.grown hg (fun q hq=>by cases hq;exact L8.out));clear hbox hg B8 B8c BPc BSc;have B8:=B8_;clear B8_;have B8c:=zc8 B8.out;have BPc:=zc8 BP.out;have BSc:=zc8 BS.out)
       |((with_reducible refine gate_dst (N:=43) rfl ?_);refine wpList_load_mid rfl 27 (.tmp 8) rfl g8 0 rfl _ _ (lC B8.out) Try.underlying27 rfl (by kernel_rfl) ?_)
       |((with_reducible refine gate_store (t:=27) (p:=6) rfl ?_);refine store_block rfl rfl 27 (.tmp 6) (.tmp 43) rfl rfl rfl BS.out rfl (by kernel_rfl) (aB rfl) ?_;intro wn hbox hg;have BS_:=am hbox;replace XR:=am (show true=true->sysOk p s1=true/\∃ B1 N1,Held B1 N1 g (turns p s1 [(z:Int)]) [.slice X0 n0 k0,.slice X1 n1 k1,.int .i64 zc,.slice X3 n3 k3] wn/\wo.heap.size<=B1/\gs < B1/\(g8 < B1\/N1<=g8) from fun h=>by obtain ⟨h1,B1,N1,h2,h3,h4,h5⟩:=XR.out h;exact ⟨h1,B1,N1,h2.grown hg (fun q hq=>by cases hq;exact .inl h4),h3,h4,h5⟩);replace VC:=am (R_grownT VC.out BS.out (by decide) hg);replace VB:=am (R_grownT VB.out BS.out (by decide) hg);replace BP:=am (blk_grown BP.out hg (fun he=>NBPBS.out (by injection he)));replace HD:=am (HD.out.grown hg (fun q hq=>by cases hq;exact LSO.out));clear hbox hg B8 B8c BS BPc BSc HS;have BS:=BS_;clear BS_;have BPc:=zc8 BP.out;have BSc:=zc8 BS.out))
       obtain ⟨ho,B1,N1,hx1,hx2,hx3,-⟩:=XR.out rfl;obtain ⟨t1,t2,t3,t4⟩:=turn_sz (k:=(z:Int)) ho HLN.out.1 (by omega);have TS:=am t1;have TL9:=am (show (turns p s1 [(z:Int)]).log.length<=1000+9*(k+1)/\1<=(turns p s1 [(z:Int)]).tasks.length/\(turns p s1 [(z:Int)]).tasks.length<=2000 by omega);have HX:=am hx1;have HX2:=am hx2;have HX3:=am (show gs < B1\/N1<=gs from .inl hx3);clear t1 t2 t3 t4 hx1 hx2 hx3 ho;go_roundw
       case rel=>exact ⟨k+1,by omega,by go_num,_,X0,n0,k0,X1,n1,k1,zc,X3,n3,k3,B1,N1,_,HX,HX2,HX3,TS,TL9,BP,BS,VC,VB,HD,⟨by have:=HQ.out;omega⟩⟩
       case measure=>simp [intOf];omega
    ·have yz:(((heldIn s1.cells).length:Int) == 0)=false:=by rw [beq_eq_false_iff_ne];exact hz
     clear hz
     go_wp2_with (first
     |((with_reducible refine gate_dst (N:=26) rfl ?_);refine wpList_load_mid rfl 27 (.tmp 6) rfl gs 0 rfl _ _ (lC BS.out) Try.underlying27 rfl (by kernel_rfl) ?_)
     |(go_at_call 54;refine (specHeld_calls s1 _ _ HS.out.now HSZ.out.cells).mono ?_;rintro e wn ⟨v,rfl,hv,hb⟩;obtain ⟨Av,cv,ev,-,-⟩:=Kd.R_reads hv;subst ev;clear hv;replace VC:=am (Kd.R_below VC.out hb);replace VB:=am (Kd.R_below VB.out hb);replace BP:=am (zb8 BP.out hb);replace BS:=am (zb8 BS.out hb);replace HS:=am (HS.out.grow hb);replace HD:=am (HD.out.grow hb);clear BPc BSc hb;have BPc:=zc8 BP.out;have BSc:=zc8 BS.out))
     refine st9 (n:=4) (S:=fun W=>W.heap[gp]? = some (.cells #[.slice Ac lc cc,.slice Ab lb cb] 48 (0,0))/\W.heap[gs]? = some (.cells #[.slice Y0 m0 j0,.slice Y1 m1 j1,.int .i64 yc,.slice Y3 m3 j3] 27 (0,0))) (ds:= [3]) (by kernel_rfl) rfl ⟨blk_drew BP.out,blk_drew BS.out⟩ (fun hHeld=> ?_);have hb:=below_drew (Below.refl wn.heap.size wn);generalize wn.drew=w7 at hb hHeld ⊢;replace VC:=am (Kd.R_below VC.out hb);replace VB:=am (Kd.R_below VB.out hb);replace BP:=am (zb8 BP.out hb);replace BS:=am (zb8 BS.out hb);replace HS:=am (HS.out.grow hb);replace HD:=am (HD.out.grow hb);clear BPc BSc hb;have BPc:=zc8 BP.out;have BSc:=zc8 BS.out;refine ba9 (fuel:=3) (n:=1) [0] (by kernel_rfl) (fun N _ _ _ _ h=>by cases N <;> exact h) hHeld ?_
     iterate 1 (
      refine stillS_step (v:= ?_) (a':= ?_) rfl (Or.inl ⟨by rfl, ?_⟩) ?_ ?_;rotate_left
      ·rintro W ⟨s0,s9⟩
       have t0:=zc8 s0;have t1:=zc8 s9;clear s0 s9;go_simp;with_reducible rfl
      rotate_left
      ·simp only [Act.put,sA,sZ,sS,i64_w]
       rfl)
     refine stillS_nil ?_;replace BZ:=am (zb8 BZ.out HD.out.below);replace BY:=am (zb8 BY.out HD.out.below);have HBW:=am (below_step HB.out HD.out.below);clear HD;refine tw9 (i:=1) (j:=2) (Ni:=some 45) (Nj:=none) rfl rfl rfl rfl (by kernel_rfl) (by decide) (by decide) (fun K hK=> ?_) (fun K hK=> ?_)
     ·have t1:=zc8 hHeld.2
      refine value_ (v:=.agg #[.slice Y0 m0 j0,.slice Y1 m1 j1,.int .i64 yc,.slice Y3 m3 j3]) (w1:=_) (by rfl) rfl (by go_simp<;>rfl) ?_;clear t1;refine hK.out _ _ hHeld (fun hHeld=> ?_);clear hK K;refine norm_ (a':= ?_) ?_ ?_;rotate_left
      ·show Act.put _ (some 45) _=_
       simp only [Act.put,sA,sZ,sS,i64_w];rfl
      refine on9 (i:=2) (N:=none) rfl rfl (by kernel_rfl) (by decide) (fun K hK=> ?_);obtain ⟨hbox,hg⟩:=setCells_blk (cs:= [.slice Ac lc cc,.slice Ab lb cb]) BZ.out rfl;rw [if_pos (by rfl)];refine store_wp rfl 48 (.tmp 2) (.tmp 44) rfl rfl rfl BZ.out rfl (by kernel_rfl) (aB rfl) ?_;generalize World.setCells _ gz 0 [.slice Ac lc cc,.slice Ab lb cb]=wy at hbox hg ⊢;have NPZ:gp ≠ gz:=fun he=>by have h1:=LBPo.out;have h2:=LZO.out;omega
      have NSZ:gs ≠ gz:=fun he=>by have h1:=LBSo.out;have h2:=LZO.out;have h3:=LGF.out;omega
      refine hK.out _ _ ⟨blk_grown hHeld.1 hg (fun he=>NPZ (by injection he)),blk_grown hHeld.2 hg (fun he=>NSZ (by injection he))⟩ (fun hHeld=> ?_);clear hK K;have BZ_:=am hbox;replace VC:=am (R_grownT VC.out BZ.out (by decide) hg);replace VB:=am (R_grownT VB.out BZ.out (by decide) hg);replace BY:=am (blk_grown BY.out hg (fun he=>NZY.out (by injection he with he;exact he.symm)));replace HS:=am (HS.out.grown hg (fun z hz=>by cases hz;exact .inl (Nat.lt_of_lt_of_le LZO.out HBB.out)));replace HBW:=am (pw_below_grown HBW.out _ HBW.out.size hg (fun z hz=>by cases hz;exact LZ.out));clear hbox hg BZ NPZ NSZ;have BZ:=BZ_;clear BZ_;clear hHeld;refine tail_ (fuel:=1) 3 (by kernel_rfl) ?_;simp only [List.drop_succ_cons,List.drop_zero]
      go_wp2_with (first
      |((with_reducible refine gate_store (t:=27) (p:=3) rfl ?_);refine store_block rfl rfl 27 (.tmp 3) (.tmp 45) rfl rfl rfl BY.out rfl (by kernel_rfl) (aB rfl) ?_;intro wn hbox hg;have BY_:=am hbox;replace VC:=am (R_grownT VC.out BY.out (by decide) hg);replace VB:=am (R_grownT VB.out BY.out (by decide) hg);replace BZ:=am (blk_grown BZ.out hg (fun he=>NZY.out (by injection he)));replace HS:=am (HS.out.grown hg (fun z hz=>by cases hz;exact .inl (Nat.lt_of_lt_of_le LYO.out HBB.out)));replace HBW:=am (pw_below_grown HBW.out _ HBW.out.size hg (fun z hz=>by cases hz;exact LY.out));clear hbox hg BY;have BY:=BY_;clear BY_))
      refine bodyPost_ret (results_list (rs:= [.cell 2 48,.cell 3 27]) rfl (by simp) (.cell gz 48 #[.slice Ac lc cc,.slice Ab lb cb] (0,0) _ rfl BZ.out Try.underlying48 rfl (by kernel_rfl) (.cell gy 27 #[.slice Y0 m0 j0,.slice Y1 m1 j1,.int .i64 yc,.slice Y3 m3 j3] (0,0) _ rfl BY.out Try.underlying27 rfl (by kernel_rfl) .nil))) rfl ?_;exact ⟨_,_,_,_,_,_,_,_,_,_,_,_,_,_,_,_,_,_,rfl,prog_K VC.out VB.out,HPZ.out,HS.out.now,HSZ.out,HLN.out.2.1,HLN.out.2.2,by have:=HLN.out.1;omega,HBW.out⟩
     ·obtain ⟨hbox,hg⟩:=setCells_blk (cs:= [.slice Ac lc cc,.slice Ab lb cb]) BZ.out rfl
      rw [if_pos (by rfl)];refine store_wp rfl 48 (.tmp 2) (.tmp 44) rfl rfl rfl BZ.out rfl (by kernel_rfl) (aB rfl) ?_;generalize World.setCells _ gz 0 [.slice Ac lc cc,.slice Ab lb cb]=wy at hbox hg ⊢;have NPZ:gp ≠ gz:=fun he=>by have h1:=LBPo.out;have h2:=LZO.out;omega
      have NSZ:gs ≠ gz:=fun he=>by have h1:=LBSo.out;have h2:=LZO.out;have h3:=LGF.out;omega
      refine hK.out _ _ ⟨blk_grown hHeld.1 hg (fun he=>NPZ (by injection he)),blk_grown hHeld.2 hg (fun he=>NSZ (by injection he))⟩ (fun hHeld=> ?_);clear hK K;have BZ_:=am hbox;replace VC:=am (R_grownT VC.out BZ.out (by decide) hg);replace VB:=am (R_grownT VB.out BZ.out (by decide) hg);replace BY:=am (blk_grown BY.out hg (fun he=>NZY.out (by injection he with he;exact he.symm)));replace HS:=am (HS.out.grown hg (fun z hz=>by cases hz;exact .inl (Nat.lt_of_lt_of_le LZO.out HBB.out)));replace HBW:=am (pw_below_grown HBW.out _ HBW.out.size hg (fun z hz=>by cases hz;exact LZ.out));clear hbox hg BZ NPZ NSZ;have BZ:=BZ_;clear BZ_;refine on9 (i:=1) (N:=some 45) rfl rfl (by kernel_rfl) (by decide) (fun K hK=> ?_);have t1:=zc8 hHeld.2;refine value_ (v:=.agg #[.slice Y0 m0 j0,.slice Y1 m1 j1,.int .i64 yc,.slice Y3 m3 j3]) (w1:=_) (by rfl) rfl (by go_simp<;>rfl) ?_;clear t1;refine hK.out _ _ hHeld (fun hHeld=> ?_);clear hK K;refine norm_ (a':= ?_) ?_ ?_;rotate_left
      ·show Act.put _ (some 45) _=_
       simp only [Act.put,sA,sZ,sS,i64_w];rfl
      clear hHeld;refine tail_ (fuel:=1) 3 (by kernel_rfl) ?_;simp only [List.drop_succ_cons,List.drop_zero]
      go_wp2_with (first
      |((with_reducible refine gate_store (t:=27) (p:=3) rfl ?_);refine store_block rfl rfl 27 (.tmp 3) (.tmp 45) rfl rfl rfl BY.out rfl (by kernel_rfl) (aB rfl) ?_;intro wn hbox hg;have BY_:=am hbox;replace VC:=am (R_grownT VC.out BY.out (by decide) hg);replace VB:=am (R_grownT VB.out BY.out (by decide) hg);replace BZ:=am (blk_grown BZ.out hg (fun he=>NZY.out (by injection he)));replace HS:=am (HS.out.grown hg (fun z hz=>by cases hz;exact .inl (Nat.lt_of_lt_of_le LYO.out HBB.out)));replace HBW:=am (pw_below_grown HBW.out _ HBW.out.size hg (fun z hz=>by cases hz;exact LY.out));clear hbox hg BY;have BY:=BY_;clear BY_))
      refine bodyPost_ret (results_list (rs:= [.cell 2 48,.cell 3 27]) rfl (by simp) (.cell gz 48 #[.slice Ac lc cc,.slice Ab lb cb] (0,0) _ rfl BZ.out Try.underlying48 rfl (by kernel_rfl) (.cell gy 27 #[.slice Y0 m0 j0,.slice Y1 m1 j1,.int .i64 yc,.slice Y3 m3 j3] (0,0) _ rfl BY.out Try.underlying27 rfl (by kernel_rfl) .nil))) rfl ?_;exact ⟨_,_,_,_,_,_,_,_,_,_,_,_,_,_,_,_,_,_,rfl,prog_K VC.out VB.out,HPZ.out,HS.out.now,HSZ.out,HLN.out.2.1,HLN.out.2.2,by have:=HLN.out.1;omega,HBW.out⟩
   ·have yk:decide ((k:Int) < 80)=false:=decide_eq_false hk9
    go_wp2;refine st9 (n:=4) (S:=fun W=>W.heap[gp]? = some (.cells #[.slice Ac lc cc,.slice Ab lb cb] 48 (0,0))/\W.heap[gs]? = some (.cells #[.slice Y0 m0 j0,.slice Y1 m1 j1,.int .i64 yc,.slice Y3 m3 j3] 27 (0,0))) (ds:= [3]) (by kernel_rfl) rfl ⟨blk_drew BP.out,blk_drew BS.out⟩ (fun hHeld=> ?_);have hb:=below_drew (Below.refl wr.heap.size wr);generalize wr.drew=w7 at hb hHeld ⊢;replace VC:=am (Kd.R_below VC.out hb);replace VB:=am (Kd.R_below VB.out hb);replace BP:=am (zb8 BP.out hb);replace BS:=am (zb8 BS.out hb);replace HS:=am (HS.out.grow hb);replace HD:=am (HD.out.grow hb);clear BPc BSc hb;have BPc:=zc8 BP.out;have BSc:=zc8 BS.out;refine ba9 (fuel:=3) (n:=1) [0] (by kernel_rfl) (fun N _ _ _ _ h=>by cases N <;> exact h) hHeld ?_
    iterate 1 (
     refine stillS_step (v:= ?_) (a':= ?_) rfl (Or.inl ⟨by rfl, ?_⟩) ?_ ?_;rotate_left
     ·rintro W ⟨s0,s9⟩
      have t0:=zc8 s0;have t1:=zc8 s9;clear s0 s9;go_simp;with_reducible rfl
     rotate_left
     ·simp only [Act.put,sA,sZ,sS,i64_w]
      rfl)
    refine stillS_nil ?_;replace BZ:=am (zb8 BZ.out HD.out.below);replace BY:=am (zb8 BY.out HD.out.below);have HBW:=am (below_step HB.out HD.out.below);clear HD;refine tw9 (i:=1) (j:=2) (Ni:=some 45) (Nj:=none) rfl rfl rfl rfl (by kernel_rfl) (by decide) (by decide) (fun K hK=> ?_) (fun K hK=> ?_)
    ·have t1:=zc8 hHeld.2
     refine value_ (v:=.agg #[.slice Y0 m0 j0,.slice Y1 m1 j1,.int .i64 yc,.slice Y3 m3 j3]) (w1:=_) (by rfl) rfl (by go_simp<;>rfl) ?_;clear t1;refine hK.out _ _ hHeld (fun hHeld=> ?_);clear hK K;refine norm_ (a':= ?_) ?_ ?_;rotate_left
     ·show Act.put _ (some 45) _=_
      simp only [Act.put,sA,sZ,sS,i64_w];rfl
     refine on9 (i:=2) (N:=none) rfl rfl (by kernel_rfl) (by decide) (fun K hK=> ?_);obtain ⟨hbox,hg⟩:=setCells_blk (cs:= [.slice Ac lc cc,.slice Ab lb cb]) BZ.out rfl;rw [if_pos (by rfl)];refine store_wp rfl 48 (.tmp 2) (.tmp 44) rfl rfl rfl BZ.out rfl (by kernel_rfl) (aB rfl) ?_;generalize World.setCells _ gz 0 [.slice Ac lc cc,.slice Ab lb cb]=wy at hbox hg ⊢;have NPZ:gp ≠ gz:=fun he=>by have h1:=LBPo.out;have h2:=LZO.out;omega
     have NSZ:gs ≠ gz:=fun he=>by have h1:=LBSo.out;have h2:=LZO.out;have h3:=LGF.out;omega
     refine hK.out _ _ ⟨blk_grown hHeld.1 hg (fun he=>NPZ (by injection he)),blk_grown hHeld.2 hg (fun he=>NSZ (by injection he))⟩ (fun hHeld=> ?_);clear hK K;have BZ_:=am hbox;replace VC:=am (R_grownT VC.out BZ.out (by decide) hg);replace VB:=am (R_grownT VB.out BZ.out (by decide) hg);replace BY:=am (blk_grown BY.out hg (fun he=>NZY.out (by injection he with he;exact he.symm)));replace HS:=am (HS.out.grown hg (fun z hz=>by cases hz;exact .inl (Nat.lt_of_lt_of_le LZO.out HBB.out)));replace HBW:=am (pw_below_grown HBW.out _ HBW.out.size hg (fun z hz=>by cases hz;exact LZ.out));clear hbox hg BZ NPZ NSZ;have BZ:=BZ_;clear BZ_;clear hHeld;refine tail_ (fuel:=1) 3 (by kernel_rfl) ?_;simp only [List.drop_succ_cons,List.drop_zero]
     go_wp2_with (first
     |((with_reducible refine gate_store (t:=27) (p:=3) rfl ?_);refine store_block rfl rfl 27 (.tmp 3) (.tmp 45) rfl rfl rfl BY.out rfl (by kernel_rfl) (aB rfl) ?_;intro wn hbox hg;have BY_:=am hbox;replace VC:=am (R_grownT VC.out BY.out (by decide) hg);replace VB:=am (R_grownT VB.out BY.out (by decide) hg);replace BZ:=am (blk_grown BZ.out hg (fun he=>NZY.out (by injection he)));replace HS:=am (HS.out.grown hg (fun z hz=>by cases hz;exact .inl (Nat.lt_of_lt_of_le LYO.out HBB.out)));replace HBW:=am (pw_below_grown HBW.out _ HBW.out.size hg (fun z hz=>by cases hz;exact LY.out));clear hbox hg BY;have BY:=BY_;clear BY_))
     refine bodyPost_ret (results_list (rs:= [.cell 2 48,.cell 3 27]) rfl (by simp) (.cell gz 48 #[.slice Ac lc cc,.slice Ab lb cb] (0,0) _ rfl BZ.out Try.underlying48 rfl (by kernel_rfl) (.cell gy 27 #[.slice Y0 m0 j0,.slice Y1 m1 j1,.int .i64 yc,.slice Y3 m3 j3] (0,0) _ rfl BY.out Try.underlying27 rfl (by kernel_rfl) .nil))) rfl ?_;exact ⟨_,_,_,_,_,_,_,_,_,_,_,_,_,_,_,_,_,_,rfl,prog_K VC.out VB.out,HPZ.out,HS.out.now,HSZ.out,HLN.out.2.1,HLN.out.2.2,by have:=HLN.out.1;omega,HBW.out⟩
    ·obtain ⟨hbox,hg⟩:=setCells_blk (cs:= [.slice Ac lc cc,.slice Ab lb cb]) BZ.out rfl
     rw [if_pos (by rfl)];refine store_wp rfl 48 (.tmp 2) (.tmp 44) rfl rfl rfl BZ.out rfl (by kernel_rfl) (aB rfl) ?_;generalize World.setCells _ gz 0 [.slice Ac lc cc,.slice Ab lb cb]=wy at hbox hg ⊢;have NPZ:gp ≠ gz:=fun he=>by have h1:=LBPo.out;have h2:=LZO.out;omega
     have NSZ:gs ≠ gz:=fun he=>by have h1:=LBSo.out;have h2:=LZO.out;have h3:=LGF.out;omega
     refine hK.out _ _ ⟨blk_grown hHeld.1 hg (fun he=>NPZ (by injection he)),blk_grown hHeld.2 hg (fun he=>NSZ (by injection he))⟩ (fun hHeld=> ?_);clear hK K;have BZ_:=am hbox;replace VC:=am (R_grownT VC.out BZ.out (by decide) hg);replace VB:=am (R_grownT VB.out BZ.out (by decide) hg);replace BY:=am (blk_grown BY.out hg (fun he=>NZY.out (by injection he with he;exact he.symm)));replace HS:=am (HS.out.grown hg (fun z hz=>by cases hz;exact .inl (Nat.lt_of_lt_of_le LZO.out HBB.out)));replace HBW:=am (pw_below_grown HBW.out _ HBW.out.size hg (fun z hz=>by cases hz;exact LZ.out));clear hbox hg BZ NPZ NSZ;have BZ:=BZ_;clear BZ_;refine on9 (i:=1) (N:=some 45) rfl rfl (by kernel_rfl) (by decide) (fun K hK=> ?_);have t1:=zc8 hHeld.2;refine value_ (v:=.agg #[.slice Y0 m0 j0,.slice Y1 m1 j1,.int .i64 yc,.slice Y3 m3 j3]) (w1:=_) (by rfl) rfl (by go_simp<;>rfl) ?_;clear t1;refine hK.out _ _ hHeld (fun hHeld=> ?_);clear hK K;refine norm_ (a':= ?_) ?_ ?_;rotate_left
     ·show Act.put _ (some 45) _=_
      simp only [Act.put,sA,sZ,sS,i64_w];rfl
     clear hHeld;refine tail_ (fuel:=1) 3 (by kernel_rfl) ?_;simp only [List.drop_succ_cons,List.drop_zero]
     go_wp2_with (first
     |((with_reducible refine gate_store (t:=27) (p:=3) rfl ?_);refine store_block rfl rfl 27 (.tmp 3) (.tmp 45) rfl rfl rfl BY.out rfl (by kernel_rfl) (aB rfl) ?_;intro wn hbox hg;have BY_:=am hbox;replace VC:=am (R_grownT VC.out BY.out (by decide) hg);replace VB:=am (R_grownT VB.out BY.out (by decide) hg);replace BZ:=am (blk_grown BZ.out hg (fun he=>NZY.out (by injection he)));replace HS:=am (HS.out.grown hg (fun z hz=>by cases hz;exact .inl (Nat.lt_of_lt_of_le LYO.out HBB.out)));replace HBW:=am (pw_below_grown HBW.out _ HBW.out.size hg (fun z hz=>by cases hz;exact LY.out));clear hbox hg BY;have BY:=BY_;clear BY_))
     refine bodyPost_ret (results_list (rs:= [.cell 2 48,.cell 3 27]) rfl (by simp) (.cell gz 48 #[.slice Ac lc cc,.slice Ab lb cb] (0,0) _ rfl BZ.out Try.underlying48 rfl (by kernel_rfl) (.cell gy 27 #[.slice Y0 m0 j0,.slice Y1 m1 j1,.int .i64 yc,.slice Y3 m3 j3] (0,0) _ rfl BY.out Try.underlying27 rfl (by kernel_rfl) .nil))) rfl ?_;exact ⟨_,_,_,_,_,_,_,_,_,_,_,_,_,_,_,_,_,_,rfl,prog_K VC.out VB.out,HPZ.out,HS.out.now,HSZ.out,HLN.out.2.1,HLN.out.2.2,by have:=HLN.out.1;omega,HBW.out⟩
theorem isReg_calls (x:Int) (w:World):Calls Try.prog 128 #[.int .i64 x] w fun e w'=>e= .returned (.bool (decide (0<=x) && decide (x < 3)))/\w=w':=by
 go_enter Try.func128,Try.ntmps128
 go_wp2_with (first
 |(go_at_call 51;refine (isPlace_calls _ _ _).mono ?_;rintro e w9 ⟨rfl,rfl⟩))
 go_ret;exact ⟨rfl,rfl⟩
theorem isNum_calls (x:Int) (w:World):Calls Try.prog 101 #[.int .i64 x] w fun e w'=>e= .returned (.bool (decide (0<=x) && decide (x < 100)))/\w=w':=by
 go_enter Try.func101,Try.ntmps101
 go_wp2_with (first
 |(go_at_call 51;refine (isPlace_calls _ _ _).mono ?_;rintro e w9 ⟨rfl,rfl⟩))
 go_ret;exact ⟨rfl,rfl⟩
theorem num_in (x:Int):(decide (0<=x) && decide (x < 100))=inB x 0 99:=by
 rw [Bool.eq_iff_iff,inB_iff];simp;omega
def numsB (xs:List Int):Bool:=allB xs.length fun i=>inB (numAt xs i) 0 99
theorem allNums_calls (A:Option Addr) (c:Nat) (xs:List Int) (w:World) (hx:(Kd.int .i64).C w A xs.length xs) (hn:xs.length<=1048576):
  Calls Try.prog 97 #[.slice A xs.length c] w fun e w'=>e= .returned (.bool (numsB xs))/\w=w':=by
 have HX:=am hx;clear hx;go_enter Try.func97,Try.ntmps97;go_wp2;go_loopw [7] (fun j w'=>∃ k:Nat,k<=xs.length/\j= .int .i64 k/\Aside0 (∀ i,i < k->inB (numAt xs i) 0 99=true)/\Aside0 (w=w')) (fun j _=>xs.length - (intOf j).toNat)
 case atStart=>exact ⟨0,Nat.zero_le _,rfl,⟨fun i hi=>by omega⟩,⟨rfl⟩⟩
 case round=>
  obtain ⟨k,hk,rfl,HJ,HW⟩:=hrel;have hw:=HW.out;subst hw;by_cases hlt:k < xs.length
  ·have q0:(0:Int)<=(k:Int):=by omega
   have q1:(k:Int) < (xs.length:Int):=by omega
   obtain ⟨ad,ed,hx⟩:=Kd.at_int HX.out (k:Int) q0 q1;cases ed;simp only [Int.toNat_natCast] at hx;obtain ⟨x,hxx⟩:∃ x,x=numAt xs k:=⟨_,rfl⟩;have hx2:rd xs (k:Int)=x:=by rw [hxx];rfl
   rw [hx2] at hx;have HXX:=am hxx;clear hx2 hxx
   cases hb:inB x 0 99 with
   | false=>
    have H1:Aside0 ((decide (0<=x) && decide (x < 100))=false):=⟨by rw [num_in,hb]⟩;have HB:=am hb;clear hb
    go_wp2_with (first
    |(go_at_call 101;refine (isNum_calls _ _).mono ?_;rw [H1.out];rintro e w9 ⟨rfl,rfl⟩))
    go_ret;have hr:numsB xs=false:=allB_no hlt (by rw [<-HXX.out];exact HB.out);rw [hr]
    exact ⟨rfl,rfl⟩
   | true=>
    have H1:Aside0 ((decide (0<=x) && decide (x < 100))=true):=⟨by rw [num_in,hb]⟩;have HB:=am hb;clear hb
    go_wp2_with (first
    |(go_at_call 101;refine (isNum_calls _ _).mono ?_;rw [H1.out];rintro e w9 ⟨rfl,rfl⟩))
    go_roundw
    case rel=>exact ⟨k+1,by omega,by go_num,⟨fun i hi=>by rcases Nat.lt_or_ge i k with h | h;exact HJ.out i h;obtain rfl:i=k:=(by omega);rw [<-HXX.out];exact HB.out⟩,⟨by first|rfl | trivial⟩⟩
    case measure=>simp [intOf];omega
  ·obtain rfl:k=xs.length:=by omega
   have q1:¬ (xs.length:Int) < (xs.length:Int):=by omega
   go_wp2;go_ret;have hr:numsB xs=true:=allB_iff.2 HJ.out;rw [hr];exact ⟨rfl,rfl⟩
theorem regsOk_calls (A:Option Addr) (c:Nat) (xs:List Int) (w:World) (hx:(Kd.int .i64).C w A xs.length xs) (hn:xs.length<=1048576):
  Calls Try.prog 102 #[.slice A xs.length c] w fun e w'=>e= .returned (.bool (numsOk xs 3))/\w=w':=by
 have HX:=am hx;have HN:=am hn;clear hx hn;go_enter Try.func102,Try.ntmps102;by_cases h3:(xs.length:Int)=3
 ·have y0:((xs.length:Int) == 3)=true:=by simp [h3]
  have hr:numsOk xs 3=numsB xs:=by unfold numsOk numsB;rw [decide_eq_true h3,Bool.and_true]
  have HR:=am hr;clear hr h3
  go_wp2_with (first
  |(go_at_call 97;refine (allNums_calls _ _ _ _ HX.out HN.out).mono ?_;rintro e w9 ⟨rfl,rfl⟩))
  go_ret;rw [HR.out];exact ⟨rfl,rfl⟩
 ·have y0:((xs.length:Int) == 3)=false:=by simpa using h3
  have hr:numsOk xs 3=false:=by unfold numsOk;rw [decide_eq_false h3,Bool.and_false]
  have HR:=am hr;clear hr h3;go_wp2;go_ret;rw [HR.out];exact ⟨rfl,rfl⟩
theorem place_in (x n:Int):(decide (0<=x) && decide (x < n))=inB x 0 (n - 1):=by
 rw [Bool.eq_iff_iff,inB_iff];simp;omega
theorem putsOk_calls (A:Option Addr) (c:Nat) (xs:List Put) (n:Int) (w:World) (hx:kPut.C w A xs.length xs) (hn:xs.length<=1048576):
  Calls Try.prog 103 #[.slice A xs.length c,.int .i64 n] w fun e w'=>e= .returned (.bool (listOk xs n))/\Below w.heap.size w w':=by
 obtain ⟨b,o,hA,hcell⟩:=put_cells hx;have HC:=am hcell;have HX:=am hx;have M:=am (Own.nil w);have C:=M.out.cl;clear hx hcell;go_enter Try.func103,Try.ntmps103;go_wp2;go_loopw [5,6,9] (fun _ _ j w'=>∃ k:Nat,k<=xs.length/\j= .int .i64 k/\Aside0 (∀ i,i < k->(inB (putAt xs i).cell 0 (n - 1) && inB (putAt xs i).num 0 99 && (decide (i=0) || decide ((putAt xs (i - 1)).cell < (putAt xs i).cell)))=true)/\Aside0 (Own w w' [])) (fun _ _ j _=>xs.length - (intOf j).toNat)
 case atStart=>exact ⟨0,Nat.zero_le _,rfl,⟨fun i hi=>by omega⟩,M⟩
 case round=>
  obtain ⟨k,hk,rfl,HJ,M2⟩:=hrel;clear M C;have M:=M2;clear M2;have C:=M.out.cl;simp only [Cl] at C;by_cases hlt:k < xs.length
  ·obtain rfl:=hA (by omega)
   have q0:(0:Int)<=(k:Int):=by omega
   have q1:(k:Int) < (xs.length:Int):=by omega
   obtain ⟨b',o',cs,eb,hcl,hK,hcc,-⟩:=C_field HX.out zPut k hlt (by decide);cases eb;obtain ⟨x,hxx⟩:∃ x,x=putAt xs k:=⟨_,rfl⟩;rw [show xs.getD k zPut=x from hxx.symm] at hK;have e2:=kPut_open hK;subst e2;have HCC:=am hcc;have HXX:=am hxx;obtain ⟨b1,y1⟩:∃ b,(decide (0<=x.cell) && decide (x.cell < n))=b:=⟨_,rfl⟩;obtain ⟨b2,y2⟩:∃ b,(decide (0<=x.num) && decide (x.num < 100))=b:=⟨_,rfl⟩;have H1:Aside0 (inB x.cell 0 (n - 1)=b1):=⟨by rw [<-y1,place_in]⟩;have H2:Aside0 (inB x.num 0 99=b2):=⟨by rw [<-y2,num_in]⟩;have Y1:=am y1;have Y2:=am y2;clear hcl hK hcc hxx y1 y2
   go_wp2_with (first
   |((first|with_reducible refine gB ?_ | with_reducible refine gA ?_);refine oB rfl M.out ?_;clear M C;intro g W M C;simp only [Cl] at C)
   |((with_reducible refine gL ?_);refine oR rfl rfl M.out HCC.out ?_)
   |((with_reducible refine gS ?_);refine oS rfl rfl rfl M.out ?_;clear M C;intro W M C;simp only [Cl] at C))
   cases b1
   case false=>
    refine dS M.out ?_;clear M C;intro W M;refine dN [0,1,2] M.out ?_;iterate 3 (first|refine sP rfl ?_ | refine sG rfl ?_ | refine sU rfl ?_ | refine sN rfl ?_)
    refine stillS_nil ?_;refine dC 3 rfl ?_;refine oEb (isPlace_calls _ _ _) Y1.out ?_;refine ⟨_,rfl,M,dA ?_⟩;refine dN [4,5,6,7] M.out ?_;iterate 4 (first|refine sP rfl ?_ | refine sG rfl ?_ | refine sU rfl ?_ | refine sN rfl ?_)
    refine stillS_nil ?_;refine dU 8 rfl rfl M.out (dA ?_);refine dN [9,10,11,12,13,14,15,16,17,18,19,20,21,22,23,24,25] M.out ?_;iterate 17 (first|refine sP rfl ?_ | refine sG rfl ?_ | refine sU rfl ?_ | refine sN rfl ?_)
    refine stillS_nil ?_;refine dD ?_;have C:=M.out.cl;simp only [Cl] at C;go_wp2;go_ret;rw [show listOk xs n=false from allB_no hlt (by rw [<-HXX.out,H1.out,Bool.false_and,Bool.false_and])];exact ⟨rfl,M.out.below⟩
   cases b2
   case false=>
    refine dS M.out ?_;clear M C;intro W M;refine dN [0,1,2] M.out ?_;iterate 3 (first|refine sP rfl ?_ | refine sG rfl ?_ | refine sU rfl ?_ | refine sN rfl ?_)
    refine stillS_nil ?_;refine dC 3 rfl ?_;refine oEb (isPlace_calls _ _ _) Y1.out ?_;refine ⟨_,rfl,M,dA ?_⟩;refine dN [4,5,6,7] M.out ?_;iterate 4 (first|refine sP rfl ?_ | refine sG rfl ?_ | refine sU rfl ?_ | refine sN rfl ?_)
    refine stillS_nil ?_;refine dC 8 rfl ?_;refine oEb (isNum_calls _ _) Y2.out ?_;refine ⟨_,rfl,M,dA ?_⟩;refine dN [9,10,11,12,13,14,15,16,17,18,19,20,21,22,23,24,25] M.out ?_;iterate 17 (first|refine sP rfl ?_ | refine sG rfl ?_ | refine sU rfl ?_ | refine sN rfl ?_)
    refine stillS_nil ?_;refine dD ?_;have C:=M.out.cl;simp only [Cl] at C;go_wp2;go_ret;rw [show listOk xs n=false from allB_no hlt (by rw [<-HXX.out,H2.out,Bool.and_false,Bool.false_and])];exact ⟨rfl,M.out.below⟩
   by_cases hk0:k=0
   ·have y0:decide ((0:Int) < (k:Int))=false:=decide_eq_false (by omega)
    have y0':decide (0 < k)=false:=decide_eq_false (by omega);refine dS M.out ?_;clear M C;intro W M;refine dN [0,1,2] M.out ?_;iterate 3 (first|refine sP rfl ?_ | refine sG rfl ?_ | refine sU rfl ?_ | refine sN rfl ?_)
    refine stillS_nil ?_;refine dC 3 rfl ?_;refine oEb (isPlace_calls _ _ _) Y1.out ?_;refine ⟨_,rfl,M,dA ?_⟩;refine dN [4,5,6,7] M.out ?_;iterate 4 (first|refine sP rfl ?_ | refine sG rfl ?_ | refine sU rfl ?_ | refine sN rfl ?_)
    refine stillS_nil ?_;refine dC 8 rfl ?_;refine oEb (isNum_calls _ _) Y2.out ?_;refine ⟨_,rfl,M,dA ?_⟩;refine dN [9,10,11,12,13,14,15,16,17,18,19,20,21,22,23,24,25] M.out ?_;iterate 17 (first|refine sP rfl ?_ | refine sG rfl ?_ | refine sU rfl ?_ | refine sN rfl ?_)
    refine stillS_nil ?_;refine dD ?_;have C:=M.out.cl;simp only [Cl] at C;go_wp2;go_roundw
    case rel=>exact ⟨k+1,by omega,by go_num,⟨fun i hi=>by rcases Nat.lt_or_ge i k with h | h;exact HJ.out i h;obtain rfl:i=k:=(by omega);rw [<-HXX.out,H1.out,H2.out,decide_eq_true hk0,Bool.true_or];rfl⟩,⟨M.out.pop⟩⟩
    case measure=>simp [intOf];omega
   ·have y0:decide ((0:Int) < (k:Int))=true:=decide_eq_true (by omega)
    have y0':decide (0 < k)=true:=decide_eq_true (by omega);obtain ⟨xp,hxp⟩:∃ x,x=putAt xs (k - 1):=⟨_,rfl⟩;have p0:=(HC.out (k - 1) (by omega)).1;rw [<-hxp] at p0;have HXP:=am hxp;have s0:(0:Int)<=(k:Int) - 1:=by omega
    have s1:(k:Int) - 1 < (xs.length:Int):=by omega
    have s2:((k:Int) - 1).toNat=k - 1:=by omega
    have s3:(1:Int)<=(k:Int):=by omega
    have s4:1<=k:=by omega
    have w2:wrap64 ((k:Int) - 1)=(k:Int) - 1:=by unfold wrap64;omega
    replace M:=am (M.out.far p0);clear C;have C:=M.out.cl;simp only [Cl] at C;clear p0 hxp;obtain ⟨b3,y3⟩:∃ b,decide (x.cell<=xp.cell)=b:=⟨_,rfl⟩;have Y3:=am y3;cases b3
    ·refine dS M.out ?_
     clear M C;intro W M;refine dN [0,1,2] M.out ?_;iterate 3 (first|refine sP rfl ?_ | refine sG rfl ?_ | refine sU rfl ?_ | refine sN rfl ?_)
     refine stillS_nil ?_;refine dC 3 rfl ?_;refine oEb (isPlace_calls _ _ _) Y1.out ?_;refine ⟨_,rfl,M,dA ?_⟩;refine dN [4,5,6,7] M.out ?_;iterate 4 (first|refine sP rfl ?_ | refine sG rfl ?_ | refine sU rfl ?_ | refine sN rfl ?_)
     refine stillS_nil ?_;refine dC 8 rfl ?_;refine oEb (isNum_calls _ _) Y2.out ?_;refine ⟨_,rfl,M,dA ?_⟩;refine dN [9,10,11,12,13,14,15,16,17,18,19,20,21,22,23,24,25] M.out ?_;iterate 17 (first|refine sP rfl ?_ | refine sG rfl ?_ | refine sU rfl ?_ | refine sN rfl ?_)
     refine stillS_nil ?_;refine dD ?_;have C:=M.out.cl;simp only [Cl] at C;go_wp2;go_roundw
     case rel=>exact ⟨k+1,by omega,by go_num,⟨fun i hi=>by rcases Nat.lt_or_ge i k with h | h;exact HJ.out i h;obtain rfl:i=k:=(by omega);rw [<-HXX.out,H1.out,H2.out,<-HXP.out,decide_eq_true (show xp.cell < x.cell from Int.not_le.1 (of_decide_eq_false Y3.out)),Bool.or_true];rfl⟩,⟨M.out.pop.pop⟩⟩
     case measure=>simp [intOf];omega
    ·refine dS M.out ?_
     clear M C;intro W M;refine dN [0,1,2] M.out ?_;iterate 3 (first|refine sP rfl ?_ | refine sG rfl ?_ | refine sU rfl ?_ | refine sN rfl ?_)
     refine stillS_nil ?_;refine dC 3 rfl ?_;refine oEb (isPlace_calls _ _ _) Y1.out ?_;refine ⟨_,rfl,M,dA ?_⟩;refine dN [4,5,6,7] M.out ?_;iterate 4 (first|refine sP rfl ?_ | refine sG rfl ?_ | refine sU rfl ?_ | refine sN rfl ?_)
     refine stillS_nil ?_;refine dC 8 rfl ?_;refine oEb (isNum_calls _ _) Y2.out ?_;refine ⟨_,rfl,M,dA ?_⟩;refine dN [9,10,11,12,13,14,15,16,17,18,19,20,21,22,23,24,25] M.out ?_;iterate 17 (first|refine sP rfl ?_ | refine sG rfl ?_ | refine sU rfl ?_ | refine sN rfl ?_)
     refine stillS_nil ?_;refine dD ?_;have C:=M.out.cl;simp only [Cl] at C;go_wp2;go_ret;rw [show listOk xs n=false from allB_no hlt (by rw [<-HXX.out,<-HXP.out,decide_eq_false hk0,decide_eq_false (show ¬ xp.cell < x.cell from Int.not_lt.2 (of_decide_eq_true Y3.out)),Bool.false_or,Bool.and_false])];exact ⟨rfl,M.out.below⟩
  ·obtain rfl:k=xs.length:=by omega
   have q1:¬ (xs.length:Int) < (xs.length:Int):=by omega
   go_wp2;go_ret;rw [show listOk xs n=true from allB_iff.2 HJ.out];exact ⟨rfl,M.out.below⟩
def cellsB (s:Sys):Bool:=allB s.cells.length fun i=>(inB (cellAt s.cells i).num 0 99 && inB (cellAt s.cells i).time 0 s.clock)
theorem cellsOk_calls (s:Sys) (ss:List Value) (w:World) (hs:kSys.K w s ss) (hm:s.cells.length<=1048576):
  Calls Try.prog 62 #[.agg ss.toArray] w fun e w'=>e= .returned (.bool (cellsB s))/\Below w.heap.size w w':=by
 obtain ⟨A0,c0,A1,c1,A3,c3,rfl,-,g0,-,-,-⟩:=kSys_open hs;have G0:=am g0;clear hs g0;go_enter Try.func62,Try.ntmps62
 go_wp2_with (first
 |((with_reducible refine gate_dst (N:=1) rfl ?_);refine box_event rfl (N:=1) rfl (t:=27) (by go_simp<;>rfl) ?_;intro gs hg w2 hbox hb;have BS:=am hbox;have HB:=am hb;have BSc:=zc8 BS.out;clear hbox hb hg))
 go_loopw [8] (fun j w'=>∃ k:Nat,k<=s.cells.length/\j= .int .i64 k/\Aside0 (∀ i,i < k->(inB (cellAt s.cells i).num 0 99 && inB (cellAt s.cells i).time 0 s.clock)=true)/\Aside0 (w'.heap[gs]? = some (.cells #[.slice A0 s.cells.length c0,.slice A1 s.tasks.length c1,.int .i64 s.clock,.slice A3 s.log.length c3] 27 (0,0)))/\Aside0 (Below w.heap.size w w')) (fun j _=>s.cells.length - (intOf j).toNat)
 case atStart=>exact ⟨0,Nat.zero_le _,rfl,⟨fun i hi=>by omega⟩,BS,HB⟩
 case round=>
  clear BS HB BSc;obtain ⟨k,hk,rfl,HJ,BS,HB⟩:=hrel;have BSc:=zc8 BS.out;by_cases hlt:k < s.cells.length
  ·obtain ⟨bc,oc,cs,rfl,hcl,hK,hcc,-⟩:=C_field G0.out zCell k hlt (by decide)
   obtain ⟨c,hcx⟩:∃ x,x=cellAt s.cells k:=⟨_,rfl⟩;rw [show s.cells.getD k zCell=c from hcx.symm] at hK;have e:=kCell_open hK;subst e;have HC:=am hcc;have CX:=am hcx;have q0:(0:Int)<=(k:Int):=by omega
   have q1:(k:Int) < (s.cells.length:Int):=by omega
   clear hcl hK hcc hcx
   cases hb1:inB c.num 0 99 with
   | false=>
    have H1:Aside0 ((decide (0<=c.num) && decide (c.num < 100))=false):=⟨by rw [num_in,hb1]⟩;have H1b:=am hb1;clear hb1
    go_wp2_with (first
    |((with_reducible refine gate_dst (N:=11) rfl ?_);refine wpList_load_mid rfl 53 (.tmp 10) rfl bc (oc+k*3) rfl _ _ (fun j u hu=>cellB HB.out (HC.out j u hu)) Try.underlying53 rfl (by kernel_rfl) ?_)|((with_reducible refine gate_dst (N:=4) rfl ?_);refine box_event rfl (N:=4) rfl (t:=53) (by go_simp<;>rfl) ?_;intro gc hg wt hbox hb;have BC0:=am hbox;have GC:=am hg;have HBT:=am hb;clear hbox hb hg)|((with_reducible refine gate_store (t:=53) (p:=4) rfl ?_);refine store_block rfl rfl 53 (.tmp 4) (.tmp 11) rfl rfl rfl BC0.out rfl (by kernel_rfl) (aB rfl) ?_;intro wn hbox hg;have BC:=am hbox;have hbx:=pw_below_grown HBT.out _ HBT.out.size hg (fun z hz=>by cases hz;exact Nat.le_of_eq GC.out.symm);replace BS:=am (zb8 BS.out hbx);replace HB:=am (below_step HB.out hbx);clear BSc BC0 HBT hbx hbox hg;have BSc:=zc8 BS.out;have BCc:=zc8 BC.out)
    |(go_at_call 101;refine (isNum_calls _ _).mono ?_;rw [H1.out];rintro e w9 ⟨rfl,rfl⟩))
    go_ret;have hr:cellsB s=false:=allB_no hlt (by rw [<-CX.out,H1b.out,Bool.false_and]);rw [hr]
    exact ⟨rfl,HB.out⟩
   | true=>
    have H1:Aside0 ((decide (0<=c.num) && decide (c.num < 100))=true):=⟨by rw [num_in,hb1]⟩;have H1b:=am hb1;clear hb1;by_cases h0:c.time < 0
    ·have y0:decide (c.time < 0)=true:=decide_eq_true h0
     have H2:Aside0 (inB c.time 0 s.clock=false):=⟨by rw [Bool.eq_false_iff];intro h;have:=inB_iff.1 h;omega⟩;clear h0
     go_wp2_with (first
     |((with_reducible refine gate_dst (N:=11) rfl ?_);refine wpList_load_mid rfl 53 (.tmp 10) rfl bc (oc+k*3) rfl _ _ (fun j u hu=>cellB HB.out (HC.out j u hu)) Try.underlying53 rfl (by kernel_rfl) ?_)|((with_reducible refine gate_dst (N:=4) rfl ?_);refine box_event rfl (N:=4) rfl (t:=53) (by go_simp<;>rfl) ?_;intro gc hg wt hbox hb;have BC0:=am hbox;have GC:=am hg;have HBT:=am hb;clear hbox hb hg)|((with_reducible refine gate_store (t:=53) (p:=4) rfl ?_);refine store_block rfl rfl 53 (.tmp 4) (.tmp 11) rfl rfl rfl BC0.out rfl (by kernel_rfl) (aB rfl) ?_;intro wn hbox hg;have BC:=am hbox;have hbx:=pw_below_grown HBT.out _ HBT.out.size hg (fun z hz=>by cases hz;exact Nat.le_of_eq GC.out.symm);replace BS:=am (zb8 BS.out hbx);replace HB:=am (below_step HB.out hbx);clear BSc BC0 HBT hbx hbox hg;have BSc:=zc8 BS.out;have BCc:=zc8 BC.out)
     |(go_at_call 101;refine (isNum_calls _ _).mono ?_;rw [H1.out];rintro e w9 ⟨rfl,rfl⟩))
     go_ret;have hr:cellsB s=false:=allB_no hlt (by rw [<-CX.out,H2.out,Bool.and_false]);rw [hr];exact ⟨rfl,HB.out⟩
    ·have y0:decide (c.time < 0)=false:=decide_eq_false h0
     by_cases h1:s.clock < c.time
     ·have y1:decide (s.clock < c.time)=true:=decide_eq_true h1
      have H2:Aside0 (inB c.time 0 s.clock=false):=⟨by rw [Bool.eq_false_iff];intro h;have:=inB_iff.1 h;omega⟩;clear h0 h1
      go_wp2_with (first
      |((with_reducible refine gate_dst (N:=11) rfl ?_);refine wpList_load_mid rfl 53 (.tmp 10) rfl bc (oc+k*3) rfl _ _ (fun j u hu=>cellB HB.out (HC.out j u hu)) Try.underlying53 rfl (by kernel_rfl) ?_)|((with_reducible refine gate_dst (N:=4) rfl ?_);refine box_event rfl (N:=4) rfl (t:=53) (by go_simp<;>rfl) ?_;intro gc hg wt hbox hb;have BC0:=am hbox;have GC:=am hg;have HBT:=am hb;clear hbox hb hg)|((with_reducible refine gate_store (t:=53) (p:=4) rfl ?_);refine store_block rfl rfl 53 (.tmp 4) (.tmp 11) rfl rfl rfl BC0.out rfl (by kernel_rfl) (aB rfl) ?_;intro wn hbox hg;have BC:=am hbox;have hbx:=pw_below_grown HBT.out _ HBT.out.size hg (fun z hz=>by cases hz;exact Nat.le_of_eq GC.out.symm);replace BS:=am (zb8 BS.out hbx);replace HB:=am (below_step HB.out hbx);clear BSc BC0 HBT hbx hbox hg;have BSc:=zc8 BS.out;have BCc:=zc8 BC.out)
      |(go_at_call 101;refine (isNum_calls _ _).mono ?_;rw [H1.out];rintro e w9 ⟨rfl,rfl⟩))
      go_ret;have hr:cellsB s=false:=allB_no hlt (by rw [<-CX.out,H2.out,Bool.and_false]);rw [hr];exact ⟨rfl,HB.out⟩
     ·have y1:decide (s.clock < c.time)=false:=decide_eq_false h1
      have H2:Aside0 (inB c.time 0 s.clock=true):=⟨inB_iff.2 (by omega)⟩;clear h0 h1
      go_wp2_with (first
      |((with_reducible refine gate_dst (N:=11) rfl ?_);refine wpList_load_mid rfl 53 (.tmp 10) rfl bc (oc+k*3) rfl _ _ (fun j u hu=>cellB HB.out (HC.out j u hu)) Try.underlying53 rfl (by kernel_rfl) ?_)|((with_reducible refine gate_dst (N:=4) rfl ?_);refine box_event rfl (N:=4) rfl (t:=53) (by go_simp<;>rfl) ?_;intro gc hg wt hbox hb;have BC0:=am hbox;have GC:=am hg;have HBT:=am hb;clear hbox hb hg)|((with_reducible refine gate_store (t:=53) (p:=4) rfl ?_);refine store_block rfl rfl 53 (.tmp 4) (.tmp 11) rfl rfl rfl BC0.out rfl (by kernel_rfl) (aB rfl) ?_;intro wn hbox hg;have BC:=am hbox;have hbx:=pw_below_grown HBT.out _ HBT.out.size hg (fun z hz=>by cases hz;exact Nat.le_of_eq GC.out.symm);replace BS:=am (zb8 BS.out hbx);replace HB:=am (below_step HB.out hbx);clear BSc BC0 HBT hbx hbox hg;have BSc:=zc8 BS.out;have BCc:=zc8 BC.out)
      |(go_at_call 101;refine (isNum_calls _ _).mono ?_;rw [H1.out];rintro e w9 ⟨rfl,rfl⟩))
      go_roundw
      case rel=>exact ⟨k+1,by omega,by go_num,⟨fun i hi=>by rcases Nat.lt_or_ge i k with h | h;exact HJ.out i h;obtain rfl:i=k:=(by omega);rw [<-CX.out,H1b.out,H2.out];rfl⟩,BS,HB⟩
      case measure=>simp [intOf];omega
  ·obtain rfl:k=s.cells.length:=by omega
   have q1:¬ (s.cells.length:Int) < (s.cells.length:Int):=by omega
   go_wp2;go_ret;have hr:cellsB s=true:=allB_iff.2 HJ.out;rw [hr];exact ⟨rfl,HB.out⟩
end Go.Proofs.Ytimamoimphjakaa.Eq
