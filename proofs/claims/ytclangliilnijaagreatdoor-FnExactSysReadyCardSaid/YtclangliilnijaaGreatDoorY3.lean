import Derived.Test.YtclangliilnijaaGreatDoorY2
set_option maxHeartbeats 8000000
set_option maxRecDepth 100000
set_option linter.unusedVariables false
set_option linter.unusedSimpArgs false
namespace Go.Proofs.YtclangliilnijaaGreatDoor.Eq
open Go.RowKit Go.Proofs.YtclangliilnijaaGreatDoorW.PrintWords Go.Proofs.YtclangliilnijaaGreatDoorW.PrintLast Go.Proofs.YtclangliilnijaaGreatDoorW.PrintMore
theorem l1Act_calls (p:Prog) (a:Act) (pcs acs:List Value) (body:Int) (w:World) (hp:kProg.K w p pcs) (ha:kAct.K w a acs) (hc:p.cells.length<=1048576) (hbd:p.bodies.length<=1048576) (hb0:0<=body) (hb1:body<=1048576) (hdn:a.deeds.length<=1048576) (hkn:a.kids.length<=1048576):
  Calls Tryz.prog 157 #[.agg pcs.toArray,.int .i64 body,.agg acs.toArray] w fun e w'=>e= .returned (.bool (actOk p.cells.length p.bodies.length body a))/\Below w.heap.size w w':=by
 obtain ⟨Ac,cc,Ab,cb,rfl,-⟩:=kProg_open hp;obtain ⟨Ad,cd,Ak,ck,rfl,-,gd,-,gk⟩:=kAct_open ha;have HDS:=am gd;have HKS:=am gk;clear hp ha gd gk;go_enter Tryz.func157,Tryz.ntmps157;by_cases kk:a.kind=1
 ·skip
  have z1:(a.kind != 1)=false:=by simp [kk]
  have z2:(a.kind != 2)=true:=by simp [kk]
  have z4:(a.kind != 4)=true:=by simp [kk]
  have y1:(a.kind == 1)=true:=by simp [kk]
  have KK:=am kk;clear kk;by_cases e_kids:a.kids= []
  ·have u_kids:decide (0 < a.kids.length)=false:=by rw [e_kids];rfl
   have v_kids:decide (0 < (a.kids.length:Int))=false:=by rw [e_kids];rfl
   have E_kids:=am e_kids;clear e_kids;by_cases r0:a.reg=0
   ·have u_reg:(a.reg != 0)=false:=by simp [r0]
    have E_reg:=am r0;clear r0
    go_wp2_with (first
    |((with_reducible refine gate_dst (N:=3) rfl ?_);refine box_event rfl (N:=3) rfl (t:=36) (by go_simp<;>rfl) ?_;intro gp hg w1 hbox hb;have BP:=am hbox;have HB:=am hb;have BPc:=zc8 BP.out;clear hbox hb hg)
    |((with_reducible refine gate_dst (N:=5) rfl ?_);refine box_event rfl (N:=5) rfl (t:=68) (by go_simp<;>rfl) ?_;intro ga hg w2 hbox hb;have BA:=am hbox;replace HB:=am (below_step HB.out hb);replace BP:=am (zb8 BP.out hb);clear BPc hbox hb hg;have BPc:=zc8 BP.out;have BAc:=zc8 BA.out))
    go_loopw [7] (fun j w'=>∃ k:Nat,k<=a.deeds.length/\j= .int .i64 k/\Aside0 (∀ i,i < k->deedOk (deedAt a.deeds i) p.cells.length=true)/\Aside0 (w'.heap[gp]? = some (.cells #[.slice Ac p.cells.length cc,.slice Ab p.bodies.length cb] 36 (0,0)))/\Aside0 (w'.heap[ga]? = some (.cells #[.int .i64 a.kind,.slice Ad a.deeds.length cd,.slice Ak a.kids.length ck,.int .i64 a.reg] 68 (0,0)))/\Aside0 (Below w.heap.size w w')) (fun j _=>a.deeds.length - (intOf j).toNat)
    case atStart=>exact ⟨0,Nat.zero_le _,rfl,⟨fun i hi=>by omega⟩,BP,BA,HB⟩
    case round=>
     clear BP BA HB BPc BAc;obtain ⟨k,hk,rfl,HJ,BP,BA,HB⟩:=hrel;have BPc:=zc8 BP.out;have BAc:=zc8 BA.out;by_cases hlt:k < a.deeds.length
     ·obtain ⟨bd,od,cs,rfl,hcl,hK,hcc,-⟩:=C_field HDS.out zDeed k hlt (by decide)
      obtain ⟨d,hd⟩:∃ d,d=deedAt a.deeds k:=⟨_,rfl⟩;rw [show a.deeds.getD k zDeed=d from hd.symm] at hK;have e:=kDeed_open hK;subst e;have p0:=hcc 0 _ rfl;have p1:=hcc 1 _ rfl;have p2:=hcc 2 _ rfl;simp only [show kDeed.sz=3 from rfl,Nat.add_zero] at p0 p1 p2;have D0:=am p0;have D1:=am p1;have D2:=am p2;have DX:=am hd;have q0:(0:Int)<=(k:Int):=by omega
      have q1:(k:Int) < (a.deeds.length:Int):=by omega
      clear hcc hK hcl hd p0 p1 p2
      cases hdo:deedOk d p.cells.length with
      | true=>
       have HD:=am hdo;clear hdo;go_wp2;refine st9 (n:=10) (S:=fun W=>W.heap[gp]? = some (.cells #[.slice Ac p.cells.length cc,.slice Ab p.bodies.length cb] 36 (0,0))/\W.heap[ga]? = some (.cells #[.int .i64 a.kind,.slice (some ⟨bd,od,none⟩) a.deeds.length cd,.slice Ak a.kids.length ck,.int .i64 a.reg] 68 (0,0))/\W.cell? ⟨bd,od+k*3,none⟩=some (.int .i64 d.kind)/\W.cell? ⟨bd,od+k*3+1,none⟩=some (.int .i64 d.a)/\W.cell? ⟨bd,od+k*3+2,none⟩=some (.int .i64 d.b)) (ds:= []) (by kernel_rfl) rfl ⟨blk_drew BP.out,blk_drew BA.out,(show wr.cell? ⟨bd,od+k*3,none⟩=_ from cellB HB.out D0.out),(show wr.cell? ⟨bd,od+k*3+1,none⟩=_ from cellB HB.out D1.out),(show wr.cell? ⟨bd,od+k*3+2,none⟩=_ from cellB HB.out D2.out)⟩ (fun hHeld=> ?_);have hb:=below_drew (Below.refl wr.heap.size wr);generalize wr.drew=w7 at hb hHeld ⊢;have HB7:=am (below_step HB.out hb);clear hb HB BP BA BPc BAc;refine ba9 (fuel:=2) (n:=8) [0,1,2,3,4,5,6,7] (by kernel_rfl) (fun N _ _ _ _ h=>by cases N <;> exact h) hHeld ?_
       iterate 8 (
        refine stillS_step (v:= ?_) (a':= ?_) rfl (Or.inl ⟨by rfl, ?_⟩) ?_ ?_;rotate_left
        ·rintro W ⟨s0,s2,s3,s4,s5⟩
         have t0:=zc8 s0;have t2:=zc8 s2;clear s0 s2;go_simp;with_reducible rfl
        rotate_left
        ·simp only [Act.put,sA,sZ,sS,i64_w]
         rfl)
       refine stillS_nil ?_;refine on9 (i:=8) (N:=some 57) rfl rfl (by kernel_rfl) (by decide) (fun K hK=> ?_);refine goes_ Tryz.func188 (by kernel_rfl) rfl #[.agg #[.int .i64 d.kind,.int .i64 d.a,.int .i64 d.b],.int .i64 p.cells.length] (by rfl) rfl rfl (by (try simp only [List.map_toArray,List.map_cons,List.map_nil]);first | done | rfl) ?_;refine (l1Deed_calls d p.cells.length _ (by omega) (by omega)).mono ?_;rw [HD.out];rintro e wn ⟨rfl,hb⟩;refine ⟨_,rfl, ?_⟩;refine hK.out _ _ ⟨zb8 hHeld.1 hb,zb8 hHeld.2.1 hb,cellB hb hHeld.2.2.1,cellB hb hHeld.2.2.2.1,cellB hb hHeld.2.2.2.2⟩ (fun hHeld=> ?_);clear hK K;refine norm_ (a':= ?_) ?_ ?_;rotate_left
       ·show Act.put _ (some 57) _=_
        simp only [Act.put,sA,sZ,sS,i64_w];rfl
       have HB:=am (below_step HB7.out hb);refine ba9 (fuel:=0) (n:=1) [9] (by kernel_rfl) (fun N _ _ _ _ h=>by cases N <;> exact h) hHeld ?_
       iterate 1 (
        refine stillS_step (v:= ?_) (a':= ?_) rfl (Or.inl ⟨by rfl, ?_⟩) ?_ ?_;rotate_left
        ·intro W hW
         go_simp
         with_reducible rfl
        rotate_left
        ·simp only [Act.put,sA,sZ,sS,i64_w]
         rfl)
       refine stillS_nil ?_;have BP:=am hHeld.1;have BA:=am hHeld.2.1;clear hHeld HB7 hb;have BPc:=zc8 BP.out;have BAc:=zc8 BA.out;refine done_ (by kernel_rfl) ?_;go_wp2;go_roundw
       case rel=>exact ⟨k+1,by omega,by go_num,⟨fun i hi=>by rcases Nat.lt_or_ge i k with h | h;exact HJ.out i h;obtain rfl:i=k:=(by omega);rw [<-DX.out];exact HD.out⟩,BP,BA,HB⟩
       case measure=>simp [intOf];omega
      | false=>
       have HD:=am hdo;clear hdo;go_wp2;refine st9 (n:=10) (S:=fun W=>W.heap[gp]? = some (.cells #[.slice Ac p.cells.length cc,.slice Ab p.bodies.length cb] 36 (0,0))/\W.heap[ga]? = some (.cells #[.int .i64 a.kind,.slice (some ⟨bd,od,none⟩) a.deeds.length cd,.slice Ak a.kids.length ck,.int .i64 a.reg] 68 (0,0))/\W.cell? ⟨bd,od+k*3,none⟩=some (.int .i64 d.kind)/\W.cell? ⟨bd,od+k*3+1,none⟩=some (.int .i64 d.a)/\W.cell? ⟨bd,od+k*3+2,none⟩=some (.int .i64 d.b)) (ds:= []) (by kernel_rfl) rfl ⟨blk_drew BP.out,blk_drew BA.out,(show wr.cell? ⟨bd,od+k*3,none⟩=_ from cellB HB.out D0.out),(show wr.cell? ⟨bd,od+k*3+1,none⟩=_ from cellB HB.out D1.out),(show wr.cell? ⟨bd,od+k*3+2,none⟩=_ from cellB HB.out D2.out)⟩ (fun hHeld=> ?_);have hb:=below_drew (Below.refl wr.heap.size wr);generalize wr.drew=w7 at hb hHeld ⊢;have HB7:=am (below_step HB.out hb);clear hb HB BP BA BPc BAc;refine ba9 (fuel:=2) (n:=8) [0,1,2,3,4,5,6,7] (by kernel_rfl) (fun N _ _ _ _ h=>by cases N <;> exact h) hHeld ?_
       iterate 8 (
        refine stillS_step (v:= ?_) (a':= ?_) rfl (Or.inl ⟨by rfl, ?_⟩) ?_ ?_;rotate_left
        ·rintro W ⟨s0,s2,s3,s4,s5⟩
         have t0:=zc8 s0;have t2:=zc8 s2;clear s0 s2;go_simp;with_reducible rfl
        rotate_left
        ·simp only [Act.put,sA,sZ,sS,i64_w]
         rfl)
       refine stillS_nil ?_;refine on9 (i:=8) (N:=some 57) rfl rfl (by kernel_rfl) (by decide) (fun K hK=> ?_);refine goes_ Tryz.func188 (by kernel_rfl) rfl #[.agg #[.int .i64 d.kind,.int .i64 d.a,.int .i64 d.b],.int .i64 p.cells.length] (by rfl) rfl rfl (by (try simp only [List.map_toArray,List.map_cons,List.map_nil]);first | done | rfl) ?_;refine (l1Deed_calls d p.cells.length _ (by omega) (by omega)).mono ?_;rw [HD.out];rintro e wn ⟨rfl,hb⟩;refine ⟨_,rfl, ?_⟩;refine hK.out _ _ ⟨zb8 hHeld.1 hb,zb8 hHeld.2.1 hb,cellB hb hHeld.2.2.1,cellB hb hHeld.2.2.2.1,cellB hb hHeld.2.2.2.2⟩ (fun hHeld=> ?_);clear hK K;refine norm_ (a':= ?_) ?_ ?_;rotate_left
       ·show Act.put _ (some 57) _=_
        simp only [Act.put,sA,sZ,sS,i64_w];rfl
       have HB:=am (below_step HB7.out hb);refine ba9 (fuel:=0) (n:=1) [9] (by kernel_rfl) (fun N _ _ _ _ h=>by cases N <;> exact h) hHeld ?_
       iterate 1 (
        refine stillS_step (v:= ?_) (a':= ?_) rfl (Or.inl ⟨by rfl, ?_⟩) ?_ ?_;rotate_left
        ·intro W hW
         go_simp
         with_reducible rfl
        rotate_left
        ·simp only [Act.put,sA,sZ,sS,i64_w]
         rfl)
       refine stillS_nil ?_;have BP:=am hHeld.1;have BA:=am hHeld.2.1;clear hHeld HB7 hb;have BPc:=zc8 BP.out;have BAc:=zc8 BA.out;refine done_ (by kernel_rfl) ?_;go_wp2;go_ret
       have hr:actOk p.cells.length p.bodies.length body a=false:=by
        unfold actOk;rw [if_neg (fun h=>by rcases h with h | h | h;exact (fun h=>h.1 KK.out) h;exact (fun h=>h.2 E_kids.out) h;exact (fun h=>h.2 E_reg.out) h),if_pos KK.out];unfold deedsOk;rw [allB_no hlt (by rw [<-DX.out];exact HD.out),Bool.false_and]
       rw [hr];exact ⟨rfl,HB.out⟩
     ·obtain rfl:k=a.deeds.length:=by omega
      go_wp2;go_ret
      have hr:actOk p.cells.length p.bodies.length body a=decide ((a.deeds.length:Int)<=5):=by
       unfold actOk;rw [if_neg (fun h=>by rcases h with h | h | h;exact (fun h=>h.1 KK.out) h;exact (fun h=>h.2 E_kids.out) h;exact (fun h=>h.2 E_reg.out) h),if_pos KK.out];unfold deedsOk;rw [allB_iff.2 HJ.out,Bool.true_and];exact decide_eq_decide.2 (by omega)
      rw [hr];exact ⟨rfl,HB.out⟩
   ·have u_reg:(a.reg != 0)=true:=by simp [r0]
    have E_reg:=am r0;clear r0
    go_wp2_with (first
    |((with_reducible refine gate_dst (N:=3) rfl ?_);refine box_event rfl (N:=3) rfl (t:=36) (by go_simp<;>rfl) ?_;intro gp hg w1 hbox hb;have BP:=am hbox;have HB:=am hb;have BPc:=zc8 BP.out;clear hbox hb hg)
    |((with_reducible refine gate_dst (N:=5) rfl ?_);refine box_event rfl (N:=5) rfl (t:=68) (by go_simp<;>rfl) ?_;intro ga hg w2 hbox hb;have BA:=am hbox;replace HB:=am (below_step HB.out hb);replace BP:=am (zb8 BP.out hb);clear BPc hbox hb hg;have BPc:=zc8 BP.out;have BAc:=zc8 BA.out))
    go_ret
    have hr:actOk p.cells.length p.bodies.length body a=false:=by
     unfold actOk;rw [if_pos (.inr (.inr ⟨(by have:=KK.out;omega),E_reg.out⟩))]
    rw [hr];exact ⟨rfl,HB.out⟩
  ·have l_kids:=List.length_pos_iff.2 e_kids
   have u_kids:decide (0 < a.kids.length)=true:=decide_eq_true l_kids;have v_kids:decide (0 < (a.kids.length:Int))=true:=decide_eq_true (by omega);have E_kids:=am e_kids;clear e_kids l_kids
   go_wp2_with (first
   |((with_reducible refine gate_dst (N:=3) rfl ?_);refine box_event rfl (N:=3) rfl (t:=36) (by go_simp<;>rfl) ?_;intro gp hg w1 hbox hb;have BP:=am hbox;have HB:=am hb;have BPc:=zc8 BP.out;clear hbox hb hg)
   |((with_reducible refine gate_dst (N:=5) rfl ?_);refine box_event rfl (N:=5) rfl (t:=68) (by go_simp<;>rfl) ?_;intro ga hg w2 hbox hb;have BA:=am hbox;replace HB:=am (below_step HB.out hb);replace BP:=am (zb8 BP.out hb);clear BPc hbox hb hg;have BPc:=zc8 BP.out;have BAc:=zc8 BA.out))
   go_ret
   have hr:actOk p.cells.length p.bodies.length body a=false:=by
    unfold actOk;rw [if_pos (.inr (.inl ⟨(by have:=KK.out;omega),E_kids.out⟩))]
   rw [hr];exact ⟨rfl,HB.out⟩
 ·have n1:=kk
  clear kk;by_cases kk:a.kind=2
  ·skip
   have z1:(a.kind != 1)=true:=by simp [kk]
   have z2:(a.kind != 2)=false:=by simp [kk]
   have z4:(a.kind != 4)=true:=by simp [kk]
   have y1:(a.kind == 1)=false:=by simp [kk]
   have y2:(a.kind == 2)=true:=by simp [kk]
   have KK:=am kk;clear kk n1;by_cases e_deeds:a.deeds= []
   ·have u_deeds:decide (0 < a.deeds.length)=false:=by rw [e_deeds];rfl
    have v_deeds:decide (0 < (a.deeds.length:Int))=false:=by rw [e_deeds];rfl
    have E_deeds:=am e_deeds;clear e_deeds;by_cases r0:a.reg=0
    ·have u_reg:(a.reg != 0)=false:=by simp [r0]
     have E_reg:=am r0;clear r0;obtain ⟨bz,hbz⟩:∃ b,kidsOk a.kids body p.bodies.length=b:=⟨_,rfl⟩;have HZ:=am hbz;clear hbz
     go_wp2_with (first
     |((with_reducible refine gate_dst (N:=3) rfl ?_);refine box_event rfl (N:=3) rfl (t:=36) (by go_simp<;>rfl) ?_;intro gp hg w1 hbox hb;have BP:=am hbox;have HB:=am hb;have BPc:=zc8 BP.out;clear hbox hb hg)
     |((with_reducible refine gate_dst (N:=5) rfl ?_);refine box_event rfl (N:=5) rfl (t:=68) (by go_simp<;>rfl) ?_;intro ga hg w2 hbox hb;have BA:=am hbox;replace HB:=am (below_step HB.out hb);replace BP:=am (zb8 BP.out hb);clear BPc hbox hb hg;have BPc:=zc8 BP.out;have BAc:=zc8 BA.out)
     |(go_at_call 189;refine (l1Kids_calls Ak ck a.kids body p.bodies.length _ (Kd.C_below HKS.out HB.out) hkn ⟨hb0,hb1⟩ ⟨by omega,by omega⟩).mono ?_;rw [HZ.out];rintro e w9 ⟨rfl,rfl⟩))
     go_ret
     have hr:actOk p.cells.length p.bodies.length body a=bz:=by
      unfold actOk;rw [if_neg (fun h=>by rcases h with h | h | h;exact (fun h=>h.2 E_deeds.out) h;exact (fun h=>h.1 KK.out) h;exact (fun h=>h.2 E_reg.out) h),if_neg (by have:=KK.out;omega),if_pos KK.out];exact HZ.out
     rw [hr];exact ⟨rfl,HB.out⟩
    ·have u_reg:(a.reg != 0)=true:=by simp [r0]
     have E_reg:=am r0;clear r0
     go_wp2_with (first
     |((with_reducible refine gate_dst (N:=3) rfl ?_);refine box_event rfl (N:=3) rfl (t:=36) (by go_simp<;>rfl) ?_;intro gp hg w1 hbox hb;have BP:=am hbox;have HB:=am hb;have BPc:=zc8 BP.out;clear hbox hb hg)
     |((with_reducible refine gate_dst (N:=5) rfl ?_);refine box_event rfl (N:=5) rfl (t:=68) (by go_simp<;>rfl) ?_;intro ga hg w2 hbox hb;have BA:=am hbox;replace HB:=am (below_step HB.out hb);replace BP:=am (zb8 BP.out hb);clear BPc hbox hb hg;have BPc:=zc8 BP.out;have BAc:=zc8 BA.out))
     go_ret
     have hr:actOk p.cells.length p.bodies.length body a=false:=by
      unfold actOk;rw [if_pos (.inr (.inr ⟨(by have:=KK.out;omega),E_reg.out⟩))]
     rw [hr];exact ⟨rfl,HB.out⟩
   ·have l_deeds:=List.length_pos_iff.2 e_deeds
    have u_deeds:decide (0 < a.deeds.length)=true:=decide_eq_true l_deeds;have v_deeds:decide (0 < (a.deeds.length:Int))=true:=decide_eq_true (by omega);have E_deeds:=am e_deeds;clear e_deeds l_deeds
    go_wp2_with (first
    |((with_reducible refine gate_dst (N:=3) rfl ?_);refine box_event rfl (N:=3) rfl (t:=36) (by go_simp<;>rfl) ?_;intro gp hg w1 hbox hb;have BP:=am hbox;have HB:=am hb;have BPc:=zc8 BP.out;clear hbox hb hg)
    |((with_reducible refine gate_dst (N:=5) rfl ?_);refine box_event rfl (N:=5) rfl (t:=68) (by go_simp<;>rfl) ?_;intro ga hg w2 hbox hb;have BA:=am hbox;replace HB:=am (below_step HB.out hb);replace BP:=am (zb8 BP.out hb);clear BPc hbox hb hg;have BPc:=zc8 BP.out;have BAc:=zc8 BA.out))
    go_ret
    have hr:actOk p.cells.length p.bodies.length body a=false:=by
     unfold actOk;rw [if_pos (.inl ⟨(by have:=KK.out;omega),E_deeds.out⟩)]
    rw [hr];exact ⟨rfl,HB.out⟩
  ·have n2:=kk
   clear kk;by_cases kk:a.kind=3
   ·skip
    have z1:(a.kind != 1)=true:=by simp [kk]
    have z2:(a.kind != 2)=true:=by simp [kk]
    have z4:(a.kind != 4)=true:=by simp [kk]
    have y1:(a.kind == 1)=false:=by simp [kk]
    have y2:(a.kind == 2)=false:=by simp [kk]
    have y3:(a.kind == 3)=true:=by simp [kk]
    have KK:=am kk;clear kk n1 n2;by_cases e_deeds:a.deeds= []
    ·have u_deeds:decide (0 < a.deeds.length)=false:=by rw [e_deeds];rfl
     have v_deeds:decide (0 < (a.deeds.length:Int))=false:=by rw [e_deeds];rfl
     have E_deeds:=am e_deeds;clear e_deeds;by_cases e_kids:a.kids= []
     ·have u_kids:decide (0 < a.kids.length)=false:=by rw [e_kids];rfl
      have v_kids:decide (0 < (a.kids.length:Int))=false:=by rw [e_kids];rfl
      have E_kids:=am e_kids;clear e_kids;by_cases r0:a.reg=0
      ·have u_reg:(a.reg != 0)=false:=by simp [r0]
       have E_reg:=am r0;clear r0
       go_wp2_with (first
       |((with_reducible refine gate_dst (N:=3) rfl ?_);refine box_event rfl (N:=3) rfl (t:=36) (by go_simp<;>rfl) ?_;intro gp hg w1 hbox hb;have BP:=am hbox;have HB:=am hb;have BPc:=zc8 BP.out;clear hbox hb hg)
       |((with_reducible refine gate_dst (N:=5) rfl ?_);refine box_event rfl (N:=5) rfl (t:=68) (by go_simp<;>rfl) ?_;intro ga hg w2 hbox hb;have BA:=am hbox;replace HB:=am (below_step HB.out hb);replace BP:=am (zb8 BP.out hb);clear BPc hbox hb hg;have BPc:=zc8 BP.out;have BAc:=zc8 BA.out))
       go_ret
       have hr:actOk p.cells.length p.bodies.length body a=true:=by
        unfold actOk;rw [if_neg (fun h=>by rcases h with h | h | h;exact (fun h=>h.2 E_deeds.out) h;exact (fun h=>h.2 E_kids.out) h;exact (fun h=>h.2 E_reg.out) h),if_neg (by have:=KK.out;omega),if_neg (by have:=KK.out;omega),if_pos KK.out]
       rw [hr];exact ⟨rfl,HB.out⟩
      ·have u_reg:(a.reg != 0)=true:=by simp [r0]
       have E_reg:=am r0;clear r0
       go_wp2_with (first
       |((with_reducible refine gate_dst (N:=3) rfl ?_);refine box_event rfl (N:=3) rfl (t:=36) (by go_simp<;>rfl) ?_;intro gp hg w1 hbox hb;have BP:=am hbox;have HB:=am hb;have BPc:=zc8 BP.out;clear hbox hb hg)
       |((with_reducible refine gate_dst (N:=5) rfl ?_);refine box_event rfl (N:=5) rfl (t:=68) (by go_simp<;>rfl) ?_;intro ga hg w2 hbox hb;have BA:=am hbox;replace HB:=am (below_step HB.out hb);replace BP:=am (zb8 BP.out hb);clear BPc hbox hb hg;have BPc:=zc8 BP.out;have BAc:=zc8 BA.out))
       go_ret
       have hr:actOk p.cells.length p.bodies.length body a=false:=by
        unfold actOk;rw [if_pos (.inr (.inr ⟨(by have:=KK.out;omega),E_reg.out⟩))]
       rw [hr];exact ⟨rfl,HB.out⟩
     ·have l_kids:=List.length_pos_iff.2 e_kids
      have u_kids:decide (0 < a.kids.length)=true:=decide_eq_true l_kids;have v_kids:decide (0 < (a.kids.length:Int))=true:=decide_eq_true (by omega);have E_kids:=am e_kids;clear e_kids l_kids
      go_wp2_with (first
      |((with_reducible refine gate_dst (N:=3) rfl ?_);refine box_event rfl (N:=3) rfl (t:=36) (by go_simp<;>rfl) ?_;intro gp hg w1 hbox hb;have BP:=am hbox;have HB:=am hb;have BPc:=zc8 BP.out;clear hbox hb hg)
      |((with_reducible refine gate_dst (N:=5) rfl ?_);refine box_event rfl (N:=5) rfl (t:=68) (by go_simp<;>rfl) ?_;intro ga hg w2 hbox hb;have BA:=am hbox;replace HB:=am (below_step HB.out hb);replace BP:=am (zb8 BP.out hb);clear BPc hbox hb hg;have BPc:=zc8 BP.out;have BAc:=zc8 BA.out))
      go_ret
      have hr:actOk p.cells.length p.bodies.length body a=false:=by
       unfold actOk;rw [if_pos (.inr (.inl ⟨(by have:=KK.out;omega),E_kids.out⟩))]
      rw [hr];exact ⟨rfl,HB.out⟩
    ·have l_deeds:=List.length_pos_iff.2 e_deeds
     have u_deeds:decide (0 < a.deeds.length)=true:=decide_eq_true l_deeds;have v_deeds:decide (0 < (a.deeds.length:Int))=true:=decide_eq_true (by omega);have E_deeds:=am e_deeds;clear e_deeds l_deeds
     go_wp2_with (first
     |((with_reducible refine gate_dst (N:=3) rfl ?_);refine box_event rfl (N:=3) rfl (t:=36) (by go_simp<;>rfl) ?_;intro gp hg w1 hbox hb;have BP:=am hbox;have HB:=am hb;have BPc:=zc8 BP.out;clear hbox hb hg)
     |((with_reducible refine gate_dst (N:=5) rfl ?_);refine box_event rfl (N:=5) rfl (t:=68) (by go_simp<;>rfl) ?_;intro ga hg w2 hbox hb;have BA:=am hbox;replace HB:=am (below_step HB.out hb);replace BP:=am (zb8 BP.out hb);clear BPc hbox hb hg;have BPc:=zc8 BP.out;have BAc:=zc8 BA.out))
     go_ret
     have hr:actOk p.cells.length p.bodies.length body a=false:=by
      unfold actOk;rw [if_pos (.inl ⟨(by have:=KK.out;omega),E_deeds.out⟩)]
     rw [hr];exact ⟨rfl,HB.out⟩
   ·have n3:=kk
    clear kk;by_cases kk:a.kind=4
    ·skip
     have z1:(a.kind != 1)=true:=by simp [kk]
     have z2:(a.kind != 2)=true:=by simp [kk]
     have z4:(a.kind != 4)=false:=by simp [kk]
     have y1:(a.kind == 1)=false:=by simp [kk]
     have y2:(a.kind == 2)=false:=by simp [kk]
     have y3:(a.kind == 3)=false:=by simp [kk]
     have y4:(a.kind == 4)=true:=by simp [kk]
     have KK:=am kk;clear kk n1 n2 n3;by_cases e_deeds:a.deeds= []
     ·have u_deeds:decide (0 < a.deeds.length)=false:=by rw [e_deeds];rfl
      have v_deeds:decide (0 < (a.deeds.length:Int))=false:=by rw [e_deeds];rfl
      have E_deeds:=am e_deeds;clear e_deeds;by_cases e_kids:a.kids= []
      ·have u_kids:decide (0 < a.kids.length)=false:=by rw [e_kids];rfl
       have v_kids:decide (0 < (a.kids.length:Int))=false:=by rw [e_kids];rfl
       have E_kids:=am e_kids;clear e_kids;obtain ⟨bz,hbz⟩:∃ b,inB a.reg 0 2=b:=⟨_,rfl⟩;have HI:Aside0 ((decide ((0:Int)<=a.reg) && decide (a.reg<=2))=bz):=⟨hbz⟩;clear hbz
       go_wp2_with (first
       |((with_reducible refine gate_dst (N:=3) rfl ?_);refine box_event rfl (N:=3) rfl (t:=36) (by go_simp<;>rfl) ?_;intro gp hg w1 hbox hb;have BP:=am hbox;have HB:=am hb;have BPc:=zc8 BP.out;clear hbox hb hg)
       |((with_reducible refine gate_dst (N:=5) rfl ?_);refine box_event rfl (N:=5) rfl (t:=68) (by go_simp<;>rfl) ?_;intro ga hg w2 hbox hb;have BA:=am hbox;replace HB:=am (below_step HB.out hb);replace BP:=am (zb8 BP.out hb);clear BPc hbox hb hg;have BPc:=zc8 BP.out;have BAc:=zc8 BA.out)
       |(go_at_call 76;refine (l6In_calls _ _ _ _).mono ?_;(first|rw [HI.out]);rintro e w9 ⟨rfl,rfl⟩))
       go_ret
       have hr:actOk p.cells.length p.bodies.length body a=bz:=by
        unfold actOk;rw [if_neg (fun h=>by rcases h with h | h | h;exact (fun h=>h.2 E_deeds.out) h;exact (fun h=>h.2 E_kids.out) h;exact (fun h=>h.1 KK.out) h),if_neg (by have:=KK.out;omega),if_neg (by have:=KK.out;omega),if_neg (by have:=KK.out;omega),if_pos KK.out];exact HI.out
       rw [hr];exact ⟨rfl,HB.out⟩
      ·have l_kids:=List.length_pos_iff.2 e_kids
       have u_kids:decide (0 < a.kids.length)=true:=decide_eq_true l_kids;have v_kids:decide (0 < (a.kids.length:Int))=true:=decide_eq_true (by omega);have E_kids:=am e_kids;clear e_kids l_kids
       go_wp2_with (first
       |((with_reducible refine gate_dst (N:=3) rfl ?_);refine box_event rfl (N:=3) rfl (t:=36) (by go_simp<;>rfl) ?_;intro gp hg w1 hbox hb;have BP:=am hbox;have HB:=am hb;have BPc:=zc8 BP.out;clear hbox hb hg)
       |((with_reducible refine gate_dst (N:=5) rfl ?_);refine box_event rfl (N:=5) rfl (t:=68) (by go_simp<;>rfl) ?_;intro ga hg w2 hbox hb;have BA:=am hbox;replace HB:=am (below_step HB.out hb);replace BP:=am (zb8 BP.out hb);clear BPc hbox hb hg;have BPc:=zc8 BP.out;have BAc:=zc8 BA.out))
       go_ret
       have hr:actOk p.cells.length p.bodies.length body a=false:=by
        unfold actOk;rw [if_pos (.inr (.inl ⟨(by have:=KK.out;omega),E_kids.out⟩))]
       rw [hr];exact ⟨rfl,HB.out⟩
     ·have l_deeds:=List.length_pos_iff.2 e_deeds
      have u_deeds:decide (0 < a.deeds.length)=true:=decide_eq_true l_deeds;have v_deeds:decide (0 < (a.deeds.length:Int))=true:=decide_eq_true (by omega);have E_deeds:=am e_deeds;clear e_deeds l_deeds
      go_wp2_with (first
      |((with_reducible refine gate_dst (N:=3) rfl ?_);refine box_event rfl (N:=3) rfl (t:=36) (by go_simp<;>rfl) ?_;intro gp hg w1 hbox hb;have BP:=am hbox;have HB:=am hb;have BPc:=zc8 BP.out;clear hbox hb hg)
      |((with_reducible refine gate_dst (N:=5) rfl ?_);refine box_event rfl (N:=5) rfl (t:=68) (by go_simp<;>rfl) ?_;intro ga hg w2 hbox hb;have BA:=am hbox;replace HB:=am (below_step HB.out hb);replace BP:=am (zb8 BP.out hb);clear BPc hbox hb hg;have BPc:=zc8 BP.out;have BAc:=zc8 BA.out))
      go_ret
      have hr:actOk p.cells.length p.bodies.length body a=false:=by
       unfold actOk;rw [if_pos (.inl ⟨(by have:=KK.out;omega),E_deeds.out⟩)]
      rw [hr];exact ⟨rfl,HB.out⟩
    ·have n4:=kk
     clear kk;have N1:=am n1;have N2:=am n2;have N3:=am n3;have N4:=am n4;have z1:(a.kind != 1)=true:=by simp [n1]
     have z2:(a.kind != 2)=true:=by simp [n2]
     have z4:(a.kind != 4)=true:=by simp [n4]
     have y1:(a.kind == 1)=false:=by simp [n1]
     have y2:(a.kind == 2)=false:=by simp [n2]
     have y3:(a.kind == 3)=false:=by simp [n3]
     have y4:(a.kind == 4)=false:=by simp [n4]
     clear n1 n2 n3 n4;by_cases e_deeds:a.deeds= []
     ·have u_deeds:decide (0 < a.deeds.length)=false:=by rw [e_deeds];rfl
      have v_deeds:decide (0 < (a.deeds.length:Int))=false:=by rw [e_deeds];rfl
      have E_deeds:=am e_deeds;clear e_deeds;by_cases e_kids:a.kids= []
      ·have u_kids:decide (0 < a.kids.length)=false:=by rw [e_kids];rfl
       have v_kids:decide (0 < (a.kids.length:Int))=false:=by rw [e_kids];rfl
       have E_kids:=am e_kids;clear e_kids;by_cases r0:a.reg=0
       ·have u_reg:(a.reg != 0)=false:=by simp [r0]
        have E_reg:=am r0;clear r0
        go_wp2_with (first
        |((with_reducible refine gate_dst (N:=3) rfl ?_);refine box_event rfl (N:=3) rfl (t:=36) (by go_simp<;>rfl) ?_;intro gp hg w1 hbox hb;have BP:=am hbox;have HB:=am hb;have BPc:=zc8 BP.out;clear hbox hb hg)
        |((with_reducible refine gate_dst (N:=5) rfl ?_);refine box_event rfl (N:=5) rfl (t:=68) (by go_simp<;>rfl) ?_;intro ga hg w2 hbox hb;have BA:=am hbox;replace HB:=am (below_step HB.out hb);replace BP:=am (zb8 BP.out hb);clear BPc hbox hb hg;have BPc:=zc8 BP.out;have BAc:=zc8 BA.out))
        go_ret
        have hr:actOk p.cells.length p.bodies.length body a=false:=by
         unfold actOk;rw [if_neg (fun h=>by rcases h with h | h | h;exact (fun h=>h.2 E_deeds.out) h;exact (fun h=>h.2 E_kids.out) h;exact (fun h=>h.2 E_reg.out) h),if_neg N1.out,if_neg N2.out,if_neg N3.out,if_neg N4.out]
        rw [hr];exact ⟨rfl,HB.out⟩
       ·have u_reg:(a.reg != 0)=true:=by simp [r0]
        have E_reg:=am r0;clear r0
        go_wp2_with (first
        |((with_reducible refine gate_dst (N:=3) rfl ?_);refine box_event rfl (N:=3) rfl (t:=36) (by go_simp<;>rfl) ?_;intro gp hg w1 hbox hb;have BP:=am hbox;have HB:=am hb;have BPc:=zc8 BP.out;clear hbox hb hg)
        |((with_reducible refine gate_dst (N:=5) rfl ?_);refine box_event rfl (N:=5) rfl (t:=68) (by go_simp<;>rfl) ?_;intro ga hg w2 hbox hb;have BA:=am hbox;replace HB:=am (below_step HB.out hb);replace BP:=am (zb8 BP.out hb);clear BPc hbox hb hg;have BPc:=zc8 BP.out;have BAc:=zc8 BA.out))
        go_ret
        have hr:actOk p.cells.length p.bodies.length body a=false:=by
         unfold actOk;rw [if_pos (.inr (.inr ⟨N4.out,E_reg.out⟩))]
        rw [hr];exact ⟨rfl,HB.out⟩
      ·have l_kids:=List.length_pos_iff.2 e_kids
       have u_kids:decide (0 < a.kids.length)=true:=decide_eq_true l_kids;have v_kids:decide (0 < (a.kids.length:Int))=true:=decide_eq_true (by omega);have E_kids:=am e_kids;clear e_kids l_kids
       go_wp2_with (first
       |((with_reducible refine gate_dst (N:=3) rfl ?_);refine box_event rfl (N:=3) rfl (t:=36) (by go_simp<;>rfl) ?_;intro gp hg w1 hbox hb;have BP:=am hbox;have HB:=am hb;have BPc:=zc8 BP.out;clear hbox hb hg)
       |((with_reducible refine gate_dst (N:=5) rfl ?_);refine box_event rfl (N:=5) rfl (t:=68) (by go_simp<;>rfl) ?_;intro ga hg w2 hbox hb;have BA:=am hbox;replace HB:=am (below_step HB.out hb);replace BP:=am (zb8 BP.out hb);clear BPc hbox hb hg;have BPc:=zc8 BP.out;have BAc:=zc8 BA.out))
       go_ret
       have hr:actOk p.cells.length p.bodies.length body a=false:=by
        unfold actOk;rw [if_pos (.inr (.inl ⟨N2.out,E_kids.out⟩))]
       rw [hr];exact ⟨rfl,HB.out⟩
     ·have l_deeds:=List.length_pos_iff.2 e_deeds
      have u_deeds:decide (0 < a.deeds.length)=true:=decide_eq_true l_deeds;have v_deeds:decide (0 < (a.deeds.length:Int))=true:=decide_eq_true (by omega);have E_deeds:=am e_deeds;clear e_deeds l_deeds
      go_wp2_with (first
      |((with_reducible refine gate_dst (N:=3) rfl ?_);refine box_event rfl (N:=3) rfl (t:=36) (by go_simp<;>rfl) ?_;intro gp hg w1 hbox hb;have BP:=am hbox;have HB:=am hb;have BPc:=zc8 BP.out;clear hbox hb hg)
      |((with_reducible refine gate_dst (N:=5) rfl ?_);refine box_event rfl (N:=5) rfl (t:=68) (by go_simp<;>rfl) ?_;intro ga hg w2 hbox hb;have BA:=am hbox;replace HB:=am (below_step HB.out hb);replace BP:=am (zb8 BP.out hb);clear BPc hbox hb hg;have BPc:=zc8 BP.out;have BAc:=zc8 BA.out))
      go_ret
      have hr:actOk p.cells.length p.bodies.length body a=false:=by
       unfold actOk;rw [if_pos (.inl ⟨N1.out,E_deeds.out⟩)]
      rw [hr];exact ⟨rfl,HB.out⟩
structure ProgSz (p:Prog):Prop where
 cells:p.cells.length<=1048576
 bodies:p.bodies.length<=1048576
 acts:∀ b ∈ p.bodies,b.length<=1048576/\∀ a ∈ b,a.deeds.length<=1048576/\a.kids.length<=1048576
theorem l1Form_calls (p:Prog) (pcs:List Value) (w:World) (hp:kProg.K w p pcs) (hz:ProgSz p):
  Calls Tryz.prog 113 #[.agg pcs.toArray] w fun e w'=>e= .returned (.bool (formOk p))/\Below w.heap.size w w':=by
 have HPK:=am hp;obtain ⟨Ac,cc,Ab,cb,rfl,-,gc,-,gb⟩:=kProg_open hp;have HCL:=am gc;have HBD:=am gb;have hzc:=hz.cells;have hzb:=hz.bodies;have HZ:=am hz.acts;clear hp gc gb hz;go_enter Tryz.func113,Tryz.ntmps113;by_cases c3:p.cells.length<=3
 ·have u3:decide (3 < p.cells.length)=false:=decide_eq_false (by omega)
  have v3:decide ((3:Int) < (p.cells.length:Int))=false:=decide_eq_false (by omega);have C3:=am c3
  cases hbi:inB (p.bodies.length:Int) 1 4 with
  | false=>
   have HI:Aside0 ((decide ((1:Int)<=(p.bodies.length:Int)) && decide ((p.bodies.length:Int)<=4))=false):=⟨hbi⟩;clear hbi
   go_wp2_with (first
   |((with_reducible refine gate_dst (N:=1) rfl ?_);refine box_event rfl (N:=1) rfl (t:=36) (by go_simp<;>rfl) ?_;intro gp hg w1 hbox hb;have BP:=am hbox;have HB:=am hb;have BPc:=zc8 BP.out;clear hbox hb hg)
   |(go_at_call 76;refine (l6In_calls _ _ _ _).mono ?_;(first|rw [HI.out]);rintro e w9 ⟨rfl,rfl⟩))
   go_ret
   have hr:formOk p=false:=by
    unfold formOk;rw [show inB (p.bodies.length:Int) 1 4=false from HI.out,Bool.and_false,Bool.false_and,Bool.false_and]
   rw [hr]
   exact ⟨rfl,HB.out⟩
  | true=>
   have HI:Aside0 ((decide ((1:Int)<=(p.bodies.length:Int)) && decide ((p.bodies.length:Int)<=4))=true):=⟨hbi⟩;have hb4:=(inB_iff.1 hbi).2;clear hbi
   go_wp2_with (first
   |((with_reducible refine gate_dst (N:=1) rfl ?_);refine box_event rfl (N:=1) rfl (t:=36) (by go_simp<;>rfl) ?_;intro gp hg w1 hbox hb;have BP:=am hbox;have HB:=am hb;have BPc:=zc8 BP.out;clear hbox hb hg)
   |(go_at_call 76;refine (l6In_calls _ _ _ _).mono ?_;(first|rw [HI.out]);rintro e w9 ⟨rfl,rfl⟩))
   go_loopw [3] (fun j w'=>∃ k:Nat,k<=p.cells.length/\j= .int .i64 k/\Aside0 (∀ i,i < k->inB (numAt p.cells i) 0 99=true)/\Aside0 (w'.heap[gp]? = some (.cells #[.slice Ac p.cells.length cc,.slice Ab p.bodies.length cb] 36 (0,0)))/\Aside0 (Below w.heap.size w w')) (fun j _=>p.cells.length - (intOf j).toNat)
   case atStart=>exact ⟨0,Nat.zero_le _,rfl,⟨fun i hi=>by omega⟩,BP,HB⟩
   case round=>
    clear BP HB BPc;obtain ⟨k,hk,rfl,HJ,BP,HB⟩:=hrel;have BPc:=zc8 BP.out;by_cases hlt:k < p.cells.length
    ·have q0:(0:Int)<=(k:Int):=by omega
     have q1:(k:Int) < (p.cells.length:Int):=by omega
     obtain ⟨ad,rfl,gx⟩:=Kd.at_int (Kd.C_below HCL.out HB.out) (k:Int) q0 q1;simp only [Int.toNat_natCast] at gx;obtain ⟨x,hxx⟩:∃ x,x=numAt p.cells k:=⟨_,rfl⟩;rw [show rd p.cells (k:Int)=x from hxx.symm] at gx;have HXX:=am hxx;clear hxx
     cases hbx:inB x 0 99 with
     | true=>
      have HX:Aside0 ((decide ((0:Int)<=x) && decide (x<=99))=true):=⟨hbx⟩;clear hbx
      go_wp2_with (first
      |(go_at_call 76;refine (l6In_calls _ _ _ _).mono ?_;(first|rw [HX.out]);rintro e w9 ⟨rfl,rfl⟩))
      go_roundw
      case rel=>exact ⟨k+1,by omega,by go_num,⟨fun i hi=>by rcases Nat.lt_or_ge i k with h | h;exact HJ.out i h;obtain rfl:i=k:=(by omega);rw [<-HXX.out];exact HX.out⟩,BP,HB⟩
      case measure=>simp [intOf];omega
     | false=>
      have HX:Aside0 ((decide ((0:Int)<=x) && decide (x<=99))=false):=⟨hbx⟩;clear hbx
      go_wp2_with (first
      |(go_at_call 76;refine (l6In_calls _ _ _ _).mono ?_;(first|rw [HX.out]);rintro e w9 ⟨rfl,rfl⟩))
      go_ret
      have hr:formOk p=false:=by
       unfold formOk;rw [allB_no (n:=p.cells.length) hlt (by rw [<-HXX.out];exact HX.out),Bool.and_false,Bool.false_and]
      rw [hr];exact ⟨rfl,HB.out⟩
    ·obtain rfl:k=p.cells.length:=by omega
     have HCS:=am (allB_iff.2 HJ.out);clear HJ hlt hk;go_wp2;go_loopw [4] (fun j w'=>∃ k:Nat,k<=p.bodies.length/\j= .int .i64 k/\Aside0 (∀ i,i < k->bodyOk p.cells.length p.bodies.length i (actsAt p.bodies i)=true)/\Aside0 (w'.heap[gp]? = some (.cells #[.slice Ac p.cells.length cc,.slice Ab p.bodies.length cb] 36 (0,0)))/\Aside0 (Below w.heap.size w w')) (fun j _=>p.bodies.length - (intOf j).toNat)
     case atStart=>exact ⟨0,Nat.zero_le _,rfl,⟨fun i hi=>by omega⟩,BP,HB⟩
     case round=>
      clear BP HB BPc;obtain ⟨k,hk,rfl,HJ,BP,HB⟩:=hrel;have BPc:=zc8 BP.out;by_cases hlt:k < p.bodies.length
      ·obtain ⟨bb,ob,cs2,rfl,hcl2,hK2,hcc2,-⟩:=C_field HBD.out ([]:List Act) k hlt (by decide)
       obtain ⟨Aa,ca,rfl,la,ga2⟩:=hK2;have p2:=hcc2 0 _ rfl;simp only [show (Kd.slice 68 kAct).sz=1 from rfl,Nat.mul_one,Nat.add_zero] at p2;have GA2:=am (show kAct.C w Aa (actsAt p.bodies k).length (actsAt p.bodies k) from ga2);rw [show (p.bodies.getD k []).length=(actsAt p.bodies k).length from rfl] at p2;have P2:=am p2;have hmem:actsAt p.bodies k ∈ p.bodies:=by rw [actsAt_eq hlt];exact List.getElem_mem hlt
       have HZk:=am (HZ.out _ hmem);have p2w:=cellB HB.out p2;have q0:(0:Int)<=(k:Int):=by omega
       have q1:(k:Int) < (p.bodies.length:Int):=by omega
       clear hcc2 hcl2 ga2 la p2 hmem;by_cases c4:(actsAt p.bodies k).length<=4
       ·have u4:decide (4 < (actsAt p.bodies k).length)=false:=decide_eq_false (by omega)
        have v4:decide ((4:Int) < ((actsAt p.bodies k).length:Int))=false:=decide_eq_false (by omega);go_wp2;go_loopw [5] (fun j w'=>∃ m:Nat,m<=(actsAt p.bodies k).length/\j= .int .i64 m/\Aside0 (∀ i,i < m->actOk p.cells.length p.bodies.length k (actAt (actsAt p.bodies k) i)=true)/\Aside0 (w'.heap[gp]? = some (.cells #[.slice Ac p.cells.length cc,.slice (some ⟨bb,ob,none⟩) p.bodies.length cb] 36 (0,0)))/\Aside0 (Below w.heap.size w w')) (fun j _=>(actsAt p.bodies k).length - (intOf j).toNat)
        case atStart=>exact ⟨0,Nat.zero_le _,rfl,⟨fun i hi=>by omega⟩,BP,HB⟩
        case round=>
         clear BP HB BPc p2w;obtain ⟨m,hm,rfl,HM,BP,HB⟩:=hrel;have BPc:=zc8 BP.out;have p2w:=cellB HB.out P2.out;by_cases hmt:m < (actsAt p.bodies k).length
         ·obtain ⟨ba,oa,cs3,rfl,hcl3,hK3,hcc3,-⟩:=C_field GA2.out zAct m hmt (by decide)
          obtain ⟨a,hax⟩:∃ x,x=actAt (actsAt p.bodies k) m:=⟨_,rfl⟩;rw [show (actsAt p.bodies k).getD m zAct=a from hax.symm] at hK3;have HK:=am hK3;have AX:=am hax;have SZ:Aside0 _:=⟨HZk.out.2 a (by rw [hax];have h9:actAt (actsAt p.bodies k) m=(actsAt p.bodies k)[m]:=(by simp [actAt,hmt]);rw [h9];exact List.getElem_mem hmt)⟩;obtain ⟨Ad,cd,Ak,ck,rfl,-⟩:=kAct_open hK3;have HC:=am hcc3;have r0:(0:Int)<=(m:Int):=by omega
          have r1:(m:Int) < ((actsAt p.bodies k).length:Int):=by omega
          clear hcc3 hK3 hcl3 hax
          cases hao:actOk p.cells.length p.bodies.length k a with
          | true=>
           have HD:=am hao;clear hao;go_wp2;clear p2w;refine st9 (n:=12) (S:=fun W=>W.heap[gp]? = some (.cells #[.slice Ac p.cells.length cc,.slice (some ⟨bb,ob,none⟩) p.bodies.length cb] 36 (0,0))/\W.cell? ⟨bb,ob+k,none⟩=some (.slice (some ⟨ba,oa,none⟩) (actsAt p.bodies k).length ca)/\∀ j u, [.int .i64 a.kind,.slice Ad a.deeds.length cd,.slice Ak a.kids.length ck,.int .i64 a.reg][j]? = some u->W.cell? ⟨ba,oa+m*4+j,none⟩=some u) (ds:= []) (by kernel_rfl) rfl ⟨blk_drew BP.out,(show wr.cell? ⟨bb,ob+k,none⟩=_ from cellB HB.out P2.out),fun j u hu=>(show wr.cell? ⟨ba,oa+m*4+j,none⟩=_ from cellB HB.out (HC.out j u hu))⟩ (fun hHeld=> ?_);have hb:=below_drew (Below.refl wr.heap.size wr);generalize wr.drew=w7 at hb hHeld ⊢;have HB7:=am (below_step HB.out hb);clear hb HB BP BPc;refine ba9 (fuel:=2) (n:=10) [0,1,2,3,4,5,6,7,8,9] (by kernel_rfl) (fun N _ _ _ _ h=>by cases N <;> exact h) hHeld ?_
           iterate 10 (
            refine stillS_step (v:= ?_) (a':= ?_) rfl (Or.inl ⟨by rfl, ?_⟩) ?_ ?_;rotate_left
            ·rintro W ⟨s0,s2,s3⟩
             have t0:=zc8 s0;have u0:=s3 0 _ rfl;have u1:=s3 1 _ rfl;have u2:=s3 2 _ rfl;have u3:=s3 3 _ rfl;rw [Nat.add_zero] at u0;clear s0 s3;go_simp;with_reducible rfl
            rotate_left
            ·simp only [Act.put,sA,sZ,sS,i64_w]
             rfl)
           refine stillS_nil ?_;refine on9 (i:=10) (N:=some 65) rfl rfl (by kernel_rfl) (by decide) (fun K hK=> ?_);refine goes_ Tryz.func157 (by kernel_rfl) rfl #[.agg #[.slice Ac p.cells.length cc,.slice (some ⟨bb,ob,none⟩) p.bodies.length cb],.int .i64 k,.agg #[.int .i64 a.kind,.slice Ad a.deeds.length cd,.slice Ak a.kids.length ck,.int .i64 a.reg]] (by rfl) rfl rfl (by (try simp only [List.map_toArray,List.map_cons,List.map_nil]);first | done | rfl) ?_;refine (l1Act_calls p a _ _ (k:Int) _ (kProg.K_below HB7.out HPK.out) (kAct.K_below HB7.out HK.out) (by omega) (by omega) (by omega) (by omega) SZ.out.1 SZ.out.2).mono ?_;rw [HD.out];rintro e wn ⟨rfl,hb⟩;refine ⟨_,rfl, ?_⟩;refine hK.out _ _ ⟨zb8 hHeld.1 hb,cellB hb hHeld.2.1,fun j u hu=>cellB hb (hHeld.2.2 j u hu)⟩ (fun hHeld=> ?_);clear hK K;refine norm_ (a':= ?_) ?_ ?_;rotate_left
           ·show Act.put _ (some 65) _=_
            simp only [Act.put,sA,sZ,sS,i64_w];rfl
           have HB:=am (below_step HB7.out hb);refine ba9 (fuel:=0) (n:=1) [11] (by kernel_rfl) (fun N _ _ _ _ h=>by cases N <;> exact h) hHeld ?_
           iterate 1 (
            refine stillS_step (v:= ?_) (a':= ?_) rfl (Or.inl ⟨by rfl, ?_⟩) ?_ ?_;rotate_left
            ·intro W hW
             go_simp
             with_reducible rfl
            rotate_left
            ·simp only [Act.put,sA,sZ,sS,i64_w]
             rfl)
           refine stillS_nil ?_;have BP:=am hHeld.1;clear hHeld HB7 hb;have BPc:=zc8 BP.out;refine done_ (by kernel_rfl) ?_;go_wp2;go_roundw
           case rel=>exact ⟨m+1,by omega,by go_num,⟨fun i hi=>by rcases Nat.lt_or_ge i m with h | h;exact HM.out i h;obtain rfl:i=m:=(by omega);rw [<-AX.out];exact HD.out⟩,BP,HB⟩
           case measure=>simp [intOf];omega
          | false=>
           have HD:=am hao;clear hao;go_wp2;clear p2w;refine st9 (n:=12) (S:=fun W=>W.heap[gp]? = some (.cells #[.slice Ac p.cells.length cc,.slice (some ⟨bb,ob,none⟩) p.bodies.length cb] 36 (0,0))/\W.cell? ⟨bb,ob+k,none⟩=some (.slice (some ⟨ba,oa,none⟩) (actsAt p.bodies k).length ca)/\∀ j u, [.int .i64 a.kind,.slice Ad a.deeds.length cd,.slice Ak a.kids.length ck,.int .i64 a.reg][j]? = some u->W.cell? ⟨ba,oa+m*4+j,none⟩=some u) (ds:= []) (by kernel_rfl) rfl ⟨blk_drew BP.out,(show wr.cell? ⟨bb,ob+k,none⟩=_ from cellB HB.out P2.out),fun j u hu=>(show wr.cell? ⟨ba,oa+m*4+j,none⟩=_ from cellB HB.out (HC.out j u hu))⟩ (fun hHeld=> ?_);have hb:=below_drew (Below.refl wr.heap.size wr);generalize wr.drew=w7 at hb hHeld ⊢;have HB7:=am (below_step HB.out hb);clear hb HB BP BPc;refine ba9 (fuel:=2) (n:=10) [0,1,2,3,4,5,6,7,8,9] (by kernel_rfl) (fun N _ _ _ _ h=>by cases N <;> exact h) hHeld ?_
           iterate 10 (
            refine stillS_step (v:= ?_) (a':= ?_) rfl (Or.inl ⟨by rfl, ?_⟩) ?_ ?_;rotate_left
            ·rintro W ⟨s0,s2,s3⟩
             have t0:=zc8 s0;have u0:=s3 0 _ rfl;have u1:=s3 1 _ rfl;have u2:=s3 2 _ rfl;have u3:=s3 3 _ rfl;rw [Nat.add_zero] at u0;clear s0 s3;go_simp;with_reducible rfl
            rotate_left
            ·simp only [Act.put,sA,sZ,sS,i64_w]
             rfl)
           refine stillS_nil ?_;refine on9 (i:=10) (N:=some 65) rfl rfl (by kernel_rfl) (by decide) (fun K hK=> ?_);refine goes_ Tryz.func157 (by kernel_rfl) rfl #[.agg #[.slice Ac p.cells.length cc,.slice (some ⟨bb,ob,none⟩) p.bodies.length cb],.int .i64 k,.agg #[.int .i64 a.kind,.slice Ad a.deeds.length cd,.slice Ak a.kids.length ck,.int .i64 a.reg]] (by rfl) rfl rfl (by (try simp only [List.map_toArray,List.map_cons,List.map_nil]);first | done | rfl) ?_;refine (l1Act_calls p a _ _ (k:Int) _ (kProg.K_below HB7.out HPK.out) (kAct.K_below HB7.out HK.out) (by omega) (by omega) (by omega) (by omega) SZ.out.1 SZ.out.2).mono ?_;rw [HD.out];rintro e wn ⟨rfl,hb⟩;refine ⟨_,rfl, ?_⟩;refine hK.out _ _ ⟨zb8 hHeld.1 hb,cellB hb hHeld.2.1,fun j u hu=>cellB hb (hHeld.2.2 j u hu)⟩ (fun hHeld=> ?_);clear hK K;refine norm_ (a':= ?_) ?_ ?_;rotate_left
           ·show Act.put _ (some 65) _=_
            simp only [Act.put,sA,sZ,sS,i64_w];rfl
           have HB:=am (below_step HB7.out hb);refine ba9 (fuel:=0) (n:=1) [11] (by kernel_rfl) (fun N _ _ _ _ h=>by cases N <;> exact h) hHeld ?_
           iterate 1 (
            refine stillS_step (v:= ?_) (a':= ?_) rfl (Or.inl ⟨by rfl, ?_⟩) ?_ ?_;rotate_left
            ·intro W hW
             go_simp
             with_reducible rfl
            rotate_left
            ·simp only [Act.put,sA,sZ,sS,i64_w]
             rfl)
           refine stillS_nil ?_;have BP:=am hHeld.1;clear hHeld HB7 hb;have BPc:=zc8 BP.out;refine done_ (by kernel_rfl) ?_;go_wp2;go_ret
           have hr:formOk p=false:=by
            unfold formOk;rw [allB_no (n:=p.bodies.length) hlt (by unfold bodyOk;rw [allB_no hmt (by rw [<-AX.out];exact HD.out),Bool.and_false]),Bool.and_false]
           rw [hr];exact ⟨rfl,HB.out⟩
         ·obtain rfl:m=(actsAt p.bodies k).length:=by omega
          go_wp2;go_roundw
          case rel=>exact ⟨k+1,by omega,by go_num,⟨fun i hi=>by rcases Nat.lt_or_ge i k with h | h;exact HJ.out i h;obtain rfl:i=k:=(by omega);unfold bodyOk;rw [allB_iff.2 HM.out,decide_eq_true c4];rfl⟩,BP,HB⟩
          case measure=>simp [intOf];omega
       ·have u4:decide (4 < (actsAt p.bodies k).length)=true:=decide_eq_true (by omega)
        have v4:decide ((4:Int) < ((actsAt p.bodies k).length:Int))=true:=decide_eq_true (by omega);have C4:=am c4;clear c4;go_wp2;go_ret
        have hr:formOk p=false:=by
         unfold formOk;rw [allB_no (n:=p.bodies.length) hlt (by unfold bodyOk;rw [decide_eq_false C4.out,Bool.false_and]),Bool.and_false]
        rw [hr];exact ⟨rfl,HB.out⟩
      ·obtain rfl:k=p.bodies.length:=by omega
       go_wp2;go_ret
       have hr:formOk p=true:=by
        unfold formOk;rw [allB_iff.2 HJ.out,HCS.out,show inB (p.bodies.length:Int) 1 4=true from HI.out,decide_eq_true C3.out];rfl
       rw [hr];exact ⟨rfl,HB.out⟩
 ·have u3:decide (3 < p.cells.length)=true:=decide_eq_true (by omega)
  have v3:decide ((3:Int) < (p.cells.length:Int))=true:=decide_eq_true (by omega);have C3:=am c3;clear c3
  go_wp2_with (first
  |((with_reducible refine gate_dst (N:=1) rfl ?_);refine box_event rfl (N:=1) rfl (t:=36) (by go_simp<;>rfl) ?_;intro gp hg w1 hbox hb;have BP:=am hbox;have HB:=am hb;have BPc:=zc8 BP.out;clear hbox hb hg))
  go_ret
  have hr:formOk p=false:=by
   unfold formOk;rw [decide_eq_false C3.out,Bool.false_and,Bool.false_and,Bool.false_and]
  rw [hr];exact ⟨rfl,HB.out⟩
theorem acc_le {p:Prog} (hf:formOk p=true) {b:Int} (h0:0<=b) (h1:b < p.bodies.length) (k:Nat):sumL (fun a:Act=>sumL (treeOf p) a.kids) ((actsAt p.bodies b.toNat).take k)<=37448:=by
 have h4:=form_acts hf ⟨h0,h1⟩;refine Nat.le_trans (sumL_le (m:=9362) fun a ha=> ?_) ?_
 ·obtain ⟨h2,h3⟩:=kid_behind hf ⟨h0,h1⟩ (List.mem_of_mem_take ha)
  refine Nat.le_trans (sumL_le (m:=4681) fun x hx=>treeOf_le hf (by have:=h3 x hx;omega) (h3 x hx).2) ?_;omega
 ·rw [List.length_take]
  have:min k (actsAt p.bodies b.toNat).length<=4:=by omega
  omega
theorem kid_le {p:Prog} (hf:formOk p=true) {b:Int} (h0:0<=b) (h1:b < p.bodies.length) {a:Act} (ha:a ∈ actsAt p.bodies b.toNat) (m:Nat):sumL (treeOf p) (a.kids.take m)<=9362:=by
 obtain ⟨h2,h3⟩:=kid_behind hf ⟨h0,h1⟩ ha;refine Nat.le_trans (sumL_le (m:=4681) fun x hx=>treeOf_le hf (by have:=h3 x (List.mem_of_mem_take hx);omega) (h3 x (List.mem_of_mem_take hx)).2) ?_;rw [List.length_take];have:min m a.kids.length<=2:=by omega
 omega
theorem l1Tree_calls (p:Prog) (pcs:List Value) (hf:formOk p=true):∀ (n:Nat) (b:Int) (w:World),kProg.K w p pcs->0<=b->b < p.bodies.length->(p.bodies.length:Int) - b<=n->
  Calls Tryz.prog 114 #[.agg pcs.toArray,.int .i64 b] w fun e w'=>e= .returned (.int .i64 (treeOf p b))/\Below w.heap.size w w':=by
 intro n
 induction n with
 | zero=>intro b w _ h0 h1 hn;omega
 | succ n ih=>
 intro b w hp h0 h1 hn;have IH:=am ih;clear ih;obtain ⟨kb,rfl⟩:=Int.eq_ofNat_of_zero_le h0;have hkb:kb < p.bodies.length:=by omega
 have HAC:Aside0 (∀ k,sumL (fun a:Act=>sumL (treeOf p) a.kids) ((actsAt p.bodies kb).take k)<=37448):=⟨fun k=>acc_le hf h0 h1 k⟩;have HTR:Aside0 (treeOf p (kb:Int)=1+sumL (fun a:Act=>sumL (treeOf p) a.kids) (actsAt p.bodies kb)):=⟨treeOf_eq hf h0 h1⟩;have HPK:=am hp;have HF:=am hf;have hb4:=(form_cells hf).2.2;have ha4:(actsAt p.bodies kb).length<=4:=form_acts hf ⟨h0,h1⟩;obtain ⟨Ac,cc,Ab,cb,rfl,-,gc,-,gb⟩:=kProg_open hp;obtain ⟨bb,ob,cs2,rfl,hcl2,hK2,hcc2,-⟩:=C_field gb ([]:List Act) kb hkb (by decide);obtain ⟨Aa,ca,rfl,la,ga2⟩:=hK2;have p2:=hcc2 0 _ rfl;simp only [show (Kd.slice 68 kAct).sz=1 from rfl,Nat.mul_one,Nat.add_zero] at p2;have GA2:=am (show kAct.C w Aa (actsAt p.bodies kb).length (actsAt p.bodies kb) from ga2);rw [show (p.bodies.getD kb []).length=(actsAt p.bodies kb).length from rfl] at p2;have P2:=am p2;have q0:(0:Int)<=(kb:Int):=by omega
 have q1:(kb:Int) < (p.bodies.length:Int):=by omega
 clear hp hf gc gb hcc2 hcl2 ga2 la p2 h0 h1;go_enter Tryz.func114,Tryz.ntmps114
 go_wp2_with (first
 |((with_reducible refine gate_dst (N:=2) rfl ?_);refine box_event rfl (N:=2) rfl (t:=36) (by go_simp<;>rfl) ?_;intro gp hg w1 hbox hb;have BP:=am hbox;have HB:=am hb;have BPc:=zc8 BP.out;clear hbox hb hg))
 go_loopw [5,6] (fun v j w'=>∃ k:Nat,k<=(actsAt p.bodies kb).length/\j= .int .i64 k/\v= .int .i64 ((1+sumL (fun a:Act=>sumL (treeOf p) a.kids) ((actsAt p.bodies kb).take k):Nat))/\Aside0 (w'.heap[gp]? = some (.cells #[.slice Ac p.cells.length cc,.slice (some ⟨bb,ob,none⟩) p.bodies.length cb] 36 (0,0)))/\Aside0 (Below w.heap.size w w')) (fun _ j _=>(actsAt p.bodies kb).length - (intOf j).toNat)
 case atStart=>exact ⟨0,Nat.zero_le _,rfl,by simp [sumL],BP,HB⟩
 case round=>
  clear BP HB BPc;obtain ⟨k,hk,rfl,rfl,BP,HB⟩:=hrel;obtain ⟨acc,hacc⟩:∃ x:Nat,x=(1+sumL (fun a:Act=>sumL (treeOf p) a.kids) ((actsAt p.bodies kb).take k):Nat):=⟨_,rfl⟩;have hacl:acc<=37449:=by have:=HAC.out k;omega
  simp only [<-hacc];have HACC:=am hacc;clear hacc;have BPc:=zc8 BP.out;have p2w:=cellB HB.out P2.out;by_cases hmt:k < (actsAt p.bodies kb).length
  ·obtain ⟨ba,oa,cs3,rfl,hcl3,hK3,hcc3,-⟩:=C_field GA2.out zAct k hmt (by decide)
   obtain ⟨a,hax⟩:∃ x,x=actAt (actsAt p.bodies kb) k:=⟨_,rfl⟩;rw [show (actsAt p.bodies kb).getD k zAct=a from hax.symm] at hK3
   have hmem:a ∈ actsAt p.bodies kb:=by
    have h9:actAt (actsAt p.bodies kb) k=(actsAt p.bodies kb)[k]:=by simp [actAt,hmt]
    rw [hax,h9];exact List.getElem_mem hmt
   have AX:=am hax;have KB:=am (kid_behind HF.out (b:=(kb:Int)) ⟨q0,q1⟩ hmem);have KL:Aside0 (∀ m,sumL (treeOf p) (a.kids.take m)<=9362):=⟨fun m=>kid_le HF.out (b:=(kb:Int)) q0 q1 hmem m⟩;have hk2:a.kids.length<=2:=KB.out.1;obtain ⟨Ad,cd,Ak,ck,rfl,-,-,-,gk⟩:=kAct_open hK3;have HKS:=am gk;have pk:=hcc3 2 _ rfl;simp only [show kAct.sz=4 from rfl] at pk;have PK:=am pk;have pkw:=cellB HB.out pk;have r0:(0:Int)<=(k:Int):=by omega
   have r1:(k:Int) < ((actsAt p.bodies kb).length:Int):=by omega
   clear hcc3 hK3 hcl3 hax hmem pk gk;go_wp2;go_loopw [5,8] (fun v j w'=>∃ m:Nat,m<=a.kids.length/\j= .int .i64 m/\v= .int .i64 ((acc+sumL (treeOf p) (a.kids.take m):Nat):Int)/\Aside0 (w'.heap[gp]? = some (.cells #[.slice Ac p.cells.length cc,.slice (some ⟨bb,ob,none⟩) p.bodies.length cb] 36 (0,0)))/\Aside0 (Below w.heap.size w w')) (fun _ j _=>a.kids.length - (intOf j).toNat)
   case atStart=>exact ⟨0,Nat.zero_le _,rfl,by simp [sumL],BP,HB⟩
   case round=>
    clear BP HB BPc p2w pkw;obtain ⟨m,hm,rfl,rfl,BP,HB⟩:=hrel;obtain ⟨ac2,hac2⟩:∃ x:Nat,x=acc+sumL (treeOf p) (a.kids.take m):=⟨_,rfl⟩;have hac2l:ac2<=50000:=by have:=KL.out m;omega
    simp only [<-hac2];have HAC2:=am hac2;clear hac2;have BPc:=zc8 BP.out;by_cases hlt:m < a.kids.length
    ·have s0:(0:Int)<=(m:Int):=by omega
     have s1:(m:Int) < (a.kids.length:Int):=by omega
     obtain ⟨kid,hkid⟩:∃ x,x=numAt a.kids m:=⟨_,rfl⟩;have hkr:=KB.out.2 kid (by rw [hkid];have h9:numAt a.kids m=a.kids[m]:=(by simp [numAt,hlt]);rw [h9];exact List.getElem_mem hlt);have KR:=am hkr;obtain ⟨tk0,htk⟩:∃ x,x=treeOf p kid:=⟨_,rfl⟩;have htl:tk0<=4681:=by rw [htk];exact treeOf_le HF.out (by omega) hkr.2
     have HTK:=am htk.symm;have HKD:=am hkid;obtain ⟨ad,had,-⟩:=Kd.at_int HKS.out (m:Int) s0 s1;subst had;clear hkid htk hkr;go_wp2;refine st9 (n:=9) (S:=fun W=>W.heap[gp]? = some (.cells #[.slice Ac p.cells.length cc,.slice (some ⟨bb,ob,none⟩) p.bodies.length cb] 36 (0,0))/\(Kd.int .i64).C W (some ad) a.kids.length a.kids) (ds:= []) (by kernel_rfl) rfl ⟨blk_drew BP.out,Kd.C_below (Kd.C_below HKS.out HB.out) (below_drew (Below.refl _ _))⟩ (fun hHeld=> ?_);have hb:=below_drew (Below.refl wr.heap.size wr);generalize wr.drew=w7 at hb hHeld ⊢;have HB7:=am (below_step HB.out hb);clear hb HB BP BPc;refine ba9 (fuel:=3) (n:=6) [0,1,2,3,4,5] (by kernel_rfl) (fun N _ _ _ _ h=>by cases N <;> exact h) hHeld ?_
     iterate 6 (
      refine stillS_step (v:= ?_) (a':= ?_) rfl (Or.inl ⟨by rfl, ?_⟩) ?_ ?_;rotate_left
      ·rintro W ⟨s00,s2⟩
       have t0:=zc8 s00;obtain ⟨ad1,hh,gx⟩:=Kd.at_int s2 (m:Int) s0 s1;cases hh;simp only [Int.toNat_natCast] at gx;rw [show rd a.kids (m:Int)=kid from HKD.out.symm] at gx;clear s00 s2;go_simp;with_reducible rfl
      rotate_left
      ·simp only [Act.put,sA,sZ,sS,i64_w]
       rfl)
     refine stillS_nil ?_;refine on9 (i:=6) (N:=some 40) rfl rfl (by kernel_rfl) (by decide) (fun K hK=> ?_);refine goes_ Tryz.func114 (by kernel_rfl) rfl #[.agg #[.slice Ac p.cells.length cc,.slice (some ⟨bb,ob,none⟩) p.bodies.length cb],.int .i64 kid] (by rfl) rfl rfl (by (try simp only [List.map_toArray,List.map_cons,List.map_nil]);first | done | rfl) ?_;refine (IH.out kid _ (kProg.K_below HB7.out HPK.out) (by have:=KR.out;omega) KR.out.2 (by have:=KR.out;omega)).mono ?_;rw [HTK.out];rintro e wn ⟨rfl,hb⟩;refine ⟨_,rfl, ?_⟩;refine hK.out _ _ ⟨zb8 hHeld.1 hb,Kd.C_below hHeld.2 hb⟩ (fun hHeld=> ?_);clear hK K;refine norm_ (a':= ?_) ?_ ?_;rotate_left
     ·show Act.put _ (some 40) _=_
      simp only [Act.put,sA,sZ,sS,i64_w];rfl
     have HB:=am (below_step HB7.out hb);refine ba9 (fuel:=0) (n:=2) [7,8] (by kernel_rfl) (fun N _ _ _ _ h=>by cases N <;> exact h) hHeld ?_
     iterate 2 (
      refine stillS_step (v:= ?_) (a':= ?_) rfl (Or.inl ⟨by rfl, ?_⟩) ?_ ?_;rotate_left
      ·intro W hW
       go_simp
       with_reducible rfl
      rotate_left
      ·simp only [Act.put,sA,sZ,sS,i64_w]
       rfl)
     refine stillS_nil ?_;have BP:=am hHeld.1;clear hHeld HB7 hb;have BPc:=zc8 BP.out;refine done_ (by kernel_rfl) ?_;go_wp2;go_roundw
     case rel=>exact ⟨m+1,by omega,by go_num,by rw [show ((acc+sumL (treeOf p) (a.kids.take (m+1)):Nat):Int)=(ac2:Int)+(tk0:Int) by rw [sumL_take (treeOf p) 0 a.kids hlt,show a.kids.getD m 0=kid from HKD.out.symm,HTK.out,HAC2.out];omega,show wrap64 ((ac2:Int)+(tk0:Int))=(ac2:Int)+(tk0:Int) from (by unfold wrap64;omega)],BP,HB⟩
     case measure=>simp [intOf];omega
    ·obtain rfl:m=a.kids.length:=by omega
     have hfin:ac2=(1+sumL (fun a:Act=>sumL (treeOf p) a.kids) ((actsAt p.bodies kb).take (k+1)):Nat):=by
      rw [HAC2.out,List.take_length,HACC.out,sumL_take (fun a:Act=>sumL (treeOf p) a.kids) zAct (actsAt p.bodies kb) hmt,show (actsAt p.bodies kb).getD k zAct=a from AX.out.symm];omega
     have HFIN:=am hfin;clear hfin;go_wp2;go_roundw
     case rel=>exact ⟨k+1,by omega,by go_num,by rw [HFIN.out],BP,HB⟩
     case measure=>simp [intOf];omega
  ·obtain rfl:k=(actsAt p.bodies kb).length:=by omega
   go_wp2;go_ret;have hr:treeOf p (kb:Int)=acc:=by rw [HTR.out,HACC.out,List.take_length]
   rw [hr];exact ⟨rfl,HB.out⟩
theorem progOk_calls (p:Prog) (pcs:List Value) (w:World) (hp:kProg.K w p pcs) (hz:ProgSz p):
  Calls Tryz.prog 75 #[.agg pcs.toArray] w fun e w'=>e= .returned (.bool (progOk p))/\Below w.heap.size w w':=by
 have HPK:=am hp;obtain ⟨Ac,cc,Ab,cb,rfl,-⟩:=kProg_open hp;have HZ:=am hz;clear hp hz;go_enter Tryz.func75,Tryz.ntmps75
 cases hf:formOk p with
 | false=>
  have HF:=am hf;clear hf
  go_wp2_with (first
  |((with_reducible refine gate_dst (N:=1) rfl ?_);refine box_event rfl (N:=1) rfl (t:=36) (by go_simp<;>rfl) ?_;intro gp hg w1 hbox hb;have BP:=am hbox;have HB:=am hb;have BPc:=zc8 BP.out;clear hbox hb hg)
  |(go_at_call 113;refine (l1Form_calls p _ _ (kProg.K_below HB.out HPK.out) HZ.out).mono ?_;rw [HF.out];rintro e w9 ⟨rfl,hb⟩;replace HB:=am (below_step HB.out hb);replace BP:=am (zb8 BP.out hb);clear hb BPc;have BPc:=zc8 BP.out))
  go_ret;have hr:progOk p=false:=by unfold progOk;rw [HF.out,Bool.false_and]
  rw [hr]
  exact ⟨rfl,HB.out⟩
 | true=>
  have HF:=am hf;have hb1:=(form_cells hf).2.1;have HB1:=am hb1;obtain ⟨n,hn⟩:∃ x,x=treeOf p 0:=⟨_,rfl⟩;have HN:=am hn.symm;clear hf hn hb1
  go_wp2_with (first
  |((with_reducible refine gate_dst (N:=1) rfl ?_);refine box_event rfl (N:=1) rfl (t:=36) (by go_simp<;>rfl) ?_;intro gp hg w1 hbox hb;have BP:=am hbox;have HB:=am hb;have BPc:=zc8 BP.out;clear hbox hb hg)
  |(go_at_call 113;refine (l1Form_calls p _ _ (kProg.K_below HB.out HPK.out) HZ.out).mono ?_;rw [HF.out];rintro e w9 ⟨rfl,hb⟩;replace HB:=am (below_step HB.out hb);replace BP:=am (zb8 BP.out hb);clear hb BPc;have BPc:=zc8 BP.out)
  |(go_at_call 114;refine (l1Tree_calls p _ HF.out p.bodies.length 0 _ (kProg.K_below HB.out HPK.out) (by omega) (by have:=HB1.out;omega) (by omega)).mono ?_;rw [HN.out];rintro e w9 ⟨rfl,hb⟩;replace HB:=am (below_step HB.out hb);clear hb BP BPc))
  go_ret
  have hr:progOk p=decide ((n:Int)<=7):=by
   unfold progOk;rw [HF.out,HN.out,Bool.true_and];exact decide_eq_decide.2 (by omega)
  rw [hr];exact ⟨rfl,HB.out⟩
theorem put_cells {w:World} {A:Option Addr} {xs:List Put} (h:kPut.C w A xs.length xs):∃ b o,(0 < xs.length->A=some ⟨b,o,none⟩)/\∀ k,k < xs.length->w.cell? ⟨b,o+k*2,none⟩=some (.int .i64 (putAt xs k).cell)/\w.cell? ⟨b,o+k*2+1,none⟩=some (.int .i64 (putAt xs k).num):=by
 by_cases h0:0 < xs.length
 ·obtain ⟨b,o,cs,rfl,-⟩:=C_field h zPut 0 h0 (by decide)
  refine ⟨b,o,fun _=>rfl,fun k hk=> ?_⟩;obtain ⟨b',o',cs,he,hcl,hK,hcc,-⟩:=C_field h zPut k hk (by decide);cases he;have e:=kPut_open hK;subst e;have p0:=hcc 0 _ rfl;have p1:=hcc 1 _ rfl;simp only [show kPut.sz=2 from rfl,Nat.add_zero] at p0 p1;exact ⟨p0,p1⟩
 ·exact ⟨0,0,fun h=>absurd h h0,fun k hk=>by omega⟩
theorem l12List_calls (A:Option Addr) (c:Nat) (xs:List Put) (cells:Int) (w:World) (hx:kPut.C w A xs.length xs) (hn:xs.length<=1048576) (h0:0<=cells) (h1:cells<=1048576):
  Calls Tryz.prog 116 #[.slice A xs.length c,.int .i64 cells] w fun e w'=>e= .returned (.bool (listOk xs cells))/\Below w.heap.size w w':=by
 obtain ⟨b,o,hA,hcell⟩:=put_cells hx;have HC:=am hcell;have M:=am (Own.nil w);have C:=M.out.cl;clear hx hcell;go_enter Tryz.func116,Tryz.ntmps116;go_wp2;go_loopw [5] (fun j w'=>∃ k:Nat,k<=xs.length/\j= .int .i64 k/\Aside0 (∀ i,i < k->(inB (putAt xs i).cell 0 (cells - 1) && inB (putAt xs i).num 0 99 && (decide (i=0) || decide ((putAt xs (i - 1)).cell < (putAt xs i).cell)))=true)/\Aside0 (Own w w' [])) (fun j _=>xs.length - (intOf j).toNat)
 case atStart=>exact ⟨0,Nat.zero_le _,rfl,⟨fun i hi=>by omega⟩,M⟩
 case round=>
  obtain ⟨k,hk,rfl,HJ,M2⟩:=hrel;clear M C;have M:=M2;clear M2;by_cases hlt:k < xs.length
  ·obtain rfl:=hA (by omega)
   have q0:(0:Int)<=(k:Int):=by omega
   have q1:(k:Int) < (xs.length:Int):=by omega
   obtain ⟨x,hxx⟩:∃ x,x=putAt xs k:=⟨_,rfl⟩;have p0:=(HC.out k hlt).1;have p1:=(HC.out k hlt).2;rw [<-hxx] at p0 p1;have HXX:=am hxx;have w1:wrap64 (cells - 1)=cells - 1:=by unfold wrap64;omega
   obtain ⟨b1,y1⟩:∃ b,inB x.cell 0 (cells - 1)=b:=⟨_,rfl⟩;obtain ⟨b2,y2⟩:∃ b,inB x.num 0 99=b:=⟨_,rfl⟩;have H1:=am y1;have H2:=am y2;have Y1:Aside0 ((decide (0<=x.cell) && decide (x.cell<=wrap64 (cells - 1)))=b1):=⟨by rw [w1];exact y1⟩;have Y2:Aside0 ((decide (0<=x.num) && decide (x.num<=99))=b2):=⟨y2⟩;replace M:=am ((M.out.far p0).far p1);have C:=M.out.cl;simp only [Cl] at C;clear hxx y1 y2 p0 p1;go_wp2;cases b1
   case false=>
    refine dS M.out ?_;clear M C;intro W M;refine dN [0,1,2,3,4,5,6] M.out ?_;iterate 7 (first|refine sP rfl ?_ | refine sG rfl ?_ | refine sU rfl ?_ | refine sN rfl ?_)
    refine stillS_nil ?_;refine dC 7 rfl ?_;refine oEb (l6In_calls _ _ _ _) Y1.out ?_;refine ⟨_,rfl,M,dA ?_⟩;refine dN [8,9,10,11,12,13,14] M.out ?_;iterate 7 (first|refine sP rfl ?_ | refine sG rfl ?_ | refine sU rfl ?_ | refine sN rfl ?_)
    refine stillS_nil ?_;refine dU 15 rfl rfl M.out (dA ?_);refine dN [16,17,18,19,20,21,22,23,24,25,26,27,28,29,30,31,32,33,34,35] M.out ?_;iterate 20 (first|refine sP rfl ?_ | refine sG rfl ?_ | refine sU rfl ?_ | refine sN rfl ?_)
    refine stillS_nil ?_;refine dD ?_;have C:=M.out.cl;simp only [Cl] at C;go_wp2;go_ret;rw [show listOk xs cells=false from allB_no hlt (by rw [<-HXX.out,H1.out,Bool.false_and,Bool.false_and])];exact ⟨rfl,M.out.below⟩
   cases b2
   case false=>
    refine dS M.out ?_;clear M C;intro W M;refine dN [0,1,2,3,4,5,6] M.out ?_;iterate 7 (first|refine sP rfl ?_ | refine sG rfl ?_ | refine sU rfl ?_ | refine sN rfl ?_)
    refine stillS_nil ?_;refine dC 7 rfl ?_;refine oEb (l6In_calls _ _ _ _) Y1.out ?_;refine ⟨_,rfl,M,dA ?_⟩;refine dN [8,9,10,11,12,13,14] M.out ?_;iterate 7 (first|refine sP rfl ?_ | refine sG rfl ?_ | refine sU rfl ?_ | refine sN rfl ?_)
    refine stillS_nil ?_;refine dC 15 rfl ?_;refine oEb (l6In_calls _ _ _ _) Y2.out ?_;refine ⟨_,rfl,M,dA ?_⟩;refine dN [16,17,18,19,20,21,22,23,24,25,26,27,28,29,30,31,32,33,34,35] M.out ?_;iterate 20 (first|refine sP rfl ?_ | refine sG rfl ?_ | refine sU rfl ?_ | refine sN rfl ?_)
    refine stillS_nil ?_;refine dD ?_;have C:=M.out.cl;simp only [Cl] at C;go_wp2;go_ret;rw [show listOk xs cells=false from allB_no hlt (by rw [<-HXX.out,H2.out,Bool.and_false,Bool.false_and])];exact ⟨rfl,M.out.below⟩
   by_cases hk0:k=0
   ·have y0:decide ((0:Int) < (k:Int))=false:=decide_eq_false (by omega)
    have y0':decide (0 < k)=false:=decide_eq_false (by omega);have HK0:=am hk0;clear hk0;refine dS M.out ?_;clear M C;intro W M;refine dN [0,1,2,3,4,5,6] M.out ?_;iterate 7 (first|refine sP rfl ?_ | refine sG rfl ?_ | refine sU rfl ?_ | refine sN rfl ?_)
    refine stillS_nil ?_;refine dC 7 rfl ?_;refine oEb (l6In_calls _ _ _ _) Y1.out ?_;refine ⟨_,rfl,M,dA ?_⟩;refine dN [8,9,10,11,12,13,14] M.out ?_;iterate 7 (first|refine sP rfl ?_ | refine sG rfl ?_ | refine sU rfl ?_ | refine sN rfl ?_)
    refine stillS_nil ?_;refine dC 15 rfl ?_;refine oEb (l6In_calls _ _ _ _) Y2.out ?_;refine ⟨_,rfl,M,dA ?_⟩;refine dN [16,17,18,19,20,21,22,23,24,25,26,27,28,29,30,31,32,33,34,35] M.out ?_;iterate 20 (first|refine sP rfl ?_ | refine sG rfl ?_ | refine sU rfl ?_ | refine sN rfl ?_)
    refine stillS_nil ?_;refine dD ?_;have C:=M.out.cl;simp only [Cl] at C;go_wp2;go_roundw
    case rel=>exact ⟨k+1,by omega,by go_num,⟨fun i hi=>by rcases Nat.lt_or_ge i k with h | h;exact HJ.out i h;obtain rfl:i=k:=(by omega);rw [<-HXX.out,H1.out,H2.out,decide_eq_true HK0.out,Bool.true_or];rfl⟩,⟨M.out.pop.pop⟩⟩
    case measure=>simp [intOf];omega
   ·have y0:decide ((0:Int) < (k:Int))=true:=decide_eq_true (by omega)
    have y0':decide (0 < k)=true:=decide_eq_true (by omega);obtain ⟨xp,hxp⟩:∃ x,x=putAt xs (k - 1):=⟨_,rfl⟩;have p0:=(HC.out (k - 1) (by omega)).1;rw [<-hxp] at p0;have HXP:=am hxp;have s0:(0:Int)<=(k:Int) - 1:=by omega
    have s1:(k:Int) - 1 < (xs.length:Int):=by omega
    have s2:((k:Int) - 1).toNat=k - 1:=by omega
    have s3:(1:Int)<=(k:Int):=by omega
    have s4:1<=k:=by omega
    have w2:wrap64 ((k:Int) - 1)=(k:Int) - 1:=by unfold wrap64;omega
    replace M:=am (M.out.far p0);clear C;have C:=M.out.cl;simp only [Cl] at C;clear p0 hxp;obtain ⟨b3,y3⟩:∃ b,decide (x.cell<=xp.cell)=b:=⟨_,rfl⟩;have Y3:=am y3;cases b3
    ·refine dS M.out ?_
     clear M C;intro W M;refine dN [0,1,2,3,4,5,6] M.out ?_;iterate 7 (first|refine sP rfl ?_ | refine sG rfl ?_ | refine sU rfl ?_ | refine sN rfl ?_)
     refine stillS_nil ?_;refine dC 7 rfl ?_;refine oEb (l6In_calls _ _ _ _) Y1.out ?_;refine ⟨_,rfl,M,dA ?_⟩;refine dN [8,9,10,11,12,13,14] M.out ?_;iterate 7 (first|refine sP rfl ?_ | refine sG rfl ?_ | refine sU rfl ?_ | refine sN rfl ?_)
     refine stillS_nil ?_;refine dC 15 rfl ?_;refine oEb (l6In_calls _ _ _ _) Y2.out ?_;refine ⟨_,rfl,M,dA ?_⟩;refine dN [16,17,18,19,20,21,22,23,24,25,26,27,28,29,30,31,32,33,34,35] M.out ?_;iterate 20 (first|refine sP rfl ?_ | refine sG rfl ?_ | refine sU rfl ?_ | refine sN rfl ?_)
     refine stillS_nil ?_;refine dD ?_;have C:=M.out.cl;simp only [Cl] at C;go_wp2;go_roundw
     case rel=>exact ⟨k+1,by omega,by go_num,⟨fun i hi=>by rcases Nat.lt_or_ge i k with h | h;exact HJ.out i h;obtain rfl:i=k:=(by omega);rw [<-HXX.out,H1.out,H2.out,<-HXP.out,decide_eq_true (show xp.cell < x.cell from Int.not_le.1 (of_decide_eq_false Y3.out)),Bool.or_true];rfl⟩,⟨M.out.pop.pop.pop⟩⟩
     case measure=>simp [intOf];omega
    ·refine dS M.out ?_
     clear M C;intro W M;refine dN [0,1,2,3,4,5,6] M.out ?_;iterate 7 (first|refine sP rfl ?_ | refine sG rfl ?_ | refine sU rfl ?_ | refine sN rfl ?_)
     refine stillS_nil ?_;refine dC 7 rfl ?_;refine oEb (l6In_calls _ _ _ _) Y1.out ?_;refine ⟨_,rfl,M,dA ?_⟩;refine dN [8,9,10,11,12,13,14] M.out ?_;iterate 7 (first|refine sP rfl ?_ | refine sG rfl ?_ | refine sU rfl ?_ | refine sN rfl ?_)
     refine stillS_nil ?_;refine dC 15 rfl ?_;refine oEb (l6In_calls _ _ _ _) Y2.out ?_;refine ⟨_,rfl,M,dA ?_⟩;refine dN [16,17,18,19,20,21,22,23,24,25,26,27,28,29,30,31,32,33,34,35] M.out ?_;iterate 20 (first|refine sP rfl ?_ | refine sG rfl ?_ | refine sU rfl ?_ | refine sN rfl ?_)
     refine stillS_nil ?_;refine dD ?_;have C:=M.out.cl;simp only [Cl] at C;go_wp2;go_ret;rw [show listOk xs cells=false from allB_no hlt (by rw [<-HXX.out,<-HXP.out,decide_eq_false hk0,decide_eq_false (show ¬ xp.cell < x.cell from Int.not_lt.2 (of_decide_eq_true Y3.out)),Bool.false_or,Bool.and_false])];exact ⟨rfl,M.out.below⟩
  ·obtain rfl:k=xs.length:=by omega
   have q1:¬ (xs.length:Int) < (xs.length:Int):=by omega
   go_wp2;go_ret;rw [show listOk xs cells=true from allB_iff.2 HJ.out];exact ⟨rfl,M.out.below⟩
theorem l2Nums_calls (A:Option Addr) (c:Nat) (ks:List Int) (size:Int) (w:World) (hx:(Kd.int .i64).C w A ks.length ks) (hn:ks.length<=1048576):
  Calls Tryz.prog 115 #[.slice A ks.length c,.int .i64 size] w fun e w'=>e= .returned (.bool (numsOk ks size))/\w=w':=by
 have HX:=am hx;clear hx;go_enter Tryz.func115,Tryz.ntmps115;go_wp2;go_loopw [5] (fun j w'=>∃ k:Nat,k<=ks.length/\j= .int .i64 k/\Aside0 (∀ i,i < k->inB (numAt ks i) 0 99=true)/\w=w') (fun j _=>ks.length - (intOf j).toNat)
 case atStart=>exact ⟨0,Nat.zero_le _,rfl,⟨fun i hi=>by omega⟩,rfl⟩
 case round=>
  obtain ⟨k,hk,rfl,HJ,rfl⟩:=hrel;by_cases hlt:k < ks.length
  ·have q0:(0:Int)<=(k:Int):=by omega
   have q1:(k:Int) < (ks.length:Int):=by omega
   obtain ⟨ad,rfl,gx⟩:=Kd.at_int HX.out (k:Int) q0 q1;simp only [Int.toNat_natCast] at gx;obtain ⟨x,hxx⟩:∃ x,x=numAt ks k:=⟨_,rfl⟩;rw [show rd ks (k:Int)=x from hxx.symm] at gx;have HXX:=am hxx;clear hxx
   cases hb:inB x 0 99 with
   | true=>
    have HI:Aside0 ((decide ((0:Int)<=x) && decide (x<=99))=true):=⟨hb⟩;clear hb;go_wp2_with (first|(go_at_call 76;refine (l6In_calls _ _ _ _).mono ?_;(first|rw [HI.out]);rintro e w9 ⟨rfl,rfl⟩))
    go_roundw
    case rel=>exact ⟨k+1,by omega,by go_num,⟨fun i hi=>by rcases Nat.lt_or_ge i k with h | h;exact HJ.out i h;obtain rfl:i=k:=(by omega);rw [<-HXX.out];exact HI.out⟩,trivial⟩
    case measure=>simp [intOf];omega
   | false=>
    have HI:Aside0 ((decide ((0:Int)<=x) && decide (x<=99))=false):=⟨hb⟩;clear hb;go_wp2_with (first|(go_at_call 76;refine (l6In_calls _ _ _ _).mono ?_;(first|rw [HI.out]);rintro e w9 ⟨rfl,rfl⟩))
    go_ret
    have hr:numsOk ks size=false:=by
     unfold numsOk;rw [allB_no hlt (by rw [<-HXX.out];exact HI.out),Bool.false_and]
    rw [hr];exact ⟨rfl,rfl⟩
  ·obtain rfl:k=ks.length:=by omega
   go_wp2;go_ret
   have hr:numsOk ks size=((ks.length:Int) == size):=by
    unfold numsOk;rw [allB_iff.2 HJ.out,Bool.true_and];rw [Bool.eq_iff_iff];simp
   rw [hr];exact ⟨rfl,rfl⟩
theorem l12Holds_calls (t:Task) (cs:List Value) (cell:Int) (w:World) (hx:kTask.K w t cs) (hpn:t.puts.length<=1048576):
  Calls Tryz.prog 120 #[.agg cs.toArray,.int .i64 cell] w fun e w'=>e= .returned (.bool (holds t cell))/\Below w.heap.size w w':=by
 obtain ⟨B3,d3,B8,d8,B9,d9,B10,d10,rfl,-,-,-,-,-,-,-,g10⟩:=kTask_open hx;have C10:=am g10;clear hx g10;go_enter Tryz.func120,Tryz.ntmps120
 cases hfd:findP t.puts cell with
 | none=>
  have HF:=am hfd;have HFD:Aside0 (placeOf (findP t.puts cell)= -1):=⟨by rw [hfd];rfl⟩;clear hfd
  go_wp2_with (first
  |((with_reducible refine gate_dst (N:=2) rfl ?_);refine box_event rfl (N:=2) rfl (t:=59) (by go_simp<;>rfl) ?_;intro gt hg w2 hbox hb;have BT:=am hbox;have HB:=am hb;have BTc:=zc8 BT.out;clear hbox hb hg)
  |(go_at_call 159;refine (l11Find_calls B10 d10 t.puts cell _ (Kd.C_below C10.out HB.out) hpn).mono ?_;rw [HFD.out];rintro e w9 ⟨rfl,rfl⟩))
  go_ret
  have hr:holds t cell=false:=by
   unfold holds;rw [HF.out]
  rw [hr]
  exact ⟨rfl,HB.out⟩
 | some kp=>
  have HO:Aside0 (holds t cell=if t.stage=2 then decide ((kp:Int) < t.at_) else if t.stage=3\/t.stage=4 then true else if t.stage=5 then decide (t.at_<=(kp:Int)) else false):=⟨by unfold holds;rw [hfd]⟩;have HFD:Aside0 (placeOf (findP t.puts cell)=(kp:Int)):=⟨by rw [hfd];rfl⟩;clear hfd;by_cases s2:t.stage=2
  ·have y2:(t.stage == 2)=true:=by simp [s2]
   have S2:=am s2;clear s2
   go_wp2_with (first
   |((with_reducible refine gate_dst (N:=2) rfl ?_);refine box_event rfl (N:=2) rfl (t:=59) (by go_simp<;>rfl) ?_;intro gt hg w2 hbox hb;have BT:=am hbox;have HB:=am hb;have BTc:=zc8 BT.out;clear hbox hb hg)
   |(go_at_call 159;refine (l11Find_calls B10 d10 t.puts cell _ (Kd.C_below C10.out HB.out) hpn).mono ?_;rw [HFD.out];rintro e w9 ⟨rfl,rfl⟩))
   go_ret
   have hr:holds t cell=decide ((kp:Int) < t.at_):=by
    rw [HO.out];rw [if_pos S2.out]
   rw [hr];exact ⟨rfl,HB.out⟩
  ·have y2:(t.stage == 2)=false:=by simp [s2]
   have S2:=am s2;clear s2;by_cases s3:t.stage=3
   ·have y3:(t.stage == 3)=true:=by simp [s3]
    have S3:=am s3;clear s3
    go_wp2_with (first
    |((with_reducible refine gate_dst (N:=2) rfl ?_);refine box_event rfl (N:=2) rfl (t:=59) (by go_simp<;>rfl) ?_;intro gt hg w2 hbox hb;have BT:=am hbox;have HB:=am hb;have BTc:=zc8 BT.out;clear hbox hb hg)
    |(go_at_call 159;refine (l11Find_calls B10 d10 t.puts cell _ (Kd.C_below C10.out HB.out) hpn).mono ?_;rw [HFD.out];rintro e w9 ⟨rfl,rfl⟩))
    go_ret
    have hr:holds t cell=true:=by
     rw [HO.out];rw [if_neg S2.out,if_pos (.inl S3.out)]
    rw [hr];exact ⟨rfl,HB.out⟩
   ·have y3:(t.stage == 3)=false:=by simp [s3]
    have S3:=am s3;clear s3;by_cases s4:t.stage=4
    ·have y4:(t.stage == 4)=true:=by simp [s4]
     have S4:=am s4;clear s4
     go_wp2_with (first
     |((with_reducible refine gate_dst (N:=2) rfl ?_);refine box_event rfl (N:=2) rfl (t:=59) (by go_simp<;>rfl) ?_;intro gt hg w2 hbox hb;have BT:=am hbox;have HB:=am hb;have BTc:=zc8 BT.out;clear hbox hb hg)
     |(go_at_call 159;refine (l11Find_calls B10 d10 t.puts cell _ (Kd.C_below C10.out HB.out) hpn).mono ?_;rw [HFD.out];rintro e w9 ⟨rfl,rfl⟩))
     go_ret
     have hr:holds t cell=true:=by
      rw [HO.out];rw [if_neg S2.out,if_pos (.inr S4.out)]
     rw [hr];exact ⟨rfl,HB.out⟩
    ·have y4:(t.stage == 4)=false:=by simp [s4]
     have S4:=am s4;clear s4;by_cases s5:t.stage=5
     ·have y5:(t.stage == 5)=true:=by simp [s5]
      have S5:=am s5;clear s5
      go_wp2_with (first
      |((with_reducible refine gate_dst (N:=2) rfl ?_);refine box_event rfl (N:=2) rfl (t:=59) (by go_simp<;>rfl) ?_;intro gt hg w2 hbox hb;have BT:=am hbox;have HB:=am hb;have BTc:=zc8 BT.out;clear hbox hb hg)
      |(go_at_call 159;refine (l11Find_calls B10 d10 t.puts cell _ (Kd.C_below C10.out HB.out) hpn).mono ?_;rw [HFD.out];rintro e w9 ⟨rfl,rfl⟩))
      go_ret
      have hr:holds t cell=decide (t.at_<=(kp:Int)):=by
       rw [HO.out];rw [if_neg S2.out,if_neg (fun h=>h.elim S3.out S4.out),if_pos S5.out]
      rw [hr];exact ⟨rfl,HB.out⟩
     ·have y5:(t.stage == 5)=false:=by simp [s5]
      have S5:=am s5;clear s5
      go_wp2_with (first
      |((with_reducible refine gate_dst (N:=2) rfl ?_);refine box_event rfl (N:=2) rfl (t:=59) (by go_simp<;>rfl) ?_;intro gt hg w2 hbox hb;have BT:=am hbox;have HB:=am hb;have BTc:=zc8 BT.out;clear hbox hb hg)
      |(go_at_call 159;refine (l11Find_calls B10 d10 t.puts cell _ (Kd.C_below C10.out HB.out) hpn).mono ?_;rw [HFD.out];rintro e w9 ⟨rfl,rfl⟩))
      go_ret
      have hr:holds t cell=false:=by
       rw [HO.out];rw [if_neg S2.out,if_neg (fun h=>h.elim S3.out S4.out),if_neg S5.out]
      rw [hr];exact ⟨rfl,HB.out⟩
theorem l12At_calls (t:Task) (cs:List Value) (deeds:Int) (w:World) (hx:kTask.K w t cs) (hrn:t.reads.length<=1048576) (hpn:t.puts.length<=1048576):
  Calls Tryz.prog 158 #[.agg cs.toArray,.int .i64 deeds] w fun e w'=>e= .returned (.bool (stOk t deeds))/\Below w.heap.size w w':=by
 obtain ⟨B3,d3,B8,d8,B9,d9,B10,d10,rfl,-⟩:=kTask_open hx;clear hx;go_enter Tryz.func158,Tryz.ntmps158;by_cases s0:t.stage=0
 ·have y0:(t.stage == 0)=true:=by simp [s0]
  have S0:=am s0;clear s0;by_cases za:t.at_=0
  ·have y_za:(t.at_ == 0)=true:=by simp [za]
   have Zza:=am za;clear za
   go_wp2_with (first
   |((with_reducible refine gate_dst (N:=2) rfl ?_);refine box_event rfl (N:=2) rfl (t:=59) (by go_simp<;>rfl) ?_;intro gt hg w2 hbox hb;have BT:=am hbox;have HB:=am hb;have BTc:=zc8 BT.out;clear hbox hb hg))
   go_ret
   have hr:stOk t deeds=((t.reads.length:Int)+(t.puts.length:Int) == 0):=by
    unfold stOk;rw [if_pos S0.out];rw [decide_eq_true Zza.out,Bool.true_and,Bool.eq_iff_iff,decide_eq_true_eq,beq_iff_eq];omega
   rw [hr];exact ⟨rfl,HB.out⟩
  ·have y_za:(t.at_ == 0)=false:=by simp [za]
   have Zza:=am za;clear za
   go_wp2_with (first
   |((with_reducible refine gate_dst (N:=2) rfl ?_);refine box_event rfl (N:=2) rfl (t:=59) (by go_simp<;>rfl) ?_;intro gt hg w2 hbox hb;have BT:=am hbox;have HB:=am hb;have BTc:=zc8 BT.out;clear hbox hb hg))
   go_ret
   have hr:stOk t deeds=false:=by
    unfold stOk;rw [if_pos S0.out];rw [decide_eq_false Zza.out,Bool.false_and]
   rw [hr];exact ⟨rfl,HB.out⟩
 ·have y0:(t.stage == 0)=false:=by simp [s0]
  have S0:=am s0;clear s0;by_cases s1:t.stage=1
  ·have y1:(t.stage == 1)=true:=by simp [s1]
   have S1:=am s1;clear s1;obtain ⟨bHI,hbHI⟩:∃ b,inB t.at_ 0 deeds=b:=⟨_,rfl⟩;have HI:Aside0 ((decide ((0:Int)<=t.at_) && decide (t.at_<=deeds))=bHI):=⟨hbHI⟩;clear hbHI
   go_wp2_with (first
   |((with_reducible refine gate_dst (N:=2) rfl ?_);refine box_event rfl (N:=2) rfl (t:=59) (by go_simp<;>rfl) ?_;intro gt hg w2 hbox hb;have BT:=am hbox;have HB:=am hb;have BTc:=zc8 BT.out;clear hbox hb hg)
   |(go_at_call 76;refine (l6In_calls _ _ _ _).mono ?_;(first|rw [HI.out]);rintro e w9 ⟨rfl,rfl⟩))
   go_ret
   have hr:stOk t deeds=bHI:=by
    unfold stOk;rw [if_neg S0.out,if_pos S1.out];exact HI.out
   rw [hr];exact ⟨rfl,HB.out⟩
  ·have y1:(t.stage == 1)=false:=by simp [s1]
   have S1:=am s1;clear s1;by_cases s3:t.stage=3
   ·have y3:(t.stage == 3)=true:=by simp [s3]
    have S3:=am s3;clear s3;by_cases za:t.at_=0
    ·have y_za:(t.at_ == 0)=true:=by simp [za]
     have Zza:=am za;clear za
     go_wp2_with (first
     |((with_reducible refine gate_dst (N:=2) rfl ?_);refine box_event rfl (N:=2) rfl (t:=59) (by go_simp<;>rfl) ?_;intro gt hg w2 hbox hb;have BT:=am hbox;have HB:=am hb;have BTc:=zc8 BT.out;clear hbox hb hg))
     go_ret
     have hr:stOk t deeds=decide (0 < t.puts.length):=by
      unfold stOk;rw [if_neg S0.out,if_neg S1.out,if_pos S3.out];rw [decide_eq_true Zza.out,Bool.true_and]
     rw [hr];exact ⟨rfl,HB.out⟩
    ·have y_za:(t.at_ == 0)=false:=by simp [za]
     have Zza:=am za;clear za
     go_wp2_with (first
     |((with_reducible refine gate_dst (N:=2) rfl ?_);refine box_event rfl (N:=2) rfl (t:=59) (by go_simp<;>rfl) ?_;intro gt hg w2 hbox hb;have BT:=am hbox;have HB:=am hb;have BTc:=zc8 BT.out;clear hbox hb hg))
     go_ret
     have hr:stOk t deeds=false:=by
      unfold stOk;rw [if_neg S0.out,if_neg S1.out,if_pos S3.out];rw [decide_eq_false Zza.out,Bool.false_and]
     rw [hr];exact ⟨rfl,HB.out⟩
   ·have y3:(t.stage == 3)=false:=by simp [s3]
    have S3:=am s3;clear s3;by_cases s4:t.stage=4
    ·have y4:(t.stage == 4)=true:=by simp [s4]
     have S4:=am s4;clear s4;obtain ⟨bHI,hbHI⟩:∃ b,inB t.at_ 0 (t.reads.length:Int)=b:=⟨_,rfl⟩;have HI:Aside0 ((decide ((0:Int)<=t.at_) && decide (t.at_<=(t.reads.length:Int)))=bHI):=⟨hbHI⟩;clear hbHI
     cases bHI with
     | false=>
      go_wp2_with (first
      |((with_reducible refine gate_dst (N:=2) rfl ?_);refine box_event rfl (N:=2) rfl (t:=59) (by go_simp<;>rfl) ?_;intro gt hg w2 hbox hb;have BT:=am hbox;have HB:=am hb;have BTc:=zc8 BT.out;clear hbox hb hg)
      |(go_at_call 76;refine (l6In_calls _ _ _ _).mono ?_;(first|rw [HI.out]);rintro e w9 ⟨rfl,rfl⟩))
      go_ret
      have hr:stOk t deeds=false:=by
       unfold stOk;rw [if_neg S0.out,if_neg S1.out,if_neg S3.out,if_pos S4.out];rw [show inB t.at_ 0 (t.reads.length:Int)=false from HI.out,Bool.false_and]
      rw [hr]
      exact ⟨rfl,HB.out⟩
     | true=>
      go_wp2_with (first
      |((with_reducible refine gate_dst (N:=2) rfl ?_);refine box_event rfl (N:=2) rfl (t:=59) (by go_simp<;>rfl) ?_;intro gt hg w2 hbox hb;have BT:=am hbox;have HB:=am hb;have BTc:=zc8 BT.out;clear hbox hb hg)
      |(go_at_call 76;refine (l6In_calls _ _ _ _).mono ?_;(first|rw [HI.out]);rintro e w9 ⟨rfl,rfl⟩))
      go_ret
      have hr:stOk t deeds=decide (0 < t.puts.length):=by
       unfold stOk;rw [if_neg S0.out,if_neg S1.out,if_neg S3.out,if_pos S4.out];rw [show inB t.at_ 0 (t.reads.length:Int)=true from HI.out,Bool.true_and]
      rw [hr];exact ⟨rfl,HB.out⟩
    ·have y4:(t.stage == 4)=false:=by simp [s4]
     have S4:=am s4;clear s4;obtain ⟨bHI,hbHI⟩:∃ b,inB t.at_ 0 ((t.puts.length:Int) - 1)=b:=⟨_,rfl⟩;have HI:Aside0 ((decide ((0:Int)<=t.at_) && decide (t.at_<=((t.puts.length:Int) - 1)))=bHI):=⟨hbHI⟩;clear hbHI
     go_wp2_with (first
     |((with_reducible refine gate_dst (N:=2) rfl ?_);refine box_event rfl (N:=2) rfl (t:=59) (by go_simp<;>rfl) ?_;intro gt hg w2 hbox hb;have BT:=am hbox;have HB:=am hb;have BTc:=zc8 BT.out;clear hbox hb hg)
     |(go_at_call 76;refine (l6In_calls _ _ _ _).mono ?_;(first|rw [HI.out]);rintro e w9 ⟨rfl,rfl⟩))
     go_ret
     have hr:stOk t deeds=bHI:=by
      unfold stOk;rw [if_neg S0.out,if_neg S1.out,if_neg S3.out,if_neg S4.out];exact HI.out
     rw [hr];exact ⟨rfl,HB.out⟩
theorem l12Times_calls (t:Task) (s:Sys) (cs ss:List Value) (w:World) (hx:kTask.K w t cs) (hs:kSys.K w s ss) (hc0:0<=s.clock) (hc1:s.clock<=200) (hl:s.log.length<=1048576):
  Calls Tryz.prog 117 #[.agg cs.toArray,.agg ss.toArray] w fun e w'=>e= .returned (.bool (timesOk t s))/\Below w.heap.size w w':=by
 obtain ⟨B3,d3,B8,d8,B9,d9,B10,d10,rfl,-⟩:=kTask_open hx;obtain ⟨A0,c0,A1,c1,A3,c3,rfl,-⟩:=kSys_open hs;clear hx hs;go_enter Tryz.func117,Tryz.ntmps117;obtain ⟨bH1,hbH1⟩:∃ b,inB t.since 0 s.clock=b:=⟨_,rfl⟩;have H1:Aside0 ((decide ((0:Int)<=t.since) && decide (t.since<=s.clock))=bH1):=⟨hbH1⟩;clear hbH1
 cases hx1:bH1 with
 | false=>
  subst hx1
  go_wp2_with (first
  |((with_reducible refine gate_dst (N:=2) rfl ?_);refine box_event rfl (N:=2) rfl (t:=59) (by go_simp<;>rfl) ?_;intro gt hg w2 hbox hb;have BT:=am hbox;have HB:=am hb;have BTc:=zc8 BT.out;clear hbox hb hg)
  |((with_reducible refine gate_dst (N:=3) rfl ?_);refine box_event rfl (N:=3) rfl (t:=42) (by go_simp<;>rfl) ?_;intro gs hg w3 hbox hb;have BS:=am hbox;replace HB:=am (below_step HB.out hb);replace BT:=am (zb8 BT.out hb);clear BTc hbox hb hg;have BTc:=zc8 BT.out;have BSc:=zc8 BS.out)
  |(go_at_call 76;refine (l6In_calls _ _ _ _).mono ?_;(first|rw [H1.out]);rintro e w9 ⟨rfl,rfl⟩))
  go_ret
  have hr:timesOk t s=false:=by
   unfold timesOk;rw [show inB t.since 0 s.clock=false from H1.out,Bool.false_and,Bool.false_and]
  rw [hr]
  exact ⟨rfl,HB.out⟩
 | true=>
  subst hx1;have hs01:=inB_iff.1 (show inB t.since 0 s.clock=true from H1.out);have hsA:=hs01.1;have hsB:=hs01.2;clear hs01;obtain ⟨bH2,hbH2⟩:∃ b,inB t.from_ 0 (s.log.length:Int)=b:=⟨_,rfl⟩;have H2:Aside0 ((decide ((0:Int)<=t.from_) && decide (t.from_<=(s.log.length:Int)))=bH2):=⟨hbH2⟩;clear hbH2
  cases hx2:bH2 with
  | false=>
   subst hx2
   go_wp2_with (first
   |((with_reducible refine gate_dst (N:=2) rfl ?_);refine box_event rfl (N:=2) rfl (t:=59) (by go_simp<;>rfl) ?_;intro gt hg w2 hbox hb;have BT:=am hbox;have HB:=am hb;have BTc:=zc8 BT.out;clear hbox hb hg)
   |((with_reducible refine gate_dst (N:=3) rfl ?_);refine box_event rfl (N:=3) rfl (t:=42) (by go_simp<;>rfl) ?_;intro gs hg w3 hbox hb;have BS:=am hbox;replace HB:=am (below_step HB.out hb);replace BT:=am (zb8 BT.out hb);clear BTc hbox hb hg;have BTc:=zc8 BT.out;have BSc:=zc8 BS.out)
   |(go_at_call 76;refine (l6In_calls _ _ _ _).mono ?_;(first|rw [H1.out] | rw [H2.out]);rintro e w9 ⟨rfl,rfl⟩))
   go_ret
   have hr:timesOk t s=false:=by
    unfold timesOk;rw [show inB t.from_ 0 (s.log.length:Int)=false from H2.out,Bool.and_false,Bool.false_and]
   rw [hr]
   exact ⟨rfl,HB.out⟩
  | true=>
   subst hx2;by_cases s0:t.stage=0
   ·have y0:(t.stage == 0)=true:=by simp [s0]
    have S0:=am s0;clear s0;obtain ⟨bHI,hbHI⟩:∃ b,inB t.when_ 0 (s.clock+1)=b:=⟨_,rfl⟩;have HI:Aside0 ((decide ((0:Int)<=t.when_) && decide (t.when_<=(s.clock+1)))=bHI):=⟨hbHI⟩;clear hbHI
    go_wp2_with (first
    |((with_reducible refine gate_dst (N:=2) rfl ?_);refine box_event rfl (N:=2) rfl (t:=59) (by go_simp<;>rfl) ?_;intro gt hg w2 hbox hb;have BT:=am hbox;have HB:=am hb;have BTc:=zc8 BT.out;clear hbox hb hg)
    |((with_reducible refine gate_dst (N:=3) rfl ?_);refine box_event rfl (N:=3) rfl (t:=42) (by go_simp<;>rfl) ?_;intro gs hg w3 hbox hb;have BS:=am hbox;replace HB:=am (below_step HB.out hb);replace BT:=am (zb8 BT.out hb);clear BTc hbox hb hg;have BTc:=zc8 BT.out;have BSc:=zc8 BS.out)
    |(go_at_call 76;refine (l6In_calls _ _ _ _).mono ?_;(first|rw [H1.out] | rw [H2.out] | rw [HI.out]);rintro e w9 ⟨rfl,rfl⟩))
    go_ret
    have hr:timesOk t s=bHI:=by
     unfold timesOk;rw [show inB t.since 0 s.clock=true from H1.out,show inB t.from_ 0 (s.log.length:Int)=true from H2.out,Bool.true_and,Bool.true_and];rw [if_pos S0.out];exact HI.out
    rw [hr];exact ⟨rfl,HB.out⟩
   ·have y0:(t.stage == 0)=false:=by simp [s0]
    have S0:=am s0;clear s0;by_cases s4:t.stage=4
    ·have y4:(t.stage == 4)=true:=by simp [s4]
     have S4:=am s4;clear s4;obtain ⟨bHI,hbHI⟩:∃ b,inB t.when_ (t.since+1) s.clock=b:=⟨_,rfl⟩;have HI:Aside0 ((decide (((t.since+1):Int)<=t.when_) && decide (t.when_<=s.clock))=bHI):=⟨hbHI⟩;clear hbHI
     go_wp2_with (first
     |((with_reducible refine gate_dst (N:=2) rfl ?_);refine box_event rfl (N:=2) rfl (t:=59) (by go_simp<;>rfl) ?_;intro gt hg w2 hbox hb;have BT:=am hbox;have HB:=am hb;have BTc:=zc8 BT.out;clear hbox hb hg)
     |((with_reducible refine gate_dst (N:=3) rfl ?_);refine box_event rfl (N:=3) rfl (t:=42) (by go_simp<;>rfl) ?_;intro gs hg w3 hbox hb;have BS:=am hbox;replace HB:=am (below_step HB.out hb);replace BT:=am (zb8 BT.out hb);clear BTc hbox hb hg;have BTc:=zc8 BT.out;have BSc:=zc8 BS.out)
     |(go_at_call 76;refine (l6In_calls _ _ _ _).mono ?_;(first|rw [H1.out] | rw [H2.out] | rw [HI.out]);rintro e w9 ⟨rfl,rfl⟩))
     go_ret
     have hr:timesOk t s=bHI:=by
      unfold timesOk;rw [show inB t.since 0 s.clock=true from H1.out,show inB t.from_ 0 (s.log.length:Int)=true from H2.out,Bool.true_and,Bool.true_and];rw [if_neg S0.out,if_pos (.inl S4.out)];exact HI.out
     rw [hr];exact ⟨rfl,HB.out⟩
    ·have y4:(t.stage == 4)=false:=by simp [s4]
     have S4:=am s4;clear s4;by_cases s5:t.stage=5
     ·have y5:(t.stage == 5)=true:=by simp [s5]
      have S5:=am s5;clear s5;obtain ⟨bHI,hbHI⟩:∃ b,inB t.when_ (t.since+1) s.clock=b:=⟨_,rfl⟩;have HI:Aside0 ((decide (((t.since+1):Int)<=t.when_) && decide (t.when_<=s.clock))=bHI):=⟨hbHI⟩;clear hbHI
      go_wp2_with (first
      |((with_reducible refine gate_dst (N:=2) rfl ?_);refine box_event rfl (N:=2) rfl (t:=59) (by go_simp<;>rfl) ?_;intro gt hg w2 hbox hb;have BT:=am hbox;have HB:=am hb;have BTc:=zc8 BT.out;clear hbox hb hg)
      |((with_reducible refine gate_dst (N:=3) rfl ?_);refine box_event rfl (N:=3) rfl (t:=42) (by go_simp<;>rfl) ?_;intro gs hg w3 hbox hb;have BS:=am hbox;replace HB:=am (below_step HB.out hb);replace BT:=am (zb8 BT.out hb);clear BTc hbox hb hg;have BTc:=zc8 BT.out;have BSc:=zc8 BS.out)
      |(go_at_call 76;refine (l6In_calls _ _ _ _).mono ?_;(first|rw [H1.out] | rw [H2.out] | rw [HI.out]);rintro e w9 ⟨rfl,rfl⟩))
      go_ret
      have hr:timesOk t s=bHI:=by
       unfold timesOk;rw [show inB t.since 0 s.clock=true from H1.out,show inB t.from_ 0 (s.log.length:Int)=true from H2.out,Bool.true_and,Bool.true_and];rw [if_neg S0.out,if_pos (.inr S5.out)];exact HI.out
      rw [hr];exact ⟨rfl,HB.out⟩
     ·have y5:(t.stage == 5)=false:=by simp [s5]
      have S5:=am s5;clear s5;have HI:=H1
      go_wp2_with (first
      |((with_reducible refine gate_dst (N:=2) rfl ?_);refine box_event rfl (N:=2) rfl (t:=59) (by go_simp<;>rfl) ?_;intro gt hg w2 hbox hb;have BT:=am hbox;have HB:=am hb;have BTc:=zc8 BT.out;clear hbox hb hg)
      |((with_reducible refine gate_dst (N:=3) rfl ?_);refine box_event rfl (N:=3) rfl (t:=42) (by go_simp<;>rfl) ?_;intro gs hg w3 hbox hb;have BS:=am hbox;replace HB:=am (below_step HB.out hb);replace BT:=am (zb8 BT.out hb);clear BTc hbox hb hg;have BTc:=zc8 BT.out;have BSc:=zc8 BS.out)
      |(go_at_call 76;refine (l6In_calls _ _ _ _).mono ?_;(first|rw [H1.out] | rw [H2.out] | rw [HI.out]);rintro e w9 ⟨rfl,rfl⟩))
      go_ret
      have hr:timesOk t s=(t.when_ == 0):=by
       unfold timesOk;rw [show inB t.since 0 s.clock=true from H1.out,show inB t.from_ 0 (s.log.length:Int)=true from H2.out,Bool.true_and,Bool.true_and];rw [if_neg S0.out,if_neg (fun h=>h.elim S4.out S5.out),Bool.eq_iff_iff,decide_eq_true_eq,beq_iff_eq]
      rw [hr];exact ⟨rfl,HB.out⟩
theorem l12Up_calls (s:Sys) (ss:List Value) (i:Nat) (w:World) (hs:kSys.K w s ss) (hi:i < s.tasks.length) (hn:s.tasks.length<=1048576):
  Calls Tryz.prog 118 #[.agg ss.toArray,.int .i64 i] w fun e w'=>e= .returned (.bool (upsOk s i))/\Below w.heap.size w w':=by
 obtain ⟨A0,c0,A1,c1,A3,c3,rfl,-,-,-,g1,-⟩:=kSys_open hs;have G1:=am g1;obtain ⟨b,o,cs,rfl,hcl,hK,hcc,-⟩:=C_field g1 zTask i hi (by decide);obtain ⟨t,ht⟩:∃ x,x=taskAt s.tasks i:=⟨_,rfl⟩;rw [show s.tasks.getD i zTask=t from ht.symm] at hK;obtain ⟨B3,d3,B8,d8,B9,d9,B10,d10,rfl,-⟩:=kTask_open hK;have HCC:=am hcc;have q0:(0:Int)<=(i:Int):=by omega
 have q1:(i:Int) < (s.tasks.length:Int):=by omega
 have HU:Aside0 (upsOk s i=if i=0 then decide (t.up= -1) else inB t.up 0 (i - 1) && (!isLive t || decide ((taskAt s.tasks t.up.toNat).way=1))):=⟨by rw [ht];rfl⟩;clear hs g1 hcl hK hcc ht;go_enter Tryz.func118,Tryz.ntmps118;by_cases h0:i=0
 ·have y0:((i:Int) == 0)=true:=by simp [h0]
  have y0':(i == 0)=true:=by simp [h0]
  have H0:=am h0;clear h0
  go_wp2_with (first
  |((with_reducible refine gate_dst (N:=2) rfl ?_);refine box_event rfl (N:=2) rfl (t:=42) (by go_simp<;>rfl) ?_;intro gs hg w2 hbox hb;have BS:=am hbox;have HB:=am hb;have BSc:=zc8 BS.out;clear hbox hb hg)
  |((with_reducible refine gate_dst (N:=11) rfl ?_);refine wpList_load_mid rfl 59 (.tmp 10) rfl b (o+i*13) rfl _ _ (fun j u hu=>cellB HB.out (HCC.out j u hu)) Tryz.underlying59 rfl (by kernel_rfl) ?_)|((with_reducible refine gate_dst (N:=5) rfl ?_);refine box_event rfl (N:=5) rfl (t:=59) (by go_simp<;>rfl) ?_;intro gt hg wt hbox hb;have BT0:=am hbox;have GT:=am hg;have HBT:=am hb;clear hbox hb hg)|((with_reducible refine gate_store (t:=59) (p:=5) rfl ?_);refine store_block rfl rfl 59 (.tmp 5) (.tmp 11) rfl rfl rfl BT0.out rfl (by kernel_rfl) (aB rfl) ?_;intro wn hbox hg;have BT:=am hbox;have hbx:=pw_below_grown HBT.out _ HBT.out.size hg (fun z hz=>by cases hz;exact Nat.le_of_eq GT.out.symm);replace BS:=am (zb8 BS.out hbx);replace HB:=am (below_step HB.out hbx);clear BSc BT0 HBT hbx hbox hg;have BSc:=zc8 BS.out;have BTc:=zc8 BT.out))
  go_ret
  have hr:upsOk s i=(t.up == -1):=by
   rw [HU.out];rw [if_pos H0.out,Bool.eq_iff_iff,decide_eq_true_eq,beq_iff_eq]
  rw [hr];exact ⟨rfl,HB.out⟩
 ·have y0:((i:Int) == 0)=false:=by simp [h0]
  have y0':(i == 0)=false:=by simp [h0]
  have H0:=am h0;clear h0
  cases hb1:inB t.up 0 ((i:Int) - 1) with
  | false=>
   have H1:Aside0 ((decide ((0:Int)<=t.up) && decide (t.up<=(i:Int) - 1))=false):=⟨hb1⟩;clear hb1
   go_wp2_with (first
   |((with_reducible refine gate_dst (N:=2) rfl ?_);refine box_event rfl (N:=2) rfl (t:=42) (by go_simp<;>rfl) ?_;intro gs hg w2 hbox hb;have BS:=am hbox;have HB:=am hb;have BSc:=zc8 BS.out;clear hbox hb hg)
   |((with_reducible refine gate_dst (N:=11) rfl ?_);refine wpList_load_mid rfl 59 (.tmp 10) rfl b (o+i*13) rfl _ _ (fun j u hu=>cellB HB.out (HCC.out j u hu)) Tryz.underlying59 rfl (by kernel_rfl) ?_)|((with_reducible refine gate_dst (N:=5) rfl ?_);refine box_event rfl (N:=5) rfl (t:=59) (by go_simp<;>rfl) ?_;intro gt hg wt hbox hb;have BT0:=am hbox;have GT:=am hg;have HBT:=am hb;clear hbox hb hg)|((with_reducible refine gate_store (t:=59) (p:=5) rfl ?_);refine store_block rfl rfl 59 (.tmp 5) (.tmp 11) rfl rfl rfl BT0.out rfl (by kernel_rfl) (aB rfl) ?_;intro wn hbox hg;have BT:=am hbox;have hbx:=pw_below_grown HBT.out _ HBT.out.size hg (fun z hz=>by cases hz;exact Nat.le_of_eq GT.out.symm);replace BS:=am (zb8 BS.out hbx);replace HB:=am (below_step HB.out hbx);clear BSc BT0 HBT hbx hbox hg;have BSc:=zc8 BS.out;have BTc:=zc8 BT.out)
   |(go_at_call 76;refine (l6In_calls _ _ _ _).mono ?_;(first|rw [H1.out]);rintro e w9 ⟨rfl,rfl⟩))
   go_ret
   have hr:upsOk s i=false:=by
    rw [HU.out];rw [if_neg H0.out,show inB t.up 0 ((i:Int) - 1)=false from H1.out,Bool.false_and]
   rw [hr]
   exact ⟨rfl,HB.out⟩
  | true=>
   have H1:Aside0 ((decide ((0:Int)<=t.up) && decide (t.up<=(i:Int) - 1))=true):=⟨hb1⟩;have hu:=inB_iff.1 hb1;clear hb1;obtain ⟨u,hu0⟩:=Int.eq_ofNat_of_zero_le hu.1;have hul:u < s.tasks.length:=by omega
   have r0:(0:Int)<=t.up:=hu.1;have r1:t.up < (s.tasks.length:Int):=by omega
   have r4:t.up.toNat=u:=by omega
   obtain ⟨b',o',cs',he,hcl,hK,hcc,-⟩:=C_field G1.out zTask u hul (by decide);cases he;obtain ⟨wy,hwy⟩:∃ x,x=(taskAt s.tasks u).way:=⟨_,rfl⟩;rw [show s.tasks.getD u zTask=taskAt s.tasks u from rfl] at hK;obtain ⟨E3,f3,E8,f8,E9,f9,E10,f10,rfl,-⟩:=kTask_open hK;have pw:=hcc 4 _ rfl;simp only [show kTask.sz=13 from rfl] at pw;rw [<-hwy] at pw;have PW:=am pw;have HWY:=am hwy;clear hcl hK hcc pw hwy hu hu0;by_cases w0:t.way=0
   ·have z0:(t.way == 0)=true:=by simp [w0]
    have W0:=am w0;clear w0
    go_wp2_with (first
    |((with_reducible refine gate_dst (N:=2) rfl ?_);refine box_event rfl (N:=2) rfl (t:=42) (by go_simp<;>rfl) ?_;intro gs hg w2 hbox hb;have BS:=am hbox;have HB:=am hb;have BSc:=zc8 BS.out;clear hbox hb hg)
    |((with_reducible refine gate_dst (N:=11) rfl ?_);refine wpList_load_mid rfl 59 (.tmp 10) rfl b (o+i*13) rfl _ _ (fun j u hu=>cellB HB.out (HCC.out j u hu)) Tryz.underlying59 rfl (by kernel_rfl) ?_)|((with_reducible refine gate_dst (N:=5) rfl ?_);refine box_event rfl (N:=5) rfl (t:=59) (by go_simp<;>rfl) ?_;intro gt hg wt hbox hb;have BT0:=am hbox;have GT:=am hg;have HBT:=am hb;clear hbox hb hg)|((with_reducible refine gate_store (t:=59) (p:=5) rfl ?_);refine store_block rfl rfl 59 (.tmp 5) (.tmp 11) rfl rfl rfl BT0.out rfl (by kernel_rfl) (aB rfl) ?_;intro wn hbox hg;have BT:=am hbox;have hbx:=pw_below_grown HBT.out _ HBT.out.size hg (fun z hz=>by cases hz;exact Nat.le_of_eq GT.out.symm);replace BS:=am (zb8 BS.out hbx);replace HB:=am (below_step HB.out hbx);clear BSc BT0 HBT hbx hbox hg;have BSc:=zc8 BS.out;have BTc:=zc8 BT.out;have pww:=cellB HB.out PW.out)
    |(go_at_call 76;refine (l6In_calls _ _ _ _).mono ?_;(first|rw [H1.out]);rintro e w9 ⟨rfl,rfl⟩))
    go_ret
    have hr:upsOk s i=(wy == 1):=by
     rw [HU.out];rw [if_neg H0.out,show inB t.up 0 ((i:Int) - 1)=true from H1.out,r4,<-HWY.out,show isLive t=true by simp [isLive,W0.out]];rw [Bool.true_and,Bool.not_true,Bool.false_or,Bool.eq_iff_iff,decide_eq_true_eq,beq_iff_eq]
    rw [hr];exact ⟨rfl,HB.out⟩
   ·have z0:(t.way == 0)=false:=by simp [w0]
    by_cases w1:t.way=1
    ·have z1:(t.way == 1)=true:=by simp [w1]
     have W1:=am w1;clear w0 w1
     go_wp2_with (first
     |((with_reducible refine gate_dst (N:=2) rfl ?_);refine box_event rfl (N:=2) rfl (t:=42) (by go_simp<;>rfl) ?_;intro gs hg w2 hbox hb;have BS:=am hbox;have HB:=am hb;have BSc:=zc8 BS.out;clear hbox hb hg)
     |((with_reducible refine gate_dst (N:=11) rfl ?_);refine wpList_load_mid rfl 59 (.tmp 10) rfl b (o+i*13) rfl _ _ (fun j u hu=>cellB HB.out (HCC.out j u hu)) Tryz.underlying59 rfl (by kernel_rfl) ?_)|((with_reducible refine gate_dst (N:=5) rfl ?_);refine box_event rfl (N:=5) rfl (t:=59) (by go_simp<;>rfl) ?_;intro gt hg wt hbox hb;have BT0:=am hbox;have GT:=am hg;have HBT:=am hb;clear hbox hb hg)|((with_reducible refine gate_store (t:=59) (p:=5) rfl ?_);refine store_block rfl rfl 59 (.tmp 5) (.tmp 11) rfl rfl rfl BT0.out rfl (by kernel_rfl) (aB rfl) ?_;intro wn hbox hg;have BT:=am hbox;have hbx:=pw_below_grown HBT.out _ HBT.out.size hg (fun z hz=>by cases hz;exact Nat.le_of_eq GT.out.symm);replace BS:=am (zb8 BS.out hbx);replace HB:=am (below_step HB.out hbx);clear BSc BT0 HBT hbx hbox hg;have BSc:=zc8 BS.out;have BTc:=zc8 BT.out;have pww:=cellB HB.out PW.out)
     |(go_at_call 76;refine (l6In_calls _ _ _ _).mono ?_;(first|rw [H1.out]);rintro e w9 ⟨rfl,rfl⟩))
     go_ret
     have hr:upsOk s i=(wy == 1):=by
      rw [HU.out];rw [if_neg H0.out,show inB t.up 0 ((i:Int) - 1)=true from H1.out,r4,<-HWY.out,show isLive t=true by simp [isLive,W1.out]];rw [Bool.true_and,Bool.not_true,Bool.false_or,Bool.eq_iff_iff,decide_eq_true_eq,beq_iff_eq]
     rw [hr];exact ⟨rfl,HB.out⟩
    ·have z1:(t.way == 1)=false:=by simp [w1]
     have WN:Aside0 (isLive t=false):=⟨by simp [isLive,w0,w1]⟩;clear w0 w1
     go_wp2_with (first
     |((with_reducible refine gate_dst (N:=2) rfl ?_);refine box_event rfl (N:=2) rfl (t:=42) (by go_simp<;>rfl) ?_;intro gs hg w2 hbox hb;have BS:=am hbox;have HB:=am hb;have BSc:=zc8 BS.out;clear hbox hb hg)
     |((with_reducible refine gate_dst (N:=11) rfl ?_);refine wpList_load_mid rfl 59 (.tmp 10) rfl b (o+i*13) rfl _ _ (fun j u hu=>cellB HB.out (HCC.out j u hu)) Tryz.underlying59 rfl (by kernel_rfl) ?_)|((with_reducible refine gate_dst (N:=5) rfl ?_);refine box_event rfl (N:=5) rfl (t:=59) (by go_simp<;>rfl) ?_;intro gt hg wt hbox hb;have BT0:=am hbox;have GT:=am hg;have HBT:=am hb;clear hbox hb hg)|((with_reducible refine gate_store (t:=59) (p:=5) rfl ?_);refine store_block rfl rfl 59 (.tmp 5) (.tmp 11) rfl rfl rfl BT0.out rfl (by kernel_rfl) (aB rfl) ?_;intro wn hbox hg;have BT:=am hbox;have hbx:=pw_below_grown HBT.out _ HBT.out.size hg (fun z hz=>by cases hz;exact Nat.le_of_eq GT.out.symm);replace BS:=am (zb8 BS.out hbx);replace HB:=am (below_step HB.out hbx);clear BSc BT0 HBT hbx hbox hg;have BSc:=zc8 BS.out;have BTc:=zc8 BT.out;have pww:=cellB HB.out PW.out)
     |(go_at_call 76;refine (l6In_calls _ _ _ _).mono ?_;(first|rw [H1.out]);rintro e w9 ⟨rfl,rfl⟩))
     go_ret
     have hr:upsOk s i=true:=by
      rw [HU.out];rw [if_neg H0.out,show inB t.up 0 ((i:Int) - 1)=true from H1.out,WN.out];rfl
     rw [hr];exact ⟨rfl,HB.out⟩
theorem l12Cells_calls (s:Sys) (ss:List Value) (w:World) (hs:kSys.K w s ss) (hm:s.cells.length<=1048576) (hn:s.tasks.length<=1048576) (hz:∀ i,i < s.tasks.length->(taskAt s.tasks i).puts.length<=1048576):
  Calls Tryz.prog 78 #[.agg ss.toArray] w fun e w'=>e= .returned (.bool (cellsOk s))/\Below w.heap.size w w':=by
 obtain ⟨A0,c0,A1,c1,A3,c3,rfl,-,g0,-,g1,-⟩:=kSys_open hs;have G0:=am g0;have G1:=am g1;have HZ:=am hz;clear hs g0 g1 hz;go_enter Tryz.func78,Tryz.ntmps78
 go_wp2_with (first
 |((with_reducible refine gate_dst (N:=1) rfl ?_);refine box_event rfl (N:=1) rfl (t:=42) (by go_simp<;>rfl) ?_;intro gs hg w2 hbox hb;have BS:=am hbox;have HB:=am hb;have BSc:=zc8 BS.out;clear hbox hb hg))
 go_loopw [3] (fun j w'=>∃ k:Nat,k<=s.cells.length/\j= .int .i64 k/\Aside0 (∀ i,i < k->(inB (cellAt s.cells i).num 0 99 && inB (cellAt s.cells i).time 0 s.clock && inB (cellAt s.cells i).lock (-1) (s.tasks.length - 1) && allB s.tasks.length fun k=>decide (holds (taskAt s.tasks k) i=decide ((cellAt s.cells i).lock=k)))=true)/\Aside0 (w'.heap[gs]? = some (.cells #[.slice A0 s.cells.length c0,.slice A1 s.tasks.length c1,.int .i64 s.clock,.slice A3 s.log.length c3] 42 (0,0)))/\Aside0 (Below w.heap.size w w')) (fun j _=>s.cells.length - (intOf j).toNat)
 case atStart=>exact ⟨0,Nat.zero_le _,rfl,⟨fun i hi=>by omega⟩,BS,HB⟩
 case round=>
  clear BS HB BSc;obtain ⟨k,hk,rfl,HJ,BS,HB⟩:=hrel;have BSc:=zc8 BS.out;by_cases hlt:k < s.cells.length
  ·obtain ⟨bc,oc,cs,rfl,hcl,hK,hcc,-⟩:=C_field G0.out zCell k hlt (by decide)
   obtain ⟨c,hcx⟩:∃ x,x=cellAt s.cells k:=⟨_,rfl⟩;rw [show s.cells.getD k zCell=c from hcx.symm] at hK;have e:=kCell_open hK;subst e;have HC:=am hcc;have CX:=am hcx;have q0:(0:Int)<=(k:Int):=by omega
   have q1:(k:Int) < (s.cells.length:Int):=by omega
   clear hcl hK hcc hcx;obtain ⟨bH1,hbH1⟩:∃ b,inB c.num 0 99=b:=⟨_,rfl⟩;have H1:Aside0 ((decide ((0:Int)<=c.num) && decide (c.num<=99))=bH1):=⟨hbH1⟩;clear hbH1;obtain ⟨bH2,hbH2⟩:∃ b,inB c.time 0 s.clock=b:=⟨_,rfl⟩;have H2:Aside0 ((decide ((0:Int)<=c.time) && decide (c.time<=s.clock))=bH2):=⟨hbH2⟩;clear hbH2;obtain ⟨bH3,hbH3⟩:∃ b,inB c.lock (-1) ((s.tasks.length:Int) - 1)=b:=⟨_,rfl⟩;have H3:Aside0 ((decide ((-1:Int)<=c.lock) && decide (c.lock<=(s.tasks.length:Int) - 1))=bH3):=⟨hbH3⟩;clear hbH3
   cases bH1 with
   | false=>
    go_wp2_with (first
    |((with_reducible refine gate_dst (N:=17) rfl ?_);refine wpList_load_mid rfl 63 (.tmp 16) rfl bc (oc+k*3) rfl _ _ (fun j u hu=>cellB HB.out (HC.out j u hu)) Tryz.underlying63 rfl (by kernel_rfl) ?_)|((with_reducible refine gate_dst (N:=4) rfl ?_);refine box_event rfl (N:=4) rfl (t:=63) (by go_simp<;>rfl) ?_;intro gc hg wt hbox hb;have BC0:=am hbox;have GC:=am hg;have HBT:=am hb;clear hbox hb hg)|((with_reducible refine gate_store (t:=63) (p:=4) rfl ?_);refine store_block rfl rfl 63 (.tmp 4) (.tmp 17) rfl rfl rfl BC0.out rfl (by kernel_rfl) (aB rfl) ?_;intro wn hbox hg;have BC:=am hbox;have hbx:=pw_below_grown HBT.out _ HBT.out.size hg (fun z hz=>by cases hz;exact Nat.le_of_eq GC.out.symm);replace BS:=am (zb8 BS.out hbx);replace HB:=am (below_step HB.out hbx);clear BSc BC0 HBT hbx hbox hg;have BSc:=zc8 BS.out;have BCc:=zc8 BC.out)
    |(go_at_call 76;refine (l6In_calls _ _ _ _).mono ?_;(first|rw [H1.out] | rw [H2.out] | rw [H3.out]);rintro e w9 ⟨rfl,rfl⟩))
    go_ret
    have hr:cellsOk s=false:=by
     unfold cellsOk;exact allB_no hlt (by rw [<-CX.out];simp only [];rw [show inB c.num 0 99=false from H1.out,Bool.false_and,Bool.false_and,Bool.false_and])
    rw [hr]
    exact ⟨rfl,HB.out⟩
   | true=>
    cases bH2 with
    | false=>
     go_wp2_with (first
     |((with_reducible refine gate_dst (N:=17) rfl ?_);refine wpList_load_mid rfl 63 (.tmp 16) rfl bc (oc+k*3) rfl _ _ (fun j u hu=>cellB HB.out (HC.out j u hu)) Tryz.underlying63 rfl (by kernel_rfl) ?_)|((with_reducible refine gate_dst (N:=4) rfl ?_);refine box_event rfl (N:=4) rfl (t:=63) (by go_simp<;>rfl) ?_;intro gc hg wt hbox hb;have BC0:=am hbox;have GC:=am hg;have HBT:=am hb;clear hbox hb hg)|((with_reducible refine gate_store (t:=63) (p:=4) rfl ?_);refine store_block rfl rfl 63 (.tmp 4) (.tmp 17) rfl rfl rfl BC0.out rfl (by kernel_rfl) (aB rfl) ?_;intro wn hbox hg;have BC:=am hbox;have hbx:=pw_below_grown HBT.out _ HBT.out.size hg (fun z hz=>by cases hz;exact Nat.le_of_eq GC.out.symm);replace BS:=am (zb8 BS.out hbx);replace HB:=am (below_step HB.out hbx);clear BSc BC0 HBT hbx hbox hg;have BSc:=zc8 BS.out;have BCc:=zc8 BC.out)
     |(go_at_call 76;refine (l6In_calls _ _ _ _).mono ?_;(first|rw [H1.out] | rw [H2.out] | rw [H3.out]);rintro e w9 ⟨rfl,rfl⟩))
     go_ret
     have hr:cellsOk s=false:=by
      unfold cellsOk;exact allB_no hlt (by rw [<-CX.out];simp only [];rw [show inB c.time 0 s.clock=false from H2.out,Bool.and_false,Bool.false_and,Bool.false_and])
     rw [hr]
     exact ⟨rfl,HB.out⟩
    | true=>
     cases bH3 with
     | false=>
      go_wp2_with (first
      |((with_reducible refine gate_dst (N:=17) rfl ?_);refine wpList_load_mid rfl 63 (.tmp 16) rfl bc (oc+k*3) rfl _ _ (fun j u hu=>cellB HB.out (HC.out j u hu)) Tryz.underlying63 rfl (by kernel_rfl) ?_)|((with_reducible refine gate_dst (N:=4) rfl ?_);refine box_event rfl (N:=4) rfl (t:=63) (by go_simp<;>rfl) ?_;intro gc hg wt hbox hb;have BC0:=am hbox;have GC:=am hg;have HBT:=am hb;clear hbox hb hg)|((with_reducible refine gate_store (t:=63) (p:=4) rfl ?_);refine store_block rfl rfl 63 (.tmp 4) (.tmp 17) rfl rfl rfl BC0.out rfl (by kernel_rfl) (aB rfl) ?_;intro wn hbox hg;have BC:=am hbox;have hbx:=pw_below_grown HBT.out _ HBT.out.size hg (fun z hz=>by cases hz;exact Nat.le_of_eq GC.out.symm);replace BS:=am (zb8 BS.out hbx);replace HB:=am (below_step HB.out hbx);clear BSc BC0 HBT hbx hbox hg;have BSc:=zc8 BS.out;have BCc:=zc8 BC.out)
      |(go_at_call 76;refine (l6In_calls _ _ _ _).mono ?_;(first|rw [H1.out] | rw [H2.out] | rw [H3.out]);rintro e w9 ⟨rfl,rfl⟩))
      go_ret
      have hr:cellsOk s=false:=by
       unfold cellsOk;exact allB_no hlt (by rw [<-CX.out];simp only [];rw [show inB c.lock (-1) ((s.tasks.length:Int) - 1)=false from H3.out,Bool.and_false,Bool.false_and])
      rw [hr]
      exact ⟨rfl,HB.out⟩
     | true=>
      go_wp2_with (first
      |((with_reducible refine gate_dst (N:=17) rfl ?_);refine wpList_load_mid rfl 63 (.tmp 16) rfl bc (oc+k*3) rfl _ _ (fun j u hu=>cellB HB.out (HC.out j u hu)) Tryz.underlying63 rfl (by kernel_rfl) ?_)|((with_reducible refine gate_dst (N:=4) rfl ?_);refine box_event rfl (N:=4) rfl (t:=63) (by go_simp<;>rfl) ?_;intro gc hg wt hbox hb;have BC0:=am hbox;have GC:=am hg;have HBT:=am hb;clear hbox hb hg)|((with_reducible refine gate_store (t:=63) (p:=4) rfl ?_);refine store_block rfl rfl 63 (.tmp 4) (.tmp 17) rfl rfl rfl BC0.out rfl (by kernel_rfl) (aB rfl) ?_;intro wn hbox hg;have BC:=am hbox;have hbx:=pw_below_grown HBT.out _ HBT.out.size hg (fun z hz=>by cases hz;exact Nat.le_of_eq GC.out.symm);replace BS:=am (zb8 BS.out hbx);replace HB:=am (below_step HB.out hbx);clear BSc BC0 HBT hbx hbox hg;have BSc:=zc8 BS.out;have BCc:=zc8 BC.out)
      |(go_at_call 76;refine (l6In_calls _ _ _ _).mono ?_;(first|rw [H1.out] | rw [H2.out] | rw [H3.out]);rintro e w9 ⟨rfl,rfl⟩))
      go_loopw [5] (fun j w'=>∃ m:Nat,m<=s.tasks.length/\j= .int .i64 m/\Aside0 (∀ i,i < m->decide (holds (taskAt s.tasks i) k=decide (c.lock=i))=true)/\Aside0 (w'.heap[gs]? = some (.cells #[.slice (some ⟨bc,oc,none⟩) s.cells.length c0,.slice A1 s.tasks.length c1,.int .i64 s.clock,.slice A3 s.log.length c3] 42 (0,0)))/\Aside0 (w'.heap[gc]? = some (.cells #[.int .i64 c.num,.int .i64 c.time,.int .i64 c.lock] 63 (0,0)))/\Aside0 (Below w.heap.size w w')) (fun j _=>s.tasks.length - (intOf j).toNat)
      case atStart=>exact ⟨0,Nat.zero_le _,rfl,⟨fun i hi=>by omega⟩,BS,BC,HB⟩
      case round=>
       clear BS BC HB BSc BCc;obtain ⟨m,hm',rfl,HM,BS,BC,HB⟩:=hrel;have BSc:=zc8 BS.out;have BCc:=zc8 BC.out;by_cases hmt:m < s.tasks.length
       ·obtain ⟨b,o,cs,rfl,hcl,hK,hcc,-⟩:=C_field G1.out zTask m hmt (by decide)
        have HPN:=am (HZ.out m hmt);obtain ⟨t,htx⟩:∃ x,x=taskAt s.tasks m:=⟨_,rfl⟩;rw [<-htx] at HPN;rw [show s.tasks.getD m zTask=t from htx.symm] at hK;have HK:=am hK;have TX:=am htx;obtain ⟨B3,d3,B8,d8,B9,d9,B10,d10,rfl,-⟩:=kTask_open hK;have HT:=am hcc;have r0:(0:Int)<=(m:Int):=by omega
        have r1:(m:Int) < (s.tasks.length:Int):=by omega
        clear hcl hK hcc htx
        cases hbh:holds t (k:Int) with
        | true=>
         have HH:=am hbh;clear hbh;by_cases hl:c.lock=(m:Int)
         ·have yl:(c.lock == (m:Int))=true:=by simp [hl]
          have HL:Aside0 (decide (c.lock=(m:Int))=true):=⟨decide_eq_true hl⟩;clear hl;go_wp2;refine st9 (n:=12) (S:=fun W=>W.heap[gs]? = some (.cells #[.slice (some ⟨bc,oc,none⟩) s.cells.length c0,.slice (some ⟨b,o,none⟩) s.tasks.length c1,.int .i64 s.clock,.slice A3 s.log.length c3] 42 (0,0))/\W.heap[gc]? = some (.cells #[.int .i64 c.num,.int .i64 c.time,.int .i64 c.lock] 63 (0,0))/\∀ j u, [.int .i64 t.body,.int .i64 t.pc,.int .i64 t.up,.slice B3 t.regs.length d3,.int .i64 t.way,.int .i64 t.stage,.int .i64 t.at_,.int .i64 t.since,.slice B8 t.old.length d8,.slice B9 t.reads.length d9,.slice B10 t.puts.length d10,.int .i64 t.when_,.int .i64 t.from_][j]? = some u->W.cell? ⟨b,o+m*13+j,none⟩=some u) (ds:= []) (by kernel_rfl) rfl ⟨blk_drew BS.out,blk_drew BC.out,fun j u hu=>(show wr.cell? ⟨b,o+m*13+j,none⟩=_ from cellB HB.out (HT.out j u hu))⟩ (fun hHeld=> ?_);have hb:=below_drew (Below.refl wr.heap.size wr);generalize wr.drew=w7 at hb hHeld ⊢;have HB7:=am (below_step HB.out hb);clear hb HB BS BC BSc BCc;refine ba9 (fuel:=2) (n:=10) [0,1,2,3,4,5,7,8,9,10] (by kernel_rfl) (fun N _ _ _ _ h=>by cases N <;> exact h) hHeld ?_
          iterate 10 (
           refine stillS_step (v:= ?_) (a':= ?_) rfl (Or.inl ⟨by rfl, ?_⟩) ?_ ?_;rotate_left
           ·rintro W ⟨s0,s2,s3⟩
            have t0:=zc8 s0;have t2:=zc8 s2;have u0:=s3 0 _ rfl;have u1:=s3 1 _ rfl;have u2:=s3 2 _ rfl;have u3:=s3 3 _ rfl;have u4:=s3 4 _ rfl;have u5:=s3 5 _ rfl;have u6:=s3 6 _ rfl;have u7:=s3 7 _ rfl;have u8:=s3 8 _ rfl;have u9:=s3 9 _ rfl;have u10:=s3 10 _ rfl;have u11:=s3 11 _ rfl;have u12:=s3 12 _ rfl;rw [Nat.add_zero] at u0;clear s0 s2 s3;go_simp;with_reducible rfl
           rotate_left
           ·simp only [Act.put,sA,sZ,sS,i64_w]
            rfl)
          refine stillS_nil ?_;refine on9 (i:=6) (N:=some 53) rfl rfl (by kernel_rfl) (by decide) (fun K hK=> ?_);refine goes_ Tryz.func120 (by kernel_rfl) rfl #[.agg #[.int .i64 t.body,.int .i64 t.pc,.int .i64 t.up,.slice B3 t.regs.length d3,.int .i64 t.way,.int .i64 t.stage,.int .i64 t.at_,.int .i64 t.since,.slice B8 t.old.length d8,.slice B9 t.reads.length d9,.slice B10 t.puts.length d10,.int .i64 t.when_,.int .i64 t.from_],.int .i64 k] (by rfl) rfl rfl (by (try simp only [List.map_toArray,List.map_cons,List.map_nil]);first | done | rfl) ?_;refine (l12Holds_calls t _ (k:Int) _ (kTask.K_below HB7.out HK.out) HPN.out).mono ?_;rw [HH.out];rintro e wn ⟨rfl,hb⟩;refine ⟨_,rfl, ?_⟩;refine hK.out _ _ ⟨zb8 hHeld.1 hb,zb8 hHeld.2.1 hb,fun j u hu=>cellB hb (hHeld.2.2 j u hu)⟩ (fun hHeld=> ?_);clear hK K;refine norm_ (a':= ?_) ?_ ?_;rotate_left
          ·show Act.put _ (some 53) _=_
           simp only [Act.put,sA,sZ,sS,i64_w];rfl
          have HB:=am (below_step HB7.out hb);refine ba9 (fuel:=0) (n:=1) [11] (by kernel_rfl) (fun N _ _ _ _ h=>by cases N <;> exact h) hHeld ?_
          iterate 1 (
           refine stillS_step (v:= ?_) (a':= ?_) rfl (Or.inl ⟨by rfl, ?_⟩) ?_ ?_;rotate_left
           ·intro W hW
            go_simp
            with_reducible rfl
           rotate_left
           ·simp only [Act.put,sA,sZ,sS,i64_w]
            rfl)
          refine stillS_nil ?_;have BS:=am hHeld.1;have BC:=am hHeld.2.1;clear hHeld HB7 hb;have BSc:=zc8 BS.out;have BCc:=zc8 BC.out;refine done_ (by kernel_rfl) ?_;go_wp2;go_roundw
          case rel=>exact ⟨m+1,by omega,by go_num,⟨fun i hi=>by rcases Nat.lt_or_ge i m with h | h;exact HM.out i h;obtain rfl:i=m:=(by omega);rw [<-TX.out,HH.out,HL.out];rfl⟩,BS,BC,HB⟩
          case measure=>simp [intOf];omega
         ·have yl:(c.lock == (m:Int))=false:=by simp [hl]
          have HL:Aside0 (decide (c.lock=(m:Int))=false):=⟨decide_eq_false hl⟩;clear hl;go_wp2;refine st9 (n:=12) (S:=fun W=>W.heap[gs]? = some (.cells #[.slice (some ⟨bc,oc,none⟩) s.cells.length c0,.slice (some ⟨b,o,none⟩) s.tasks.length c1,.int .i64 s.clock,.slice A3 s.log.length c3] 42 (0,0))/\W.heap[gc]? = some (.cells #[.int .i64 c.num,.int .i64 c.time,.int .i64 c.lock] 63 (0,0))/\∀ j u, [.int .i64 t.body,.int .i64 t.pc,.int .i64 t.up,.slice B3 t.regs.length d3,.int .i64 t.way,.int .i64 t.stage,.int .i64 t.at_,.int .i64 t.since,.slice B8 t.old.length d8,.slice B9 t.reads.length d9,.slice B10 t.puts.length d10,.int .i64 t.when_,.int .i64 t.from_][j]? = some u->W.cell? ⟨b,o+m*13+j,none⟩=some u) (ds:= []) (by kernel_rfl) rfl ⟨blk_drew BS.out,blk_drew BC.out,fun j u hu=>(show wr.cell? ⟨b,o+m*13+j,none⟩=_ from cellB HB.out (HT.out j u hu))⟩ (fun hHeld=> ?_);have hb:=below_drew (Below.refl wr.heap.size wr);generalize wr.drew=w7 at hb hHeld ⊢;have HB7:=am (below_step HB.out hb);clear hb HB BS BC BSc BCc;refine ba9 (fuel:=2) (n:=10) [0,1,2,3,4,5,7,8,9,10] (by kernel_rfl) (fun N _ _ _ _ h=>by cases N <;> exact h) hHeld ?_
          iterate 10 (
           refine stillS_step (v:= ?_) (a':= ?_) rfl (Or.inl ⟨by rfl, ?_⟩) ?_ ?_;rotate_left
           ·rintro W ⟨s0,s2,s3⟩
            have t0:=zc8 s0;have t2:=zc8 s2;have u0:=s3 0 _ rfl;have u1:=s3 1 _ rfl;have u2:=s3 2 _ rfl;have u3:=s3 3 _ rfl;have u4:=s3 4 _ rfl;have u5:=s3 5 _ rfl;have u6:=s3 6 _ rfl;have u7:=s3 7 _ rfl;have u8:=s3 8 _ rfl;have u9:=s3 9 _ rfl;have u10:=s3 10 _ rfl;have u11:=s3 11 _ rfl;have u12:=s3 12 _ rfl;rw [Nat.add_zero] at u0;clear s0 s2 s3;go_simp;with_reducible rfl
           rotate_left
           ·simp only [Act.put,sA,sZ,sS,i64_w]
            rfl)
          refine stillS_nil ?_;refine on9 (i:=6) (N:=some 53) rfl rfl (by kernel_rfl) (by decide) (fun K hK=> ?_);refine goes_ Tryz.func120 (by kernel_rfl) rfl #[.agg #[.int .i64 t.body,.int .i64 t.pc,.int .i64 t.up,.slice B3 t.regs.length d3,.int .i64 t.way,.int .i64 t.stage,.int .i64 t.at_,.int .i64 t.since,.slice B8 t.old.length d8,.slice B9 t.reads.length d9,.slice B10 t.puts.length d10,.int .i64 t.when_,.int .i64 t.from_],.int .i64 k] (by rfl) rfl rfl (by (try simp only [List.map_toArray,List.map_cons,List.map_nil]);first | done | rfl) ?_;refine (l12Holds_calls t _ (k:Int) _ (kTask.K_below HB7.out HK.out) HPN.out).mono ?_;rw [HH.out];rintro e wn ⟨rfl,hb⟩;refine ⟨_,rfl, ?_⟩;refine hK.out _ _ ⟨zb8 hHeld.1 hb,zb8 hHeld.2.1 hb,fun j u hu=>cellB hb (hHeld.2.2 j u hu)⟩ (fun hHeld=> ?_);clear hK K;refine norm_ (a':= ?_) ?_ ?_;rotate_left
          ·show Act.put _ (some 53) _=_
           simp only [Act.put,sA,sZ,sS,i64_w];rfl
          have HB:=am (below_step HB7.out hb);refine ba9 (fuel:=0) (n:=1) [11] (by kernel_rfl) (fun N _ _ _ _ h=>by cases N <;> exact h) hHeld ?_
          iterate 1 (
           refine stillS_step (v:= ?_) (a':= ?_) rfl (Or.inl ⟨by rfl, ?_⟩) ?_ ?_;rotate_left
           ·intro W hW
            go_simp
            with_reducible rfl
           rotate_left
           ·simp only [Act.put,sA,sZ,sS,i64_w]
            rfl)
          refine stillS_nil ?_;have BS:=am hHeld.1;have BC:=am hHeld.2.1;clear hHeld HB7 hb;have BSc:=zc8 BS.out;have BCc:=zc8 BC.out;refine done_ (by kernel_rfl) ?_;go_wp2;go_ret
          have hr:cellsOk s=false:=by
           unfold cellsOk;exact allB_no hlt (by rw [<-CX.out];simp only [];rw [allB_no hmt (by rw [<-TX.out,HH.out,HL.out];rfl),Bool.and_false])
          rw [hr]
          exact ⟨rfl,HB.out⟩
        | false=>
         have HH:=am hbh;clear hbh;by_cases hl:c.lock=(m:Int)
         ·have yl:(c.lock == (m:Int))=true:=by simp [hl]
          have HL:Aside0 (decide (c.lock=(m:Int))=true):=⟨decide_eq_true hl⟩;clear hl;go_wp2;refine st9 (n:=12) (S:=fun W=>W.heap[gs]? = some (.cells #[.slice (some ⟨bc,oc,none⟩) s.cells.length c0,.slice (some ⟨b,o,none⟩) s.tasks.length c1,.int .i64 s.clock,.slice A3 s.log.length c3] 42 (0,0))/\W.heap[gc]? = some (.cells #[.int .i64 c.num,.int .i64 c.time,.int .i64 c.lock] 63 (0,0))/\∀ j u, [.int .i64 t.body,.int .i64 t.pc,.int .i64 t.up,.slice B3 t.regs.length d3,.int .i64 t.way,.int .i64 t.stage,.int .i64 t.at_,.int .i64 t.since,.slice B8 t.old.length d8,.slice B9 t.reads.length d9,.slice B10 t.puts.length d10,.int .i64 t.when_,.int .i64 t.from_][j]? = some u->W.cell? ⟨b,o+m*13+j,none⟩=some u) (ds:= []) (by kernel_rfl) rfl ⟨blk_drew BS.out,blk_drew BC.out,fun j u hu=>(show wr.cell? ⟨b,o+m*13+j,none⟩=_ from cellB HB.out (HT.out j u hu))⟩ (fun hHeld=> ?_);have hb:=below_drew (Below.refl wr.heap.size wr);generalize wr.drew=w7 at hb hHeld ⊢;have HB7:=am (below_step HB.out hb);clear hb HB BS BC BSc BCc;refine ba9 (fuel:=2) (n:=10) [0,1,2,3,4,5,7,8,9,10] (by kernel_rfl) (fun N _ _ _ _ h=>by cases N <;> exact h) hHeld ?_
          iterate 10 (
           refine stillS_step (v:= ?_) (a':= ?_) rfl (Or.inl ⟨by rfl, ?_⟩) ?_ ?_;rotate_left
           ·rintro W ⟨s0,s2,s3⟩
            have t0:=zc8 s0;have t2:=zc8 s2;have u0:=s3 0 _ rfl;have u1:=s3 1 _ rfl;have u2:=s3 2 _ rfl;have u3:=s3 3 _ rfl;have u4:=s3 4 _ rfl;have u5:=s3 5 _ rfl;have u6:=s3 6 _ rfl;have u7:=s3 7 _ rfl;have u8:=s3 8 _ rfl;have u9:=s3 9 _ rfl;have u10:=s3 10 _ rfl;have u11:=s3 11 _ rfl;have u12:=s3 12 _ rfl;rw [Nat.add_zero] at u0;clear s0 s2 s3;go_simp;with_reducible rfl
           rotate_left
           ·simp only [Act.put,sA,sZ,sS,i64_w]
            rfl)
          refine stillS_nil ?_;refine on9 (i:=6) (N:=some 53) rfl rfl (by kernel_rfl) (by decide) (fun K hK=> ?_);refine goes_ Tryz.func120 (by kernel_rfl) rfl #[.agg #[.int .i64 t.body,.int .i64 t.pc,.int .i64 t.up,.slice B3 t.regs.length d3,.int .i64 t.way,.int .i64 t.stage,.int .i64 t.at_,.int .i64 t.since,.slice B8 t.old.length d8,.slice B9 t.reads.length d9,.slice B10 t.puts.length d10,.int .i64 t.when_,.int .i64 t.from_],.int .i64 k] (by rfl) rfl rfl (by (try simp only [List.map_toArray,List.map_cons,List.map_nil]);first | done | rfl) ?_;refine (l12Holds_calls t _ (k:Int) _ (kTask.K_below HB7.out HK.out) HPN.out).mono ?_;rw [HH.out];rintro e wn ⟨rfl,hb⟩;refine ⟨_,rfl, ?_⟩;refine hK.out _ _ ⟨zb8 hHeld.1 hb,zb8 hHeld.2.1 hb,fun j u hu=>cellB hb (hHeld.2.2 j u hu)⟩ (fun hHeld=> ?_);clear hK K;refine norm_ (a':= ?_) ?_ ?_;rotate_left
          ·show Act.put _ (some 53) _=_
           simp only [Act.put,sA,sZ,sS,i64_w];rfl
          have HB:=am (below_step HB7.out hb);refine ba9 (fuel:=0) (n:=1) [11] (by kernel_rfl) (fun N _ _ _ _ h=>by cases N <;> exact h) hHeld ?_
          iterate 1 (
           refine stillS_step (v:= ?_) (a':= ?_) rfl (Or.inl ⟨by rfl, ?_⟩) ?_ ?_;rotate_left
           ·intro W hW
            go_simp
            with_reducible rfl
           rotate_left
           ·simp only [Act.put,sA,sZ,sS,i64_w]
            rfl)
          refine stillS_nil ?_;have BS:=am hHeld.1;have BC:=am hHeld.2.1;clear hHeld HB7 hb;have BSc:=zc8 BS.out;have BCc:=zc8 BC.out;refine done_ (by kernel_rfl) ?_;go_wp2;go_ret
          have hr:cellsOk s=false:=by
           unfold cellsOk;exact allB_no hlt (by rw [<-CX.out];simp only [];rw [allB_no hmt (by rw [<-TX.out,HH.out,HL.out];rfl),Bool.and_false])
          rw [hr];exact ⟨rfl,HB.out⟩
         ·have yl:(c.lock == (m:Int))=false:=by simp [hl]
          have HL:Aside0 (decide (c.lock=(m:Int))=false):=⟨decide_eq_false hl⟩;clear hl;go_wp2;refine st9 (n:=12) (S:=fun W=>W.heap[gs]? = some (.cells #[.slice (some ⟨bc,oc,none⟩) s.cells.length c0,.slice (some ⟨b,o,none⟩) s.tasks.length c1,.int .i64 s.clock,.slice A3 s.log.length c3] 42 (0,0))/\W.heap[gc]? = some (.cells #[.int .i64 c.num,.int .i64 c.time,.int .i64 c.lock] 63 (0,0))/\∀ j u, [.int .i64 t.body,.int .i64 t.pc,.int .i64 t.up,.slice B3 t.regs.length d3,.int .i64 t.way,.int .i64 t.stage,.int .i64 t.at_,.int .i64 t.since,.slice B8 t.old.length d8,.slice B9 t.reads.length d9,.slice B10 t.puts.length d10,.int .i64 t.when_,.int .i64 t.from_][j]? = some u->W.cell? ⟨b,o+m*13+j,none⟩=some u) (ds:= []) (by kernel_rfl) rfl ⟨blk_drew BS.out,blk_drew BC.out,fun j u hu=>(show wr.cell? ⟨b,o+m*13+j,none⟩=_ from cellB HB.out (HT.out j u hu))⟩ (fun hHeld=> ?_);have hb:=below_drew (Below.refl wr.heap.size wr);generalize wr.drew=w7 at hb hHeld ⊢;have HB7:=am (below_step HB.out hb);clear hb HB BS BC BSc BCc;refine ba9 (fuel:=2) (n:=10) [0,1,2,3,4,5,7,8,9,10] (by kernel_rfl) (fun N _ _ _ _ h=>by cases N <;> exact h) hHeld ?_
          iterate 10 (
           refine stillS_step (v:= ?_) (a':= ?_) rfl (Or.inl ⟨by rfl, ?_⟩) ?_ ?_;rotate_left
           ·rintro W ⟨s0,s2,s3⟩
            have t0:=zc8 s0;have t2:=zc8 s2;have u0:=s3 0 _ rfl;have u1:=s3 1 _ rfl;have u2:=s3 2 _ rfl;have u3:=s3 3 _ rfl;have u4:=s3 4 _ rfl;have u5:=s3 5 _ rfl;have u6:=s3 6 _ rfl;have u7:=s3 7 _ rfl;have u8:=s3 8 _ rfl;have u9:=s3 9 _ rfl;have u10:=s3 10 _ rfl;have u11:=s3 11 _ rfl;have u12:=s3 12 _ rfl;rw [Nat.add_zero] at u0;clear s0 s2 s3;go_simp;with_reducible rfl
           rotate_left
           ·simp only [Act.put,sA,sZ,sS,i64_w]
            rfl)
          refine stillS_nil ?_;refine on9 (i:=6) (N:=some 53) rfl rfl (by kernel_rfl) (by decide) (fun K hK=> ?_);refine goes_ Tryz.func120 (by kernel_rfl) rfl #[.agg #[.int .i64 t.body,.int .i64 t.pc,.int .i64 t.up,.slice B3 t.regs.length d3,.int .i64 t.way,.int .i64 t.stage,.int .i64 t.at_,.int .i64 t.since,.slice B8 t.old.length d8,.slice B9 t.reads.length d9,.slice B10 t.puts.length d10,.int .i64 t.when_,.int .i64 t.from_],.int .i64 k] (by rfl) rfl rfl (by (try simp only [List.map_toArray,List.map_cons,List.map_nil]);first | done | rfl) ?_;refine (l12Holds_calls t _ (k:Int) _ (kTask.K_below HB7.out HK.out) HPN.out).mono ?_;rw [HH.out];rintro e wn ⟨rfl,hb⟩;refine ⟨_,rfl, ?_⟩;refine hK.out _ _ ⟨zb8 hHeld.1 hb,zb8 hHeld.2.1 hb,fun j u hu=>cellB hb (hHeld.2.2 j u hu)⟩ (fun hHeld=> ?_);clear hK K;refine norm_ (a':= ?_) ?_ ?_;rotate_left
          ·show Act.put _ (some 53) _=_
           simp only [Act.put,sA,sZ,sS,i64_w];rfl
          have HB:=am (below_step HB7.out hb);refine ba9 (fuel:=0) (n:=1) [11] (by kernel_rfl) (fun N _ _ _ _ h=>by cases N <;> exact h) hHeld ?_
          iterate 1 (
           refine stillS_step (v:= ?_) (a':= ?_) rfl (Or.inl ⟨by rfl, ?_⟩) ?_ ?_;rotate_left
           ·intro W hW
            go_simp
            with_reducible rfl
           rotate_left
           ·simp only [Act.put,sA,sZ,sS,i64_w]
            rfl)
          refine stillS_nil ?_;have BS:=am hHeld.1;have BC:=am hHeld.2.1;clear hHeld HB7 hb;have BSc:=zc8 BS.out;have BCc:=zc8 BC.out;refine done_ (by kernel_rfl) ?_;go_wp2;go_roundw
          case rel=>exact ⟨m+1,by omega,by go_num,⟨fun i hi=>by rcases Nat.lt_or_ge i m with h | h;exact HM.out i h;obtain rfl:i=m:=(by omega);rw [<-TX.out,HH.out,HL.out];rfl⟩,BS,BC,HB⟩
          case measure=>simp [intOf];omega
       ·obtain rfl:m=s.tasks.length:=by omega
        go_wp2;go_roundw
        case rel=>exact ⟨k+1,by omega,by go_num,⟨fun i hi=>by rcases Nat.lt_or_ge i k with h | h;exact HJ.out i h;obtain rfl:i=k:=(by omega);rw [<-CX.out,show inB c.num 0 99=true from H1.out,show inB c.time 0 s.clock=true from H2.out,show inB c.lock (-1) ((s.tasks.length:Int) - 1)=true from H3.out,allB_iff.2 HM.out];rfl⟩,BS,HB⟩
        case measure=>simp [intOf];omega
  ·obtain rfl:k=s.cells.length:=by omega
   go_wp2;go_ret
   have hr:cellsOk s=true:=by
    unfold cellsOk;exact allB_iff.2 HJ.out
   rw [hr];exact ⟨rfl,HB.out⟩
theorem l12Log_calls (p:Prog) (ps:List Value) (s:Sys) (ss:List Value) (w:World) (hp:kProg.K w p ps) (hs:kSys.K w s ss) (hz:ProgSz p) (hm:s.cells.length<=1048576) (hn:s.tasks.length<=1048576) (hl:s.log.length<=1048576) (hsz:∀ i,i < s.log.length->(entryAt s.log i).reads.length<=1048576/\(entryAt s.log i).puts.length<=1048576) (hbd:∀ i,i < s.tasks.length->0<=(taskAt s.tasks i).body/\(taskAt s.tasks i).body < p.bodies.length):
  Calls Tryz.prog 79 #[.agg ps.toArray,.agg ss.toArray] w fun e w'=>e= .returned (.bool (logOk p s))/\Below w.heap.size w w':=by
 obtain ⟨Ac,cc,Ab,cb,rfl,-,-,-,gb⟩:=kProg_open hp;obtain ⟨A0,c0,A1,c1,A3,c3,rfl,-,-,-,g1,-,g3⟩:=kSys_open hs;have GB:=am gb;have G1:=am g1;have G3:=am g3;have HZ:=am hsz;have HBD:=am hbd;have HSZ:Aside0 (∀ k,k < p.bodies.length->(actsAt p.bodies k).length<=1048576):=⟨fun k hk=>by rw [actsAt_eq hk];exact (hz.acts _ (List.getElem_mem hk)).1⟩;have hpb:=hz.bodies;clear hp hs gb g1 g3 hsz hbd hz;go_enter Tryz.func79,Tryz.ntmps79
 go_wp2_with (first
 |((with_reducible refine gate_dst (N:=2) rfl ?_);refine box_event rfl (N:=2) rfl (t:=36) (by go_simp<;>rfl) ?_;intro gp hg w2 hbox hb;have BP:=am hbox;clear hbox hg;have HB2:=am hb;clear hb;have HB:=HB2;clear HB2;have BPc:=zc8 BP.out)
 |((with_reducible refine gate_dst (N:=3) rfl ?_);refine box_event rfl (N:=3) rfl (t:=42) (by go_simp<;>rfl) ?_;intro gs hg w3 hbox hb;have BS:=am hbox;clear hbox hg;replace BP:=am (zb8 BP.out hb);replace HB:=am (below_step HB.out hb);clear hb BPc;have BPc:=zc8 BP.out;have BSc:=zc8 BS.out))
 go_loopw [5] (fun j w'=>∃ k:Nat,k<=s.log.length/\j= .int .i64 k/\Aside0 (∀ i,i < k->(inB (entryAt s.log i).task 0 (s.tasks.length - 1) && inB (entryAt s.log i).when_ 0 s.clock && inB (entryAt s.log i).from_ 0 i && listOk (entryAt s.log i).reads s.cells.length && listOk (entryAt s.log i).puts s.cells.length && inB (entryAt s.log i).act 0 ((actsAt p.bodies (taskAt s.tasks (entryAt s.log i).task.toNat).body.toNat).length - 1))=true)/\Aside0 (w'.heap[gp]? = some (.cells #[.slice Ac p.cells.length cc,.slice Ab p.bodies.length cb] 36 (0,0)))/\Aside0 (w'.heap[gs]? = some (.cells #[.slice A0 s.cells.length c0,.slice A1 s.tasks.length c1,.int .i64 s.clock,.slice A3 s.log.length c3] 42 (0,0)))/\Aside0 (Below w.heap.size w w')) (fun j _=>s.log.length - (intOf j).toNat)
 case atStart=>exact ⟨0,Nat.zero_le _,rfl,⟨fun i hi=>by omega⟩,BP,BS,HB⟩
 case round=>
  clear BP BS HB BPc BSc;obtain ⟨k,hk,rfl,HJ,BP,BS,HB⟩:=hrel;have BPc:=zc8 BP.out;have BSc:=zc8 BS.out;by_cases hlt:k < s.log.length
  ·obtain ⟨be,oe,cs,rfl,hcl,hK,hcc,-⟩:=C_field G3.out zEntry k hlt (by decide)
   obtain ⟨e,hex⟩:∃ x,x=entryAt s.log k:=⟨_,rfl⟩;have hz2:=HZ.out k hlt;rw [<-hex] at hz2;rw [show s.log.getD k zEntry=e from hex.symm] at hK;obtain ⟨E3,f3,E4,f4,rfl,-,g3,-,g4⟩:=kEntry_open hK;have R3:=am g3;have R4:=am g4;have HZ1:=am hz2.1;have HZ2:=am hz2.2;have HC:=am hcc;have EX:=am hex;have q0:(0:Int)<=(k:Int):=by omega
   have q1:(k:Int) < (s.log.length:Int):=by omega
   clear hcl hK hcc hex g3 g4 hz2;obtain ⟨bH1,hbH1⟩:∃ b,inB e.task 0 ((s.tasks.length:Int) - 1)=b:=⟨_,rfl⟩;have H1:Aside0 ((decide ((0:Int)<=e.task) && decide (e.task<=((s.tasks.length:Int) - 1)))=bH1):=⟨hbH1⟩;clear hbH1;obtain ⟨bH2,hbH2⟩:∃ b,inB e.when_ 0 s.clock=b:=⟨_,rfl⟩;have H2:Aside0 ((decide ((0:Int)<=e.when_) && decide (e.when_<=s.clock))=bH2):=⟨hbH2⟩;clear hbH2;obtain ⟨bH3,hbH3⟩:∃ b,inB e.from_ 0 (k:Int)=b:=⟨_,rfl⟩;have H3:Aside0 ((decide ((0:Int)<=e.from_) && decide (e.from_<=(k:Int)))=bH3):=⟨hbH3⟩;clear hbH3;obtain ⟨bH4,hbH4⟩:∃ b,listOk e.reads s.cells.length=b:=⟨_,rfl⟩;have H4:=am hbH4;clear hbH4;obtain ⟨bH5,hbH5⟩:∃ b,listOk e.puts s.cells.length=b:=⟨_,rfl⟩;have H5:=am hbH5;clear hbH5
   cases bH1 with
   | false=>
    go_wp2_with (first
    |((with_reducible refine gate_dst (N:=18) rfl ?_);refine wpList_load_mid rfl 136 (.tmp 17) rfl be (oe+k*6) rfl _ _ (fun j u hu=>cellB HB.out (HC.out j u hu)) Tryz.underlying136 rfl (by kernel_rfl) ?_)|((with_reducible refine gate_dst (N:=6) rfl ?_);refine box_event rfl (N:=6) rfl (t:=136) (by go_simp<;>rfl) ?_;intro ge hg wt hbox hb;have BE0:=am hbox;have GBE:=am hg;have HBT:=am hb;clear hbox hb hg)|((with_reducible refine gate_store (t:=136) (p:=6) rfl ?_);refine store_block rfl rfl 136 (.tmp 6) (.tmp 18) rfl rfl rfl BE0.out rfl (by kernel_rfl) (aB rfl) ?_;intro wn hbox hg;have BE:=am hbox;have hbx:=pw_below_grown HBT.out _ HBT.out.size hg (fun z hz=>by cases hz;exact Nat.le_of_eq GBE.out.symm);clear BE0 HBT hbox hg;replace BP:=am (zb8 BP.out hbx);replace BS:=am (zb8 BS.out hbx);replace HB:=am (below_step HB.out hbx);clear hbx BPc BSc;have BPc:=zc8 BP.out;have BSc:=zc8 BS.out;have BEc:=zc8 BE.out)
    |(go_at_call 76;refine (l6In_calls _ _ _ _).mono ?_;(first|rw [H1.out]);rintro e w9 ⟨rfl,rfl⟩))
    go_ret
    have hr:logOk p s=false:=by
     unfold logOk;exact allB_no hlt (by rw [<-EX.out];simp only [];rw [show inB e.task 0 ((s.tasks.length:Int) - 1)=false from H1.out];simp only [Bool.true_and,Bool.false_and,Bool.and_false])
    rw [hr]
    exact ⟨rfl,HB.out⟩
   | true=>
    cases bH2 with
    | false=>
     go_wp2_with (first
     |((with_reducible refine gate_dst (N:=18) rfl ?_);refine wpList_load_mid rfl 136 (.tmp 17) rfl be (oe+k*6) rfl _ _ (fun j u hu=>cellB HB.out (HC.out j u hu)) Tryz.underlying136 rfl (by kernel_rfl) ?_)|((with_reducible refine gate_dst (N:=6) rfl ?_);refine box_event rfl (N:=6) rfl (t:=136) (by go_simp<;>rfl) ?_;intro ge hg wt hbox hb;have BE0:=am hbox;have GBE:=am hg;have HBT:=am hb;clear hbox hb hg)|((with_reducible refine gate_store (t:=136) (p:=6) rfl ?_);refine store_block rfl rfl 136 (.tmp 6) (.tmp 18) rfl rfl rfl BE0.out rfl (by kernel_rfl) (aB rfl) ?_;intro wn hbox hg;have BE:=am hbox;have hbx:=pw_below_grown HBT.out _ HBT.out.size hg (fun z hz=>by cases hz;exact Nat.le_of_eq GBE.out.symm);clear BE0 HBT hbox hg;replace BP:=am (zb8 BP.out hbx);replace BS:=am (zb8 BS.out hbx);replace HB:=am (below_step HB.out hbx);clear hbx BPc BSc;have BPc:=zc8 BP.out;have BSc:=zc8 BS.out;have BEc:=zc8 BE.out)
     |(go_at_call 76;refine (l6In_calls _ _ _ _).mono ?_;(first|rw [H1.out] | rw [H2.out]);rintro e w9 ⟨rfl,rfl⟩))
     go_ret
     have hr:logOk p s=false:=by
      unfold logOk;exact allB_no hlt (by rw [<-EX.out];simp only [];rw [show inB e.task 0 ((s.tasks.length:Int) - 1)=true from H1.out,show inB e.when_ 0 s.clock=false from H2.out];simp only [Bool.true_and,Bool.false_and,Bool.and_false])
     rw [hr]
     exact ⟨rfl,HB.out⟩
    | true=>
     cases bH3 with
     | false=>
      go_wp2_with (first
      |((with_reducible refine gate_dst (N:=18) rfl ?_);refine wpList_load_mid rfl 136 (.tmp 17) rfl be (oe+k*6) rfl _ _ (fun j u hu=>cellB HB.out (HC.out j u hu)) Tryz.underlying136 rfl (by kernel_rfl) ?_)|((with_reducible refine gate_dst (N:=6) rfl ?_);refine box_event rfl (N:=6) rfl (t:=136) (by go_simp<;>rfl) ?_;intro ge hg wt hbox hb;have BE0:=am hbox;have GBE:=am hg;have HBT:=am hb;clear hbox hb hg)|((with_reducible refine gate_store (t:=136) (p:=6) rfl ?_);refine store_block rfl rfl 136 (.tmp 6) (.tmp 18) rfl rfl rfl BE0.out rfl (by kernel_rfl) (aB rfl) ?_;intro wn hbox hg;have BE:=am hbox;have hbx:=pw_below_grown HBT.out _ HBT.out.size hg (fun z hz=>by cases hz;exact Nat.le_of_eq GBE.out.symm);clear BE0 HBT hbox hg;replace BP:=am (zb8 BP.out hbx);replace BS:=am (zb8 BS.out hbx);replace HB:=am (below_step HB.out hbx);clear hbx BPc BSc;have BPc:=zc8 BP.out;have BSc:=zc8 BS.out;have BEc:=zc8 BE.out)
      |(go_at_call 76;refine (l6In_calls _ _ _ _).mono ?_;(first|rw [H1.out] | rw [H2.out] | rw [H3.out]);rintro e w9 ⟨rfl,rfl⟩))
      go_ret
      have hr:logOk p s=false:=by
       unfold logOk;exact allB_no hlt (by rw [<-EX.out];simp only [];rw [show inB e.task 0 ((s.tasks.length:Int) - 1)=true from H1.out,show inB e.when_ 0 s.clock=true from H2.out,show inB e.from_ 0 (k:Int)=false from H3.out];simp only [Bool.true_and,Bool.false_and,Bool.and_false])
      rw [hr]
      exact ⟨rfl,HB.out⟩
     | true=>
      cases bH4 with
      | false=>
       go_wp2_with (first
       |((with_reducible refine gate_dst (N:=18) rfl ?_);refine wpList_load_mid rfl 136 (.tmp 17) rfl be (oe+k*6) rfl _ _ (fun j u hu=>cellB HB.out (HC.out j u hu)) Tryz.underlying136 rfl (by kernel_rfl) ?_)|((with_reducible refine gate_dst (N:=6) rfl ?_);refine box_event rfl (N:=6) rfl (t:=136) (by go_simp<;>rfl) ?_;intro ge hg wt hbox hb;have BE0:=am hbox;have GBE:=am hg;have HBT:=am hb;clear hbox hb hg)|((with_reducible refine gate_store (t:=136) (p:=6) rfl ?_);refine store_block rfl rfl 136 (.tmp 6) (.tmp 18) rfl rfl rfl BE0.out rfl (by kernel_rfl) (aB rfl) ?_;intro wn hbox hg;have BE:=am hbox;have hbx:=pw_below_grown HBT.out _ HBT.out.size hg (fun z hz=>by cases hz;exact Nat.le_of_eq GBE.out.symm);clear BE0 HBT hbox hg;replace BP:=am (zb8 BP.out hbx);replace BS:=am (zb8 BS.out hbx);replace HB:=am (below_step HB.out hbx);clear hbx BPc BSc;have BPc:=zc8 BP.out;have BSc:=zc8 BS.out;have BEc:=zc8 BE.out)
       |(go_at_call 76;refine (l6In_calls _ _ _ _).mono ?_;(first|rw [H1.out] | rw [H2.out] | rw [H3.out]);rintro e w9 ⟨rfl,rfl⟩)
       |(go_at_call 116;refine (l12List_calls _ _ _ _ _ (by first|exact Kd.C_below R3.out HB.out | exact Kd.C_below R4.out HB.out) (by first|exact HZ1.out | exact HZ2.out) (by omega) (by omega)).mono ?_;(first|rw [H4.out]);rintro e w9 ⟨rfl,hb⟩;replace BP:=am (zb8 BP.out hb);replace BS:=am (zb8 BS.out hb);replace BE:=am (zb8 BE.out hb);replace HB:=am (below_step HB.out hb);clear hb BPc BSc BEc;have BPc:=zc8 BP.out;have BSc:=zc8 BS.out;have BEc:=zc8 BE.out))
       go_ret
       have hr:logOk p s=false:=by
        unfold logOk;exact allB_no hlt (by rw [<-EX.out];simp only [];rw [show inB e.task 0 ((s.tasks.length:Int) - 1)=true from H1.out,show inB e.when_ 0 s.clock=true from H2.out,show inB e.from_ 0 (k:Int)=true from H3.out,show listOk e.reads s.cells.length=false from H4.out];simp only [Bool.true_and,Bool.false_and,Bool.and_false])
       rw [hr]
       exact ⟨rfl,HB.out⟩
      | true=>
       cases bH5 with
       | false=>
        go_wp2_with (first
        |((with_reducible refine gate_dst (N:=18) rfl ?_);refine wpList_load_mid rfl 136 (.tmp 17) rfl be (oe+k*6) rfl _ _ (fun j u hu=>cellB HB.out (HC.out j u hu)) Tryz.underlying136 rfl (by kernel_rfl) ?_)|((with_reducible refine gate_dst (N:=6) rfl ?_);refine box_event rfl (N:=6) rfl (t:=136) (by go_simp<;>rfl) ?_;intro ge hg wt hbox hb;have BE0:=am hbox;have GBE:=am hg;have HBT:=am hb;clear hbox hb hg)|((with_reducible refine gate_store (t:=136) (p:=6) rfl ?_);refine store_block rfl rfl 136 (.tmp 6) (.tmp 18) rfl rfl rfl BE0.out rfl (by kernel_rfl) (aB rfl) ?_;intro wn hbox hg;have BE:=am hbox;have hbx:=pw_below_grown HBT.out _ HBT.out.size hg (fun z hz=>by cases hz;exact Nat.le_of_eq GBE.out.symm);clear BE0 HBT hbox hg;replace BP:=am (zb8 BP.out hbx);replace BS:=am (zb8 BS.out hbx);replace HB:=am (below_step HB.out hbx);clear hbx BPc BSc;have BPc:=zc8 BP.out;have BSc:=zc8 BS.out;have BEc:=zc8 BE.out)
        |(go_at_call 76;refine (l6In_calls _ _ _ _).mono ?_;(first|rw [H1.out] | rw [H2.out] | rw [H3.out]);rintro e w9 ⟨rfl,rfl⟩)
        |(go_at_call 116;refine (l12List_calls _ _ _ _ _ (by first|exact Kd.C_below R3.out HB.out | exact Kd.C_below R4.out HB.out) (by first|exact HZ1.out | exact HZ2.out) (by omega) (by omega)).mono ?_;(first|rw [H4.out] | rw [H5.out]);rintro e w9 ⟨rfl,hb⟩;replace BP:=am (zb8 BP.out hb);replace BS:=am (zb8 BS.out hb);replace BE:=am (zb8 BE.out hb);replace HB:=am (below_step HB.out hb);clear hb BPc BSc BEc;have BPc:=zc8 BP.out;have BSc:=zc8 BS.out;have BEc:=zc8 BE.out))
        go_ret
        have hr:logOk p s=false:=by
         unfold logOk;exact allB_no hlt (by rw [<-EX.out];simp only [];rw [show inB e.task 0 ((s.tasks.length:Int) - 1)=true from H1.out,show inB e.when_ 0 s.clock=true from H2.out,show inB e.from_ 0 (k:Int)=true from H3.out,show listOk e.reads s.cells.length=true from H4.out,show listOk e.puts s.cells.length=false from H5.out];simp only [Bool.true_and,Bool.false_and,Bool.and_false])
        rw [hr]
        exact ⟨rfl,HB.out⟩
       | true=>
        go_wp2_with (first
        |((with_reducible refine gate_dst (N:=18) rfl ?_);refine wpList_load_mid rfl 136 (.tmp 17) rfl be (oe+k*6) rfl _ _ (fun j u hu=>cellB HB.out (HC.out j u hu)) Tryz.underlying136 rfl (by kernel_rfl) ?_)|((with_reducible refine gate_dst (N:=6) rfl ?_);refine box_event rfl (N:=6) rfl (t:=136) (by go_simp<;>rfl) ?_;intro ge hg wt hbox hb;have BE0:=am hbox;have GBE:=am hg;have HBT:=am hb;clear hbox hb hg)|((with_reducible refine gate_store (t:=136) (p:=6) rfl ?_);refine store_block rfl rfl 136 (.tmp 6) (.tmp 18) rfl rfl rfl BE0.out rfl (by kernel_rfl) (aB rfl) ?_;intro wn hbox hg;have BE:=am hbox;have hbx:=pw_below_grown HBT.out _ HBT.out.size hg (fun z hz=>by cases hz;exact Nat.le_of_eq GBE.out.symm);clear BE0 HBT hbox hg;replace BP:=am (zb8 BP.out hbx);replace BS:=am (zb8 BS.out hbx);replace HB:=am (below_step HB.out hbx);clear hbx BPc BSc;have BPc:=zc8 BP.out;have BSc:=zc8 BS.out;have BEc:=zc8 BE.out)
        |(go_at_call 76;refine (l6In_calls _ _ _ _).mono ?_;(first|rw [H1.out] | rw [H2.out] | rw [H3.out]);rintro e w9 ⟨rfl,rfl⟩)
        |(go_at_call 116;refine (l12List_calls _ _ _ _ _ (by first|exact Kd.C_below R3.out HB.out | exact Kd.C_below R4.out HB.out) (by first|exact HZ1.out | exact HZ2.out) (by omega) (by omega)).mono ?_;(first|rw [H4.out] | rw [H5.out]);rintro e w9 ⟨rfl,hb⟩;replace BP:=am (zb8 BP.out hb);replace BS:=am (zb8 BS.out hb);replace BE:=am (zb8 BE.out hb);replace HB:=am (below_step HB.out hb);clear hb BPc BSc BEc;have BPc:=zc8 BP.out;have BSc:=zc8 BS.out;have BEc:=zc8 BE.out))
        have hu:=inB_iff.1 (show inB e.task 0 ((s.tasks.length:Int) - 1)=true from H1.out);obtain ⟨u,hu0⟩:=Int.eq_ofNat_of_zero_le hu.1;have hul:u < s.tasks.length:=by omega
        have r0:(0:Int)<=e.task:=hu.1;have r1:e.task < (s.tasks.length:Int):=by omega
        have r4:e.task.toNat=u:=by omega
        obtain ⟨b,o,cs,rfl,hcl,hK,hcc,-⟩:=C_field G1.out zTask u hul (by decide);obtain ⟨tb,htb⟩:∃ x,x=(taskAt s.tasks u).body:=⟨_,rfl⟩;have hbb:=HBD.out u hul;rw [<-htb] at hbb;rw [show s.tasks.getD u zTask=taskAt s.tasks u from rfl] at hK;obtain ⟨E3x,f3x,E8x,f8x,E9x,f9x,E10x,f10x,rfl,-⟩:=kTask_open hK;have pw:=hcc 0 _ rfl;simp only [show kTask.sz=13 from rfl,Nat.add_zero] at pw;rw [<-htb] at pw;have PW:=am pw;have HTB:=am htb;clear hcl hK hcc pw htb hu hu0;obtain ⟨kb,hkb0⟩:=Int.eq_ofNat_of_zero_le hbb.1;have hkb:kb < p.bodies.length:=by omega
        have v0:(0:Int)<=tb:=hbb.1;have v1:tb < (p.bodies.length:Int):=hbb.2;have v4:tb.toNat=kb:=by omega
        obtain ⟨bb,ob,cs2,rfl,hcl2,hK2,hcc2,-⟩:=C_field GB.out ([]:List Act) kb hkb (by decide);obtain ⟨Aa,ca,rfl,la,-⟩:=hK2;have p2:=hcc2 0 _ rfl;simp only [show (Kd.slice 68 kAct).sz=1 from rfl,Nat.mul_one,Nat.add_zero] at p2;rw [show (p.bodies.getD kb []).length=(actsAt p.bodies kb).length from rfl] at p2;have P2:=am p2;obtain ⟨na,hna⟩:∃ x,x=(actsAt p.bodies kb).length:=⟨_,rfl⟩;have hnl:na<=1048576:=by rw [hna];exact HSZ.out kb hkb
        rw [<-hna] at P2;have HNA:=am hna;have w5:wrap64 ((na:Int) - 1)=(na:Int) - 1:=by unfold wrap64;omega
        clear hcl2 hcc2 p2 la hna hbb hkb0;obtain ⟨bH6,hbH6⟩:∃ b,inB e.act 0 ((na:Int) - 1)=b:=⟨_,rfl⟩;have H6:Aside0 ((decide ((0:Int)<=e.act) && decide (e.act<=(na:Int) - 1))=bH6):=⟨hbH6⟩;clear hbH6
        cases bH6 with
        | false=>
         refine st9 (n:=17) (S:=fun W=>W.heap[gp]? = some (.cells #[.slice Ac p.cells.length cc,.slice (some ⟨bb,ob,none⟩) p.bodies.length cb] 36 (0,0))/\W.heap[gs]? = some (.cells #[.slice A0 s.cells.length c0,.slice (some ⟨b,o,none⟩) s.tasks.length c1,.int .i64 s.clock,.slice (some ⟨be,oe,none⟩) s.log.length c3] 42 (0,0))/\W.heap[ge]? = some (.cells #[.int .i64 e.task,.int .i64 e.act,.int .i64 e.when_,.slice E3 e.reads.length f3,.slice E4 e.puts.length f4,.int .i64 e.from_] 136 (0,0))/\W.cell? ⟨b,o+u*13,none⟩=some (.int .i64 tb)/\W.cell? ⟨bb,ob+kb,none⟩=some (.slice Aa na ca)) (ds:= []) (by kernel_rfl) rfl ⟨blk_drew BP.out,blk_drew BS.out,blk_drew BE.out,(show w9.cell? ⟨b,o+u*13,none⟩=_ from cellB HB.out PW.out),(show w9.cell? ⟨bb,ob+kb,none⟩=_ from cellB HB.out P2.out)⟩ (fun hHeld=> ?_);have hb:=below_drew (Below.refl w9.heap.size w9);generalize w9.drew=w7 at hb hHeld ⊢;have HB7:=am (below_step HB.out hb);clear hb HB BP BS BE BPc BSc BEc;refine ba9 (fuel:=2) (n:=15) [0,1,2,3,4,5,6,7,8,9,10,11,12,13,14] (by kernel_rfl) (fun N _ _ _ _ h=>by cases N <;> exact h) hHeld ?_
         iterate 15 (
          refine stillS_step (v:= ?_) (a':= ?_) rfl (Or.inl ⟨by rfl, ?_⟩) ?_ ?_;rotate_left
          ·rintro W ⟨s0,s1,s2,s3,s4⟩
           have t0:=zc8 s0;have t1:=zc8 s1;have t2:=zc8 s2;clear s0 s1 s2;go_simp;with_reducible rfl
          rotate_left
          ·simp only [Act.put,sA,sZ,sS,i64_w]
           rfl)
         refine stillS_nil ?_;refine on9 (i:=15) (N:=some 75) rfl rfl (by kernel_rfl) (by decide) (fun K hK=> ?_);refine goes_ Tryz.func76 (by kernel_rfl) rfl #[.int .i64 e.act,.int .i64 0,.int .i64 (wrap64 ((na:Int) - 1))] (by rfl) rfl rfl (by (try simp only [List.map_toArray,List.map_cons,List.map_nil]);first | done | rfl) ?_;refine (l6In_calls e.act 0 (wrap64 ((na:Int) - 1)) _).mono ?_;rw [w5,H6.out];rintro e9 wn ⟨rfl,rfl⟩;refine ⟨_,rfl, ?_⟩;refine hK.out _ _ hHeld (fun hHeld=> ?_);clear hK K;refine norm_ (a':= ?_) ?_ ?_;rotate_left
         ·show Act.put _ (some 75) _=_
          simp only [Act.put,sA,sZ,sS,i64_w];rfl
         refine ba9 (fuel:=0) (n:=1) [16] (by kernel_rfl) (fun N _ _ _ _ h=>by cases N <;> exact h) hHeld ?_
         iterate 1 (
          refine stillS_step (v:= ?_) (a':= ?_) rfl (Or.inl ⟨by rfl, ?_⟩) ?_ ?_;rotate_left
          ·rintro W ⟨s0,s1,s2,s3,s4⟩
           have t0:=zc8 s0;have t1:=zc8 s1;have t2:=zc8 s2;clear s0 s1 s2;go_simp;with_reducible rfl
          rotate_left
          ·simp only [Act.put,sA,sZ,sS,i64_w]
           rfl)
         refine stillS_nil ?_;refine done_ (by kernel_rfl) ?_;have BP:=am hHeld.1;have BS:=am hHeld.2.1;have HB:=HB7;clear hHeld HB7;have BPc:=zc8 BP.out;have BSc:=zc8 BS.out;go_wp2;go_ret
         have hr:logOk p s=false:=by
          unfold logOk;exact allB_no hlt (by rw [<-EX.out];(try simp only []);rw [show inB e.task 0 ((s.tasks.length:Int) - 1)=true from H1.out,show inB e.when_ 0 s.clock=true from H2.out,show inB e.from_ 0 (k:Int)=true from H3.out,show listOk e.reads s.cells.length=true from H4.out,show listOk e.puts s.cells.length=true from H5.out,r4,<-HTB.out,v4,<-HNA.out,show inB e.act 0 ((na:Int) - 1)=false from H6.out];simp only [Bool.and_false])
         rw [hr]
         exact ⟨rfl,HB.out⟩
        | true=>
         refine st9 (n:=17) (S:=fun W=>W.heap[gp]? = some (.cells #[.slice Ac p.cells.length cc,.slice (some ⟨bb,ob,none⟩) p.bodies.length cb] 36 (0,0))/\W.heap[gs]? = some (.cells #[.slice A0 s.cells.length c0,.slice (some ⟨b,o,none⟩) s.tasks.length c1,.int .i64 s.clock,.slice (some ⟨be,oe,none⟩) s.log.length c3] 42 (0,0))/\W.heap[ge]? = some (.cells #[.int .i64 e.task,.int .i64 e.act,.int .i64 e.when_,.slice E3 e.reads.length f3,.slice E4 e.puts.length f4,.int .i64 e.from_] 136 (0,0))/\W.cell? ⟨b,o+u*13,none⟩=some (.int .i64 tb)/\W.cell? ⟨bb,ob+kb,none⟩=some (.slice Aa na ca)) (ds:= []) (by kernel_rfl) rfl ⟨blk_drew BP.out,blk_drew BS.out,blk_drew BE.out,(show w9.cell? ⟨b,o+u*13,none⟩=_ from cellB HB.out PW.out),(show w9.cell? ⟨bb,ob+kb,none⟩=_ from cellB HB.out P2.out)⟩ (fun hHeld=> ?_);have hb:=below_drew (Below.refl w9.heap.size w9);generalize w9.drew=w7 at hb hHeld ⊢;have HB7:=am (below_step HB.out hb);clear hb HB BP BS BE BPc BSc BEc;refine ba9 (fuel:=2) (n:=15) [0,1,2,3,4,5,6,7,8,9,10,11,12,13,14] (by kernel_rfl) (fun N _ _ _ _ h=>by cases N <;> exact h) hHeld ?_
         iterate 15 (
          refine stillS_step (v:= ?_) (a':= ?_) rfl (Or.inl ⟨by rfl, ?_⟩) ?_ ?_;rotate_left
          ·rintro W ⟨s0,s1,s2,s3,s4⟩
           have t0:=zc8 s0;have t1:=zc8 s1;have t2:=zc8 s2;clear s0 s1 s2;go_simp;with_reducible rfl
          rotate_left
          ·simp only [Act.put,sA,sZ,sS,i64_w]
           rfl)
         refine stillS_nil ?_;refine on9 (i:=15) (N:=some 75) rfl rfl (by kernel_rfl) (by decide) (fun K hK=> ?_);refine goes_ Tryz.func76 (by kernel_rfl) rfl #[.int .i64 e.act,.int .i64 0,.int .i64 (wrap64 ((na:Int) - 1))] (by rfl) rfl rfl (by (try simp only [List.map_toArray,List.map_cons,List.map_nil]);first | done | rfl) ?_;refine (l6In_calls e.act 0 (wrap64 ((na:Int) - 1)) _).mono ?_;rw [w5,H6.out];rintro e9 wn ⟨rfl,rfl⟩;refine ⟨_,rfl, ?_⟩;refine hK.out _ _ hHeld (fun hHeld=> ?_);clear hK K;refine norm_ (a':= ?_) ?_ ?_;rotate_left
         ·show Act.put _ (some 75) _=_
          simp only [Act.put,sA,sZ,sS,i64_w];rfl
         refine ba9 (fuel:=0) (n:=1) [16] (by kernel_rfl) (fun N _ _ _ _ h=>by cases N <;> exact h) hHeld ?_
         iterate 1 (
          refine stillS_step (v:= ?_) (a':= ?_) rfl (Or.inl ⟨by rfl, ?_⟩) ?_ ?_;rotate_left
          ·rintro W ⟨s0,s1,s2,s3,s4⟩
           have t0:=zc8 s0;have t1:=zc8 s1;have t2:=zc8 s2;clear s0 s1 s2;go_simp;with_reducible rfl
          rotate_left
          ·simp only [Act.put,sA,sZ,sS,i64_w]
           rfl)
         refine stillS_nil ?_;refine done_ (by kernel_rfl) ?_;have BP:=am hHeld.1;have BS:=am hHeld.2.1;have HB:=HB7;clear hHeld HB7;have BPc:=zc8 BP.out;have BSc:=zc8 BS.out;go_wp2;go_roundw
         case rel=>exact ⟨k+1,by omega,by go_num,⟨fun i hi=>by rcases Nat.lt_or_ge i k with h | h;exact HJ.out i h;obtain rfl:k=i:=(by omega);rw [<-EX.out];(try simp only []);rw [show inB e.task 0 ((s.tasks.length:Int) - 1)=true from H1.out,show inB e.when_ 0 s.clock=true from H2.out,show inB e.from_ 0 (k:Int)=true from H3.out,show listOk e.reads s.cells.length=true from H4.out,show listOk e.puts s.cells.length=true from H5.out,r4,<-HTB.out,v4,<-HNA.out,show inB e.act 0 ((na:Int) - 1)=true from H6.out];rfl⟩,BP,BS,HB⟩
         case measure=>simp [intOf];omega
  ·obtain rfl:k=s.log.length:=by omega
   go_wp2;go_ret
   have hr:logOk p s=true:=by
    unfold logOk;exact allB_iff.2 HJ.out
   rw [hr];exact ⟨rfl,HB.out⟩
theorem kid4_le (n k0 k1 k2 k3:Nat):decide (n<=k0+k1+k2+k3)=decide ((n:Int)<=(k0:Int)+(k1:Int)+(k2:Int)+(k3:Int)):=by
 rw [Bool.eq_iff_iff];simp;omega
theorem wsum2 {k0 k1:Nat} (h0:k0<=1048576) (h1:k1<=1048576):wrap64 ((k0:Int)+(k1:Int))=(k0:Int)+(k1:Int):=by unfold wrap64;omega
theorem wsum3 {k0 k1 k2:Nat} (h0:k0<=1048576) (h1:k1<=1048576) (h2:k2<=1048576):wrap64 ((k0:Int)+(k1:Int)+(k2:Int))=(k0:Int)+(k1:Int)+(k2:Int):=by unfold wrap64;omega
theorem wsum4 {k0 k1 k2 k3:Nat} (h0:k0<=1048576) (h1:k1<=1048576) (h2:k2<=1048576) (h3:k3<=1048576):wrap64 ((k0:Int)+(k1:Int)+(k2:Int)+(k3:Int))=(k0:Int)+(k1:Int)+(k2:Int)+(k3:Int):=by unfold wrap64;omega
theorem waF {q:Prop} (h:q:=by
  go_wp2;go_ret;rw [HU.out];exact ⟨by simp,M.out.below⟩):q:=h
theorem l12Act_calls (p:Prog) (ps:List Value) (s:Sys) (ss:List Value) (i:Nat) (w:World) (hp:kProg.K w p ps) (hs:kSys.K w s ss) (hz:ProgSz p) (hi:i < s.tasks.length) (hn:s.tasks.length<=1048576) (hb0:0<=(taskAt s.tasks i).body) (hb1:(taskAt s.tasks i).body < p.bodies.length) (hp0:0<=(taskAt s.tasks i).pc) (hrn:(taskAt s.tasks i).reads.length<=1048576) (hpn:(taskAt s.tasks i).puts.length<=1048576):
  Calls Tryz.prog 119 #[.agg ps.toArray,.agg ss.toArray,.int .i64 i] w fun e w'=>e= .returned (.bool (wayOk p s i))/\Below w.heap.size w w':=by
 have HPK:=am hp;have HSK:=am hs;obtain ⟨Ac,cc,Ab,cb,rfl,-,-,-,gb⟩:=kProg_open hp;obtain ⟨A0,c0,A1,c1,A3,c3,rfl,-,-,-,g1,-⟩:=kSys_open hs;obtain ⟨b,o,cs,rfl,hcl,hK,hcc,-⟩:=C_field g1 zTask i hi (by decide);obtain ⟨t,ht⟩:∃ x,x=taskAt s.tasks i:=⟨_,rfl⟩;rw [<-ht] at hb0 hb1 hp0 hrn hpn;rw [show s.tasks.getD i zTask=t from ht.symm] at hK;have HTK:=am hK;obtain ⟨B3,d3,B8,d8,B9,d9,B10,d10,rfl,-⟩:=kTask_open hK;have HC:=am hcc;obtain ⟨kb,hkb0⟩:=Int.eq_ofNat_of_zero_le hb0;have hkb:kb < p.bodies.length:=by omega
 have v4:t.body.toNat=kb:=by omega
 obtain ⟨bb,ob,cs2,rfl,hcl2,hK2,hcc2,-⟩:=C_field gb ([]:List Act) kb hkb (by decide);obtain ⟨Aa,ca,rfl,la,ga2⟩:=hK2;have p2:=hcc2 0 _ rfl;simp only [show (Kd.slice 68 kAct).sz=1 from rfl,Nat.mul_one,Nat.add_zero] at p2;obtain ⟨acts,hacts⟩:∃ x,x=actsAt p.bodies kb:=⟨_,rfl⟩;rw [show p.bodies.getD kb []=acts from hacts.symm] at p2 ga2;have hal:acts.length<=1048576:=by rw [hacts,actsAt_eq hkb];exact (hz.acts _ (List.getElem_mem hkb)).1
 have GA:=am ga2;have HU0:Aside0 (wayOk p s i=if t.way=0 then decide (t.stage=0) || (decide (t.pc < (acts.length:Int)) && decide ((actAt acts t.pc.toNat).kind=1) && stOk t (actAt acts t.pc.toNat).deeds.length) else if t.way=1 then decide (t.pc < (acts.length:Int)) && decide ((actAt acts t.pc.toNat).kind=2) && decide ((actAt acts t.pc.toNat).kids.length<=kidsN s.tasks i 0+kidsN s.tasks i 1+kidsN s.tasks i 2+kidsN s.tasks i 3) else if t.way=2 then decide (t.pc=(acts.length:Int)) else true):=⟨by rw [hacts,<-v4,ht];rfl⟩;obtain ⟨bp,yp⟩:∃ b,decide (t.pc < (acts.length:Int))=b:=⟨_,rfl⟩;have PC:=am yp;have q0:(0:Int)<=(i:Int):=by omega
 have q1:(i:Int) < (s.tasks.length:Int):=by omega
 have M:=am (Own.nil w);have C:=M.out.cl;replace M:=am (M.out.far p2);clear C;have C:=M.out.cl;simp only [Cl] at C;clear hp hs hcl hK hcc hcl2 hcc2 p2 la ga2 hkb0 gb g1 hacts ht;go_enter Tryz.func119,Tryz.ntmps119
 go_upto_region 4 with (first
 |((first|with_reducible refine gB ?_ | with_reducible refine gA ?_);refine oB rfl M.out ?_;clear M C;intro g W M C;simp only [Cl] at C)
 |((with_reducible refine gL ?_);refine oR rfl rfl M.out HC.out ?_)
 |((with_reducible refine gS ?_);refine oS rfl rfl rfl M.out ?_;clear M C;intro W M C;simp only [Cl] at C)
 |((with_reducible refine gL ?_);refine oL rfl rfl M.out ?_))
 by_cases h0:t.way=0
 ·have y0:(t.way == 0)=true:=by simp [h0]
  have HU1:=am (HU0.out.trans (if_pos h0));clear HU0;obtain ⟨st,ys⟩:∃ b,(t.stage == 0)=b:=⟨_,rfl⟩;have es:decide (t.stage=0)=st:=by rw [<-ys,Bool.eq_iff_iff];simp
  rw [es] at HU1;clear es h0;cases st;rotate_left
  ·have HU:=HU1
   go_wp2_with fail
   refine dS M.out ?_;clear M C;intro W M;refine dN [0,1,2,3,4,5,6,7,8,9,10,11,12,13,14,15,16,17,18,19,20,21,22,23,24,25,26] M.out ?_;iterate 27 (first|refine sP rfl ?_ | refine sG rfl ?_ | refine sU rfl ?_ | refine sN rfl ?_)
   refine stillS_nil ?_;refine dU 27 rfl rfl M.out (dA ?_);refine dN [28,29,30] M.out ?_;iterate 3 (first|refine sP rfl ?_ | refine sG rfl ?_ | refine sU rfl ?_ | refine sN rfl ?_)
   refine stillS_nil ?_;refine dD ?_;have C:=M.out.cl;simp only [Cl] at C;exact waF
  rw [PC.out] at HU1;cases bp
  ·have HU:=HU1
   go_wp2_with fail
   refine dS M.out ?_;clear M C;intro W M;refine dN [0,1,2,3,4,5,6,7,8,9,10,11,12,13,14,15,16,17,18,19,20,21,22,23,24,25,26] M.out ?_;iterate 27 (first|refine sP rfl ?_ | refine sG rfl ?_ | refine sU rfl ?_ | refine sN rfl ?_)
   refine stillS_nil ?_;refine dU 27 rfl rfl M.out (dA ?_);refine dN [28,29,30] M.out ?_;iterate 3 (first|refine sP rfl ?_ | refine sG rfl ?_ | refine sU rfl ?_ | refine sN rfl ?_)
   refine stillS_nil ?_;refine dD ?_;have C:=M.out.cl;simp only [Cl] at C;exact waF
  obtain ⟨ka,hka0⟩:=Int.eq_ofNat_of_zero_le hp0;have hpl:t.pc < (acts.length:Int):=of_decide_eq_true PC.out;have hka:ka < acts.length:=by omega
  have v5:t.pc.toNat=ka:=by omega
  obtain ⟨ba,oa,cs3,rfl,hcl3,hK3,hcc3,-⟩:=C_field GA.out zAct ka hka (by decide);obtain ⟨a,hax⟩:∃ x,x=actAt acts ka:=⟨_,rfl⟩;rw [show acts.getD ka zAct=a from hax.symm] at hK3;obtain ⟨Ad,cd,Ak,ck,rfl,-⟩:=kAct_open hK3;have ua0:=hcc3 0 _ rfl;have ua1:=hcc3 1 _ rfl;have ua2:=hcc3 2 _ rfl;simp only [show kAct.sz=4 from rfl,Nat.add_zero] at ua0 ua1 ua2;have AX:Aside0 (actAt acts t.pc.toNat=a):=⟨by rw [v5,hax]⟩;replace M:=am (((M.out.far ua0).far ua1).far ua2);clear C;have C:=M.out.cl;simp only [Cl] at C;clear hcl3 hK3 hcc3 hax ua0 ua1 ua2 hka0;rw [AX.out] at HU1;obtain ⟨bk,yk⟩:∃ b,(a.kind == 1)=b:=⟨_,rfl⟩;have es:decide (a.kind=1)=bk:=by rw [<-yk,Bool.eq_iff_iff];simp
  rw [es] at HU1;clear es;have HU:=HU1;cases bk
  ·go_wp2_with fail
   refine dS M.out ?_;clear M C;intro W M;refine dN [0,1,2,3,4,5,6,7,8,9,10,11,12,13,14,15,16,17,18,19,20,21,22,23,24,25,26] M.out ?_;iterate 27 (first|refine sP rfl ?_ | refine sG rfl ?_ | refine sU rfl ?_ | refine sN rfl ?_)
   refine stillS_nil ?_;refine dU 27 rfl rfl M.out (dA ?_);refine dN [28,29,30] M.out ?_;iterate 3 (first|refine sP rfl ?_ | refine sG rfl ?_ | refine sU rfl ?_ | refine sN rfl ?_)
   refine stillS_nil ?_;refine dD ?_;have C:=M.out.cl;simp only [Cl] at C;exact waF
  ·go_wp2_with fail
   refine dS M.out ?_;clear M C;intro W M;refine dN [0,1,2,3,4,5,6,7,8,9,10,11,12,13,14,15,16,17,18,19,20,21,22,23,24,25,26] M.out ?_;iterate 19 (first|refine sP rfl ?_ | refine sG rfl ?_ | refine sU rfl ?_ | refine sN rfl ?_)
   refine sLg rfl rfl ?_;iterate 7 (first|refine sP rfl ?_ | refine sG rfl ?_ | refine sU rfl ?_ | refine sN rfl ?_)
   refine stillS_nil ?_;refine dC 27 rfl ?_;refine oCb M.out (l12At_calls t _ _ _ (kTask.K_below M.out.below HTK.out) hrn hpn) rfl ?_;intro W M C;refine ⟨_,rfl,M,dA ?_⟩;refine dN [28,29,30] M.out ?_;iterate 3 (first|refine sP rfl ?_ | refine sG rfl ?_ | refine sU rfl ?_ | refine sN rfl ?_)
   refine stillS_nil ?_;refine dD ?_;clear C;have C:=M.out.cl;simp only [Cl] at C;exact waF
 have y0:(t.way == 0)=false:=by simpa using h0
 have HU1:=am (HU0.out.trans (if_neg h0));clear HU0 h0;by_cases h1:t.way=1
 ·have y1:(t.way == 1)=true:=by simp [h1]
  have HU2:=am (HU1.out.trans (if_pos h1));clear HU1 h1;obtain ⟨k0,hk0⟩:∃ x,x=kidsN s.tasks i 0:=⟨_,rfl⟩;have kl0:k0<=1048576:=by rw [hk0];exact Nat.le_trans (cntTo_le _ _) hn
  rw [<-hk0] at HU2;have K0:=am hk0.symm;clear hk0;obtain ⟨k1,hk1⟩:∃ x,x=kidsN s.tasks i 1:=⟨_,rfl⟩;have kl1:k1<=1048576:=by rw [hk1];exact Nat.le_trans (cntTo_le _ _) hn
  rw [<-hk1] at HU2;have K1:=am hk1.symm;clear hk1;obtain ⟨k2,hk2⟩:∃ x,x=kidsN s.tasks i 2:=⟨_,rfl⟩;have kl2:k2<=1048576:=by rw [hk2];exact Nat.le_trans (cntTo_le _ _) hn
  rw [<-hk2] at HU2;have K2:=am hk2.symm;clear hk2;obtain ⟨k3,hk3⟩:∃ x,x=kidsN s.tasks i 3:=⟨_,rfl⟩;have kl3:k3<=1048576:=by rw [hk3];exact Nat.le_trans (cntTo_le _ _) hn
  rw [<-hk3] at HU2;have K3:=am hk3.symm;clear hk3;have z1:=wsum2 kl0 kl1;have z2:=wsum3 kl0 kl1 kl2;have z3:=wsum4 kl0 kl1 kl2 kl3;clear kl0 kl1 kl2 kl3;rw [PC.out,kid4_le] at HU2
  go_upto_region 9 with (first
  |(go_at_call 84;refine (kids_calls (i:Int) _ _ (⟨M.out.lies.at_ .here,(kProg.K_below M.out.below HPK.out),(kSys.K_below M.out.below HSK.out)⟩:RO _ _ _ p s _ _ _ _) hn).mono ?_;(first|rw [K0.out] | rw [K1.out] | rw [K2.out] | rw [K3.out]);rintro e w9 ⟨rfl,rfl⟩))
  cases bp
  ·have HU:=HU2
   exact waF
  obtain ⟨ka,hka0⟩:=Int.eq_ofNat_of_zero_le hp0;have hpl:t.pc < (acts.length:Int):=of_decide_eq_true PC.out;have hka:ka < acts.length:=by omega
  have v5:t.pc.toNat=ka:=by omega
  obtain ⟨ba,oa,cs3,rfl,hcl3,hK3,hcc3,-⟩:=C_field GA.out zAct ka hka (by decide);obtain ⟨a,hax⟩:∃ x,x=actAt acts ka:=⟨_,rfl⟩;rw [show acts.getD ka zAct=a from hax.symm] at hK3;obtain ⟨Ad,cd,Ak,ck,rfl,-⟩:=kAct_open hK3;have ua0:=hcc3 0 _ rfl;have ua1:=hcc3 1 _ rfl;have ua2:=hcc3 2 _ rfl;simp only [show kAct.sz=4 from rfl,Nat.add_zero] at ua0 ua1 ua2;have AX:Aside0 (actAt acts t.pc.toNat=a):=⟨by rw [v5,hax]⟩;replace M:=am (((M.out.far ua0).far ua1).far ua2);clear C;have C:=M.out.cl;simp only [Cl] at C;clear hcl3 hK3 hcc3 hax ua0 ua1 ua2 hka0;rw [AX.out] at HU2;obtain ⟨bk,yk⟩:∃ b,(a.kind == 2)=b:=⟨_,rfl⟩;have es:decide (a.kind=2)=bk:=by rw [<-yk,Bool.eq_iff_iff];simp
  rw [es] at HU2;clear es;have HU:=HU2;cases bk;exact waF;exact waF
 have y1:(t.way == 1)=false:=by simpa using h1
 have HU2:=am (HU1.out.trans (if_neg h1));clear HU1 h1;by_cases h2:t.way=2
 ·have y2:(t.way == 2)=true:=by simp [h2]
  have HU3:=am (HU2.out.trans (if_pos h2));have HU:Aside0 (wayOk p s i=(t.pc == (acts.length:Int))):=⟨by rw [HU3.out,Bool.eq_iff_iff];simp⟩;clear HU2 HU3 h2;exact waF
 have y2:(t.way == 2)=false:=by simpa using h2
 have HU:=am (HU2.out.trans (if_neg h2));clear HU2 h2;exact waF
theorem tkbF {q:Prop} (h:q:=by
  go_wp2;go_ret;rw [HU.out];exact ⟨by simp,M.out.below⟩):q:=h
theorem tkF {q:Prop} (h:q:=by
  go_wp2_with (first
  |((with_reducible refine gL ?_);refine oL rfl rfl M.out ?_)
  |(go_at_call 115;refine oEb (l2Nums_calls _ _ _ 3 _ (by first|exact Kd.C_below R3.out M.out.below | exact Kd.C_below R8.out M.out.below) (by first|exact HZT.out.1 | exact HZT.out.2.1)) (by first|exact N3.out | exact N8.out) ?_)
  |(go_at_call 116;refine oCb M.out (l12List_calls _ _ _ _ _ (by first|exact Kd.C_below R9.out M.out.below | exact Kd.C_below R10.out M.out.below) (by first|exact HZT.out.2.2.1 | exact HZT.out.2.2.2) (by omega) (by omega)) (by first|exact L9.out | exact L10.out) ?_;clear M C;intro W M C;simp only [Cl] at C)
  |(go_at_call 117;refine oCb M.out (l12Times_calls t s _ _ _ (kTask.K_below M.out.below HTK.out) (kSys.K_below M.out.below HSK.out) hc0 hc1 hl) TM.out ?_;clear M C;intro W M C;simp only [Cl] at C)
  |(go_at_call 118;refine oCb M.out (l12Up_calls s _ i _ (kSys.K_below M.out.below HSK.out) hi hn) UP.out ?_;clear M C;intro W M C;simp only [Cl] at C)
  |(go_at_call 119;refine oCb M.out (l12Act_calls p _ s _ i _ (kProg.K_below M.out.below HPK.out) (kSys.K_below M.out.below HSK.out) HPZ.out hi hn (by rw [<-TX.out];exact hb0) (by rw [<-TX.out];exact hb1) (by rw [<-TX.out];exact hp0) (by rw [<-TX.out];exact HZT.out.2.2.1) (by rw [<-TX.out];exact HZT.out.2.2.2)) AC.out ?_;clear M C;intro W M C;simp only [Cl] at C))
  go_ret;rw [HU.out];exact ⟨by simp,M.out.below⟩):q:=h
theorem l12Task_calls (p:Prog) (ps:List Value) (s:Sys) (ss:List Value) (i:Nat) (w:World) (hp:kProg.K w p ps) (hs:kSys.K w s ss) (hz:ProgSz p) (hi:i < s.tasks.length) (hn:s.tasks.length<=1048576) (hm:s.cells.length<=1048576) (hl:s.log.length<=1048576) (hc0:0<=s.clock) (hc1:s.clock<=200) (hsz:(taskAt s.tasks i).regs.length<=1048576/\(taskAt s.tasks i).old.length<=1048576/\(taskAt s.tasks i).reads.length<=1048576/\(taskAt s.tasks i).puts.length<=1048576):
  Calls Tryz.prog 77 #[.agg ps.toArray,.agg ss.toArray,.int .i64 i] w fun e w'=>e= .returned (.bool (taskOk p s i))/\Below w.heap.size w w':=by
 have HPK:=am hp;have HSK:=am hs;have HPZ:=am hz;obtain ⟨Ac,cc,Ab,cb,rfl,-,-,-,gb⟩:=kProg_open hp;obtain ⟨A0,c0,A1,c1,A3,c3,rfl,-,-,-,g1,-⟩:=kSys_open hs;have GB:=am gb;obtain ⟨b,o,cs,rfl,hcl,hK,hcc,-⟩:=C_field g1 zTask i hi (by decide);obtain ⟨t,ht⟩:∃ x,x=taskAt s.tasks i:=⟨_,rfl⟩;rw [<-ht] at hsz;rw [show s.tasks.getD i zTask=t from ht.symm] at hK;have HTK:=am hK;obtain ⟨B3,d3,B8,d8,B9,d9,B10,d10,rfl,-,g3,-,g8,-,g9,-,g10⟩:=kTask_open hK;have HC:=am hcc;have R3:=am g3;have R8:=am g8;have R9:=am g9;have R10:=am g10;have HZT:=am hsz;have TX:=am ht;obtain ⟨b1,y1⟩:∃ b,inB t.body 0 ((p.bodies.length:Int) - 1)=b:=⟨_,rfl⟩;obtain ⟨b2,y2⟩:∃ b,inB t.pc 0 ((actsAt p.bodies t.body.toNat).length)=b:=⟨_,rfl⟩;obtain ⟨b3,y3⟩:∃ b,inB t.way 0 4=b:=⟨_,rfl⟩;obtain ⟨b4,y4⟩:∃ b,inB t.stage 0 5=b:=⟨_,rfl⟩;obtain ⟨bw,yw⟩:∃ b,(t.way != 0)=b:=⟨_,rfl⟩;obtain ⟨st,ys⟩:∃ b,(t.stage != 0)=b:=⟨_,rfl⟩;obtain ⟨n3,z3⟩:∃ b,numsOk t.regs 3=b:=⟨_,rfl⟩;obtain ⟨n8,z8⟩:∃ b,numsOk t.old 3=b:=⟨_,rfl⟩;obtain ⟨l9,z9⟩:∃ b,listOk t.reads s.cells.length=b:=⟨_,rfl⟩;obtain ⟨l10,z10⟩:∃ b,listOk t.puts s.cells.length=b:=⟨_,rfl⟩;obtain ⟨at0,ya⟩:∃ b,(t.at_ == 0)=b:=⟨_,rfl⟩;obtain ⟨sm,ym⟩:∃ b,((t.reads.length:Int)+(t.puts.length:Int) == 0)=b:=⟨_,rfl⟩;obtain ⟨tm,zt⟩:∃ b,timesOk t s=b:=⟨_,rfl⟩;obtain ⟨up,zu⟩:∃ b,upsOk s i=b:=⟨_,rfl⟩;obtain ⟨ac,zc⟩:∃ b,wayOk p s i=b:=⟨_,rfl⟩
 have HU:Aside0 (taskOk p s i=(b1 && b2 && b3 && b4 && (!bw || !st) && n3 && n8 && l9 && l10 && (st || (at0 && sm)) && tm && up && ac)):=⟨by
  have e1:decide (t.way=0)= !bw:=by rw [<-yw,Bool.eq_iff_iff];simp
  have e2:decide (t.stage=0)= !st:=by rw [<-ys,Bool.eq_iff_iff];simp
  have e3:decide (t.at_=0)=at0:=by rw [<-ya,Bool.eq_iff_iff];simp
  have e4:decide (t.reads.length+t.puts.length=0)=sm:=by rw [<-ym,Bool.eq_iff_iff,decide_eq_true_eq,beq_iff_eq];omega
  unfold taskOk;simp only [<-ht];rw [y1,y2,y3,y4,e1,e2,e3,e4,z3,z8,z9,z10,zt,zu,zc,Bool.not_not]⟩
 have w5:wrap64 ((p.bodies.length:Int) - 1)=(p.bodies.length:Int) - 1:=by have:=hz.bodies;unfold wrap64;omega
 have zz:wrap64 ((t.reads.length:Int)+(t.puts.length:Int))=(t.reads.length:Int)+(t.puts.length:Int):=by unfold wrap64;omega
 have Y1:=am y1;have Y2:=am y2;have Y3:=am y3;have Y4:=am y4;have N3:=am z3;have N8:=am z8;have L9:=am z9;have L10:=am z10;have TM:=am zt;have UP:=am zu;have AC:=am zc;have Y1w:Aside0 ((decide (0<=t.body) && decide (t.body<=wrap64 ((p.bodies.length:Int) - 1)))=b1):=⟨by rw [w5];exact y1⟩;have q0:(0:Int)<=(i:Int):=by omega
 have q1:(i:Int) < (s.tasks.length:Int):=by omega
 have M:=am (Own.nil w);have C:=M.out.cl;clear hp hs hz gb g1 hcl hK hcc g3 g8 g9 g10 hsz ht y1 y2 y3 y4 z3 z8 z9 z10 zt zu zc;go_enter Tryz.func77,Tryz.ntmps77
 go_upto_region 2 with (first
 |((first|with_reducible refine gB ?_ | with_reducible refine gA ?_);refine oB rfl M.out ?_;clear M C;intro g W M C;simp only [Cl] at C)
 |((with_reducible refine gL ?_);refine oR rfl rfl M.out HC.out ?_)
 |((with_reducible refine gS ?_);refine oS rfl rfl rfl M.out ?_;clear M C;intro W M C;simp only [Cl] at C))
 cases b1
 case false=>
  refine dS M.out ?_;clear M C;intro W M;refine dN [0,1,2,3,4,5] M.out ?_;iterate 6 (first|refine sP rfl ?_ | refine sG rfl ?_ | refine sU rfl ?_ | refine sN rfl ?_)
  refine stillS_nil ?_;refine dC 6 rfl ?_;refine oEb (l6In_calls _ _ _ _) Y1w.out ?_;refine ⟨_,rfl,M,dA ?_⟩;refine dN [7,8,9,10,11,12,13,14,15,16,17] M.out ?_;iterate 11 (first|refine sP rfl ?_ | refine sG rfl ?_ | refine sU rfl ?_ | refine sN rfl ?_)
  refine stillS_nil ?_;refine dU 18 rfl rfl M.out (dA ?_);refine dN [19,20,21,22,23] M.out ?_;iterate 5 (first|refine sP rfl ?_ | refine sG rfl ?_ | refine sU rfl ?_ | refine sN rfl ?_)
  refine stillS_nil ?_;refine dU 24 rfl rfl M.out (dA ?_);refine dN [25,26,27,28,29] M.out ?_;iterate 5 (first|refine sP rfl ?_ | refine sG rfl ?_ | refine sU rfl ?_ | refine sN rfl ?_)
  refine stillS_nil ?_;refine dU 30 rfl rfl M.out (dA ?_);refine dN [31,32] M.out ?_;iterate 2 (first|refine sP rfl ?_ | refine sG rfl ?_ | refine sU rfl ?_ | refine sN rfl ?_)
  refine stillS_nil ?_;refine dD ?_;have C:=M.out.cl;simp only [Cl] at C;exact tkbF
 have hbb:=inB_iff.1 Y1.out;have hb0:0<=t.body:=hbb.1;have hb1:t.body < p.bodies.length:=by omega
 clear hbb;obtain ⟨kb,hkb0⟩:=Int.eq_ofNat_of_zero_le hb0;have hkb:kb < p.bodies.length:=by omega
 have v4:t.body.toNat=kb:=by omega
 obtain ⟨bb,ob,cs2,rfl,hcl2,hK2,hcc2,-⟩:=C_field GB.out ([]:List Act) kb hkb (by decide);obtain ⟨Aa,ca,rfl,la,-⟩:=hK2;have p2:=hcc2 0 _ rfl;simp only [show (Kd.slice 68 kAct).sz=1 from rfl,Nat.mul_one,Nat.add_zero] at p2;rw [show (p.bodies.getD kb []).length=(actsAt p.bodies kb).length from rfl] at p2;rw [v4] at Y2;have hnl:(actsAt p.bodies kb).length<=1048576:=by rw [actsAt_eq hkb];exact (HPZ.out.acts _ (List.getElem_mem hkb)).1
 generalize (actsAt p.bodies kb).length=na at p2 Y2 hnl;replace M:=am (M.out.far p2);clear C;have C:=M.out.cl;simp only [Cl] at C;clear hcl2 hcc2 p2 la hkb0;refine dS M.out ?_;clear M C;intro W M;refine dN [0,1,2,3,4,5] M.out ?_;iterate 6 (first|refine sP rfl ?_ | refine sG rfl ?_ | refine sU rfl ?_ | refine sN rfl ?_)
 refine stillS_nil ?_;refine dC 6 rfl ?_;refine oEb (l6In_calls _ _ _ _) Y1w.out ?_;refine ⟨_,rfl,M,dA ?_⟩;refine dN [7,8,9,10,11,12,13,14,15,16,17] M.out ?_;iterate 11 (first|refine sP rfl ?_ | refine sG rfl ?_ | refine sU rfl ?_ | refine sN rfl ?_)
 refine stillS_nil ?_;refine dC 18 rfl ?_;refine oEb (l6In_calls _ _ _ _) Y2.out ?_;refine ⟨_,rfl,M,dA ?_⟩;cases b2
 case false=>
  refine dN [19,20,21,22,23] M.out ?_;iterate 5 (first|refine sP rfl ?_ | refine sG rfl ?_ | refine sU rfl ?_ | refine sN rfl ?_)
  refine stillS_nil ?_;refine dU 24 rfl rfl M.out (dA ?_);refine dN [25,26,27,28,29] M.out ?_;iterate 5 (first|refine sP rfl ?_ | refine sG rfl ?_ | refine sU rfl ?_ | refine sN rfl ?_)
  refine stillS_nil ?_;refine dU 30 rfl rfl M.out (dA ?_);refine dN [31,32] M.out ?_;iterate 2 (first|refine sP rfl ?_ | refine sG rfl ?_ | refine sU rfl ?_ | refine sN rfl ?_)
  refine stillS_nil ?_;refine dD ?_;have C:=M.out.cl;simp only [Cl] at C;exact tkbF
 have hp0:0<=t.pc:=(inB_iff.1 Y2.out).1;refine dN [19,20,21,22,23] M.out ?_;iterate 5 (first|refine sP rfl ?_ | refine sG rfl ?_ | refine sU rfl ?_ | refine sN rfl ?_)
 refine stillS_nil ?_;refine dC 24 rfl ?_;refine oEb (l6In_calls _ _ _ _) Y3.out ?_;refine ⟨_,rfl,M,dA ?_⟩;cases b3
 case false=>
  refine dN [25,26,27,28,29] M.out ?_;iterate 5 (first|refine sP rfl ?_ | refine sG rfl ?_ | refine sU rfl ?_ | refine sN rfl ?_)
  refine stillS_nil ?_;refine dU 30 rfl rfl M.out (dA ?_);refine dN [31,32] M.out ?_;iterate 2 (first|refine sP rfl ?_ | refine sG rfl ?_ | refine sU rfl ?_ | refine sN rfl ?_)
  refine stillS_nil ?_;refine dD ?_;have C:=M.out.cl;simp only [Cl] at C;exact tkbF
 refine dN [25,26,27,28,29] M.out ?_;iterate 5 (first|refine sP rfl ?_ | refine sG rfl ?_ | refine sU rfl ?_ | refine sN rfl ?_)
 refine stillS_nil ?_;refine dC 30 rfl ?_;refine oEb (l6In_calls _ _ _ _) Y4.out ?_;refine ⟨_,rfl,M,dA ?_⟩;cases b4
 case false=>
  refine dN [31,32] M.out ?_;iterate 2 (first|refine sP rfl ?_ | refine sG rfl ?_ | refine sU rfl ?_ | refine sN rfl ?_)
  refine stillS_nil ?_;refine dD ?_;have C:=M.out.cl;simp only [Cl] at C;exact tkbF
 refine dN [31,32] M.out ?_;iterate 2 (first|refine sP rfl ?_ | refine sG rfl ?_ | refine sU rfl ?_ | refine sN rfl ?_)
 refine stillS_nil ?_;refine dD ?_;have C:=M.out.cl;simp only [Cl] at C;go_upto_region 4 with fail;cases st
 case false=>
  cases bw
  all_goals
   cases n3
   case false=>exact tkF
   cases n8
   case false=>exact tkF
   cases l9
   case false=>exact tkF
   cases l10
   case false=>exact tkF
   cases at0
   case false=>exact tkF
   cases sm
   case false=>exact tkF
   cases tm
   case false=>exact tkF
   cases up
   case false=>exact tkF
   exact tkF
 cases bw
 case true=>exact tkbF
 cases n3
 case false=>exact tkF
 cases n8
 case false=>exact tkF
 cases l9
 case false=>exact tkF
 cases l10
 case false=>exact tkF
 cases tm
 case false=>exact tkF
 cases up
 case false=>exact tkF
 exact tkF
structure SysSz (s:Sys):Prop where
 cells:s.cells.length<=1048576
 tasks:s.tasks.length<=1048576
 log:s.log.length<=1048576
 task:∀ i,i < s.tasks.length->(taskAt s.tasks i).regs.length<=1048576/\(taskAt s.tasks i).old.length<=1048576/\(taskAt s.tasks i).reads.length<=1048576/\(taskAt s.tasks i).puts.length<=1048576
 logs:∀ i,i < s.log.length->(entryAt s.log i).reads.length<=1048576/\(entryAt s.log i).puts.length<=1048576
theorem sysOk_calls (p:Prog) (ps:List Value) (s:Sys) (ss:List Value) (w:World) (hp:kProg.K w p ps) (hs:kSys.K w s ss) (hz:ProgSz p) (hsz:SysSz s):
  Calls Tryz.prog 39 #[.agg ps.toArray,.agg ss.toArray] w fun e w'=>e= .returned (.bool (sysOk p s))/\Below w.heap.size w w':=by
 have HPK:=am hp;have HSK:=am hs;have HPZ:=am hz;have HSZ:=am hsz;obtain ⟨Ac,cc,Ab,cb,rfl,-⟩:=kProg_open hp;obtain ⟨A0,c0,A1,c1,A3,c3,rfl,-⟩:=kSys_open hs;have HU:Aside0 (sysOk p s=(progOk p && decide (s.cells.length=p.cells.length) && inB s.tasks.length 1 7 && inB s.clock 0 200 && allB s.tasks.length (taskOk p s) && cellsOk s && logOk p s)):=⟨rfl⟩;have hn:=hsz.tasks;have hm:=hsz.cells;have hl:=hsz.log;have hpc:=hz.cells;clear hp hs hz hsz;obtain ⟨bH1,hbH1⟩:∃ b,inB (s.tasks.length:Int) 1 7=b:=⟨_,rfl⟩;have H1:Aside0 ((decide ((1:Int)<=(s.tasks.length:Int)) && decide ((s.tasks.length:Int)<=7))=bH1):=⟨hbH1⟩;clear hbH1;obtain ⟨bH2,hbH2⟩:∃ b,inB s.clock 0 200=b:=⟨_,rfl⟩;have H2:Aside0 ((decide ((0:Int)<=s.clock) && decide (s.clock<=200))=bH2):=⟨hbH2⟩;clear hbH2;obtain ⟨bPO,hbPO⟩:∃ x,progOk p=x:=⟨_,rfl⟩;have PO:=am hbPO;clear hbPO;obtain ⟨bCE,hbCE⟩:∃ x,cellsOk s=x:=⟨_,rfl⟩;have CE:=am hbCE;clear hbCE;obtain ⟨bLO,hbLO⟩:∃ x,logOk p s=x:=⟨_,rfl⟩;have LO:=am hbLO;clear hbLO;go_enter Tryz.func39,Tryz.ntmps39
 cases bPO with
 | false=>
  go_wp2_with (first
  |((with_reducible refine gate_dst (N:=2) rfl ?_);refine box_event rfl (N:=2) rfl (t:=36) (by go_simp<;>rfl) ?_;intro gp hg w2 hbox hb;have BP:=am hbox;clear hbox hg;have HB2:=am hb;clear hb;have HB:=HB2;clear HB2;have BPc:=zc8 BP.out)
  |((with_reducible refine gate_dst (N:=3) rfl ?_);refine box_event rfl (N:=3) rfl (t:=42) (by go_simp<;>rfl) ?_;intro gs hg w3 hbox hb;have BS:=am hbox;clear hbox hg;replace BP:=am (zb8 BP.out hb);replace HB:=am (below_step HB.out hb);clear hb BPc;have BPc:=zc8 BP.out;have BSc:=zc8 BS.out)
  |((with_reducible refine gate_dst (N:=6) rfl ?_);refine wpList_load_mid rfl 36 (.tmp 2) rfl gp 0 rfl _ _ (lC BP.out) Tryz.underlying36 rfl (by kernel_rfl) ?_)
  |(go_at_call 75;refine (progOk_calls p _ _ (kProg.K_below HB.out HPK.out) HPZ.out).mono ?_;rw [PO.out];rintro e w9 ⟨rfl,hb⟩;replace BP:=am (zb8 BP.out hb);replace BS:=am (zb8 BS.out hb);replace HB:=am (below_step HB.out hb);clear hb BPc BSc;have BPc:=zc8 BP.out;have BSc:=zc8 BS.out))
  go_ret
  have hr:sysOk p s=false:=by
   rw [HU.out,PO.out];simp only [Bool.true_and,Bool.false_and,Bool.and_false,Bool.and_true,Bool.and_self]
  rw [hr]
  exact ⟨rfl,HB.out⟩
 | true=>
  by_cases clx:s.cells.length=p.cells.length
  ·have ycl:((s.cells.length:Int) != (p.cells.length:Int))=false:=by simp;omega
   have CL:=am (decide_eq_true clx);clear clx
   cases bH1 with
   | false=>
    go_wp2_with (first
    |((with_reducible refine gate_dst (N:=2) rfl ?_);refine box_event rfl (N:=2) rfl (t:=36) (by go_simp<;>rfl) ?_;intro gp hg w2 hbox hb;have BP:=am hbox;clear hbox hg;have HB2:=am hb;clear hb;have HB:=HB2;clear HB2;have BPc:=zc8 BP.out)
    |((with_reducible refine gate_dst (N:=3) rfl ?_);refine box_event rfl (N:=3) rfl (t:=42) (by go_simp<;>rfl) ?_;intro gs hg w3 hbox hb;have BS:=am hbox;clear hbox hg;replace BP:=am (zb8 BP.out hb);replace HB:=am (below_step HB.out hb);clear hb BPc;have BPc:=zc8 BP.out;have BSc:=zc8 BS.out)
    |((with_reducible refine gate_dst (N:=6) rfl ?_);refine wpList_load_mid rfl 36 (.tmp 2) rfl gp 0 rfl _ _ (lC BP.out) Tryz.underlying36 rfl (by kernel_rfl) ?_)
    |(go_at_call 75;refine (progOk_calls p _ _ (kProg.K_below HB.out HPK.out) HPZ.out).mono ?_;rw [PO.out];rintro e w9 ⟨rfl,hb⟩;replace BP:=am (zb8 BP.out hb);replace BS:=am (zb8 BS.out hb);replace HB:=am (below_step HB.out hb);clear hb BPc BSc;have BPc:=zc8 BP.out;have BSc:=zc8 BS.out)
    |(go_at_call 76;refine (l6In_calls _ _ _ _).mono ?_;(first|rw [H1.out]);rintro e w9 ⟨rfl,rfl⟩))
    go_ret
    have hr:sysOk p s=false:=by
     rw [HU.out,PO.out,CL.out,show inB (s.tasks.length:Int) 1 7=false from H1.out];simp only [Bool.true_and,Bool.false_and,Bool.and_false,Bool.and_true,Bool.and_self]
    rw [hr]
    exact ⟨rfl,HB.out⟩
   | true=>
    cases bH2 with
    | false=>
     go_wp2_with (first
     |((with_reducible refine gate_dst (N:=2) rfl ?_);refine box_event rfl (N:=2) rfl (t:=36) (by go_simp<;>rfl) ?_;intro gp hg w2 hbox hb;have BP:=am hbox;clear hbox hg;have HB2:=am hb;clear hb;have HB:=HB2;clear HB2;have BPc:=zc8 BP.out)
     |((with_reducible refine gate_dst (N:=3) rfl ?_);refine box_event rfl (N:=3) rfl (t:=42) (by go_simp<;>rfl) ?_;intro gs hg w3 hbox hb;have BS:=am hbox;clear hbox hg;replace BP:=am (zb8 BP.out hb);replace HB:=am (below_step HB.out hb);clear hb BPc;have BPc:=zc8 BP.out;have BSc:=zc8 BS.out)
     |((with_reducible refine gate_dst (N:=6) rfl ?_);refine wpList_load_mid rfl 36 (.tmp 2) rfl gp 0 rfl _ _ (lC BP.out) Tryz.underlying36 rfl (by kernel_rfl) ?_)
     |(go_at_call 75;refine (progOk_calls p _ _ (kProg.K_below HB.out HPK.out) HPZ.out).mono ?_;rw [PO.out];rintro e w9 ⟨rfl,hb⟩;replace BP:=am (zb8 BP.out hb);replace BS:=am (zb8 BS.out hb);replace HB:=am (below_step HB.out hb);clear hb BPc BSc;have BPc:=zc8 BP.out;have BSc:=zc8 BS.out)
     |(go_at_call 76;refine (l6In_calls _ _ _ _).mono ?_;(first|rw [H1.out] | rw [H2.out]);rintro e w9 ⟨rfl,rfl⟩))
     go_ret
     have hr:sysOk p s=false:=by
      rw [HU.out,PO.out,CL.out,show inB (s.tasks.length:Int) 1 7=true from H1.out,show inB s.clock 0 200=false from H2.out];simp only [Bool.true_and,Bool.false_and,Bool.and_false,Bool.and_true,Bool.and_self]
     rw [hr]
     exact ⟨rfl,HB.out⟩
    | true=>
     have hk0:=(inB_iff.1 (show inB s.clock 0 200=true from H2.out)).1;have hk1:=(inB_iff.1 (show inB s.clock 0 200=true from H2.out)).2
     go_wp2_with (first
     |((with_reducible refine gate_dst (N:=2) rfl ?_);refine box_event rfl (N:=2) rfl (t:=36) (by go_simp<;>rfl) ?_;intro gp hg w2 hbox hb;have BP:=am hbox;clear hbox hg;have HB2:=am hb;clear hb;have HB:=HB2;clear HB2;have BPc:=zc8 BP.out)
     |((with_reducible refine gate_dst (N:=3) rfl ?_);refine box_event rfl (N:=3) rfl (t:=42) (by go_simp<;>rfl) ?_;intro gs hg w3 hbox hb;have BS:=am hbox;clear hbox hg;replace BP:=am (zb8 BP.out hb);replace HB:=am (below_step HB.out hb);clear hb BPc;have BPc:=zc8 BP.out;have BSc:=zc8 BS.out)
     |((with_reducible refine gate_dst (N:=6) rfl ?_);refine wpList_load_mid rfl 36 (.tmp 2) rfl gp 0 rfl _ _ (lC BP.out) Tryz.underlying36 rfl (by kernel_rfl) ?_)
     |(go_at_call 75;refine (progOk_calls p _ _ (kProg.K_below HB.out HPK.out) HPZ.out).mono ?_;rw [PO.out];rintro e w9 ⟨rfl,hb⟩;replace BP:=am (zb8 BP.out hb);replace BS:=am (zb8 BS.out hb);replace HB:=am (below_step HB.out hb);clear hb BPc BSc;have BPc:=zc8 BP.out;have BSc:=zc8 BS.out)
     |(go_at_call 76;refine (l6In_calls _ _ _ _).mono ?_;(first|rw [H1.out] | rw [H2.out]);rintro e w9 ⟨rfl,rfl⟩))
     go_loopw [5] (fun j w'=>∃ k:Nat,k<=s.tasks.length/\j= .int .i64 k/\Aside0 (∀ i,i < k->taskOk p s i=true)/\Aside0 (w'.heap[gp]? = some (.cells #[.slice Ac p.cells.length cc,.slice Ab p.bodies.length cb] 36 (0,0)))/\Aside0 (w'.heap[gs]? = some (.cells #[.slice A0 s.cells.length c0,.slice A1 s.tasks.length c1,.int .i64 s.clock,.slice A3 s.log.length c3] 42 (0,0)))/\Aside0 (Below w.heap.size w w')) (fun j _=>s.tasks.length - (intOf j).toNat)
     case atStart=>exact ⟨0,Nat.zero_le _,rfl,⟨fun i hi=>by omega⟩,BP,BS,HB⟩
     case round=>
      clear BP BS HB BPc BSc;obtain ⟨k,hk,rfl,HJ,BP,BS,HB⟩:=hrel;have BPc:=zc8 BP.out;have BSc:=zc8 BS.out;by_cases hlt:k < s.tasks.length
      ·obtain ⟨bTO,hbTO⟩:∃ x,taskOk p s k=x:=⟨_,rfl⟩
       have TO:=am hbTO;clear hbTO;have q1:(k:Int) < (s.tasks.length:Int):=by omega
       cases bTO with
       | false=>
        go_wp2_with (first
        |((with_reducible refine gate_dst (N:=38) rfl ?_);refine wpList_load_mid rfl 36 (.tmp 2) rfl gp 0 rfl _ _ (lC BP.out) Tryz.underlying36 rfl (by kernel_rfl) ?_)
        |((with_reducible refine gate_dst (N:=39) rfl ?_);refine wpList_load_mid rfl 42 (.tmp 3) rfl gs 0 rfl _ _ (lC BS.out) Tryz.underlying42 rfl (by kernel_rfl) ?_)
        |(go_at_call 77;refine (l12Task_calls p _ s _ k _ (kProg.K_below HB.out HPK.out) (kSys.K_below HB.out HSK.out) HPZ.out hlt HSZ.out.tasks HSZ.out.cells HSZ.out.log hk0 hk1 (HSZ.out.task k hlt)).mono ?_;rw [TO.out];rintro e w9 ⟨rfl,hb⟩;replace BP:=am (zb8 BP.out hb);replace BS:=am (zb8 BS.out hb);replace HB:=am (below_step HB.out hb);clear hb BPc BSc;have BPc:=zc8 BP.out;have BSc:=zc8 BS.out))
        go_ret
        have hr:sysOk p s=false:=by
         rw [HU.out,PO.out,CL.out,show inB (s.tasks.length:Int) 1 7=true from H1.out,show inB s.clock 0 200=true from H2.out,allB_no hlt TO.out];simp only [Bool.true_and,Bool.false_and,Bool.and_false,Bool.and_true,Bool.and_self]
        rw [hr]
        exact ⟨rfl,HB.out⟩
       | true=>
        go_wp2_with (first
        |((with_reducible refine gate_dst (N:=38) rfl ?_);refine wpList_load_mid rfl 36 (.tmp 2) rfl gp 0 rfl _ _ (lC BP.out) Tryz.underlying36 rfl (by kernel_rfl) ?_)
        |((with_reducible refine gate_dst (N:=39) rfl ?_);refine wpList_load_mid rfl 42 (.tmp 3) rfl gs 0 rfl _ _ (lC BS.out) Tryz.underlying42 rfl (by kernel_rfl) ?_)
        |(go_at_call 77;refine (l12Task_calls p _ s _ k _ (kProg.K_below HB.out HPK.out) (kSys.K_below HB.out HSK.out) HPZ.out hlt HSZ.out.tasks HSZ.out.cells HSZ.out.log hk0 hk1 (HSZ.out.task k hlt)).mono ?_;rw [TO.out];rintro e w9 ⟨rfl,hb⟩;replace BP:=am (zb8 BP.out hb);replace BS:=am (zb8 BS.out hb);replace HB:=am (below_step HB.out hb);clear hb BPc BSc;have BPc:=zc8 BP.out;have BSc:=zc8 BS.out))
        go_roundw
        case rel=>exact ⟨k+1,by omega,by go_num,⟨fun i hi=>by rcases Nat.lt_or_ge i k with h | h;exact HJ.out i h;obtain rfl:k=i:=(by omega);exact TO.out⟩,BP,BS,HB⟩
        case measure=>simp [intOf];omega
      ·obtain rfl:k=s.tasks.length:=by omega
       have AL:=am (allB_iff.2 HJ.out);have HBD:Aside0 (∀ i,i < s.tasks.length->0<=(taskAt s.tasks i).body/\(taskAt s.tasks i).body < p.bodies.length):=⟨fun i hi=>by have h:=HJ.out i hi;simp only [taskOk,Bool.and_eq_true,inB_iff] at h;omega⟩;have q1:¬ (s.tasks.length:Int) < (s.tasks.length:Int):=by omega
       cases bCE with
       | false=>
        go_wp2_with (first
        |((with_reducible refine gate_dst (N:=43) rfl ?_);refine wpList_load_mid rfl 42 (.tmp 3) rfl gs 0 rfl _ _ (lC BS.out) Tryz.underlying42 rfl (by kernel_rfl) ?_)
        |((with_reducible refine gate_dst (N:=46) rfl ?_);refine wpList_load_mid rfl 36 (.tmp 2) rfl gp 0 rfl _ _ (lC BP.out) Tryz.underlying36 rfl (by kernel_rfl) ?_)
        |((with_reducible refine gate_dst (N:=47) rfl ?_);refine wpList_load_mid rfl 42 (.tmp 3) rfl gs 0 rfl _ _ (lC BS.out) Tryz.underlying42 rfl (by kernel_rfl) ?_)
        |(go_at_call 78;refine (l12Cells_calls s _ _ (kSys.K_below HB.out HSK.out) HSZ.out.cells HSZ.out.tasks (fun i hi=>(HSZ.out.task i hi).2.2.2)).mono ?_;rw [CE.out];rintro e w9 ⟨rfl,hb⟩;replace BP:=am (zb8 BP.out hb);replace BS:=am (zb8 BS.out hb);replace HB:=am (below_step HB.out hb);clear hb BPc BSc;have BPc:=zc8 BP.out;have BSc:=zc8 BS.out))
        go_ret
        have hr:sysOk p s=false:=by
         rw [HU.out,PO.out,CL.out,show inB (s.tasks.length:Int) 1 7=true from H1.out,show inB s.clock 0 200=true from H2.out,AL.out,CE.out];simp only [Bool.true_and,Bool.false_and,Bool.and_false,Bool.and_true,Bool.and_self]
        rw [hr]
        exact ⟨rfl,HB.out⟩
       | true=>
        go_wp2_with (first
        |((with_reducible refine gate_dst (N:=43) rfl ?_);refine wpList_load_mid rfl 42 (.tmp 3) rfl gs 0 rfl _ _ (lC BS.out) Tryz.underlying42 rfl (by kernel_rfl) ?_)
        |((with_reducible refine gate_dst (N:=46) rfl ?_);refine wpList_load_mid rfl 36 (.tmp 2) rfl gp 0 rfl _ _ (lC BP.out) Tryz.underlying36 rfl (by kernel_rfl) ?_)
        |((with_reducible refine gate_dst (N:=47) rfl ?_);refine wpList_load_mid rfl 42 (.tmp 3) rfl gs 0 rfl _ _ (lC BS.out) Tryz.underlying42 rfl (by kernel_rfl) ?_)
        |(go_at_call 78;refine (l12Cells_calls s _ _ (kSys.K_below HB.out HSK.out) HSZ.out.cells HSZ.out.tasks (fun i hi=>(HSZ.out.task i hi).2.2.2)).mono ?_;rw [CE.out];rintro e w9 ⟨rfl,hb⟩;replace BP:=am (zb8 BP.out hb);replace BS:=am (zb8 BS.out hb);replace HB:=am (below_step HB.out hb);clear hb BPc BSc;have BPc:=zc8 BP.out;have BSc:=zc8 BS.out)
        |(go_at_call 79;refine (l12Log_calls p _ s _ _ (kProg.K_below HB.out HPK.out) (kSys.K_below HB.out HSK.out) HPZ.out HSZ.out.cells HSZ.out.tasks HSZ.out.log HSZ.out.logs HBD.out).mono ?_;rw [LO.out];rintro e w9 ⟨rfl,hb⟩;replace BP:=am (zb8 BP.out hb);replace BS:=am (zb8 BS.out hb);replace HB:=am (below_step HB.out hb);clear hb BPc BSc;have BPc:=zc8 BP.out;have BSc:=zc8 BS.out))
        go_ret
        have hr:sysOk p s=bLO:=by
         rw [HU.out,PO.out,CL.out,show inB (s.tasks.length:Int) 1 7=true from H1.out,show inB s.clock 0 200=true from H2.out,AL.out,CE.out,LO.out];simp only [Bool.true_and,Bool.false_and,Bool.and_false,Bool.and_true,Bool.and_self]
        rw [hr];exact ⟨rfl,HB.out⟩
  ·have ycl:((s.cells.length:Int) != (p.cells.length:Int))=true:=by simp;omega
   have CL:=am (decide_eq_false clx);clear clx
   go_wp2_with (first
   |((with_reducible refine gate_dst (N:=2) rfl ?_);refine box_event rfl (N:=2) rfl (t:=36) (by go_simp<;>rfl) ?_;intro gp hg w2 hbox hb;have BP:=am hbox;clear hbox hg;have HB2:=am hb;clear hb;have HB:=HB2;clear HB2;have BPc:=zc8 BP.out)
   |((with_reducible refine gate_dst (N:=3) rfl ?_);refine box_event rfl (N:=3) rfl (t:=42) (by go_simp<;>rfl) ?_;intro gs hg w3 hbox hb;have BS:=am hbox;clear hbox hg;replace BP:=am (zb8 BP.out hb);replace HB:=am (below_step HB.out hb);clear hb BPc;have BPc:=zc8 BP.out;have BSc:=zc8 BS.out)
   |((with_reducible refine gate_dst (N:=6) rfl ?_);refine wpList_load_mid rfl 36 (.tmp 2) rfl gp 0 rfl _ _ (lC BP.out) Tryz.underlying36 rfl (by kernel_rfl) ?_)
   |(go_at_call 75;refine (progOk_calls p _ _ (kProg.K_below HB.out HPK.out) HPZ.out).mono ?_;rw [PO.out];rintro e w9 ⟨rfl,hb⟩;replace BP:=am (zb8 BP.out hb);replace BS:=am (zb8 BS.out hb);replace HB:=am (below_step HB.out hb);clear hb BPc BSc;have BPc:=zc8 BP.out;have BSc:=zc8 BS.out))
   go_ret
   have hr:sysOk p s=false:=by
    rw [HU.out,PO.out,CL.out];simp only [Bool.true_and,Bool.false_and,Bool.and_false,Bool.and_true,Bool.and_self]
   rw [hr];exact ⟨rfl,HB.out⟩
theorem isReg_calls (x:Int) (w:World):Calls Tryz.prog 192 #[.int .i64 x] w fun e w'=>e= .returned (.bool (decide (0<=x) && decide (x < 3)))/\w=w':=by
 go_enter Tryz.func192,Tryz.ntmps192
 go_wp2_with (first
 |(go_at_call 136;refine (isPlace_calls _ _ _).mono ?_;rintro e w9 ⟨rfl,rfl⟩))
 go_ret;exact ⟨rfl,rfl⟩
theorem isNum_calls (x:Int) (w:World):Calls Tryz.prog 167 #[.int .i64 x] w fun e w'=>e= .returned (.bool (decide (0<=x) && decide (x < 100)))/\w=w':=by
 go_enter Tryz.func167,Tryz.ntmps167
 go_wp2_with (first
 |(go_at_call 136;refine (isPlace_calls _ _ _).mono ?_;rintro e w9 ⟨rfl,rfl⟩))
 go_ret;exact ⟨rfl,rfl⟩
theorem num_in (x:Int):(decide (0<=x) && decide (x < 100))=inB x 0 99:=by
 rw [Bool.eq_iff_iff,inB_iff];simp;omega
def numsB (xs:List Int):Bool:=allB xs.length fun i=>inB (numAt xs i) 0 99
theorem allNums_calls (A:Option Addr) (c:Nat) (xs:List Int) (w:World) (hx:(Kd.int .i64).C w A xs.length xs) (hn:xs.length<=1048576):
  Calls Tryz.prog 163 #[.slice A xs.length c] w fun e w'=>e= .returned (.bool (numsB xs))/\w=w':=by
 have HX:=am hx;clear hx;go_enter Tryz.func163,Tryz.ntmps163;go_wp2;go_loopw [7] (fun j w'=>∃ k:Nat,k<=xs.length/\j= .int .i64 k/\Aside0 (∀ i,i < k->inB (numAt xs i) 0 99=true)/\Aside0 (w=w')) (fun j _=>xs.length - (intOf j).toNat)
 case atStart=>exact ⟨0,Nat.zero_le _,rfl,⟨fun i hi=>by omega⟩,⟨rfl⟩⟩
 case round=>
  obtain ⟨k,hk,rfl,HJ,HW⟩:=hrel;have hw:=HW.out;subst hw;by_cases hlt:k < xs.length
  ·have q0:(0:Int)<=(k:Int):=by omega
   have q1:(k:Int) < (xs.length:Int):=by omega
   obtain ⟨ad,ed,hx⟩:=Kd.at_int HX.out (k:Int) q0 q1;cases ed;simp only [Int.toNat_natCast] at hx;obtain ⟨x,hxx⟩:∃ x,x=numAt xs k:=⟨_,rfl⟩;have hx2:rd xs (k:Int)=x:=by rw [hxx];rfl
   rw [hx2] at hx;have HXX:=am hxx;clear hx2 hxx
   cases hb:inB x 0 99 with
   | false=>
    have H1:Aside0 ((decide (0<=x) && decide (x < 100))=false):=⟨by rw [num_in,hb]⟩;have HB:=am hb;clear hb
    go_wp2_with (first
    |(go_at_call 167;refine (isNum_calls _ _).mono ?_;rw [H1.out];rintro e w9 ⟨rfl,rfl⟩))
    go_ret;have hr:numsB xs=false:=allB_no hlt (by rw [<-HXX.out];exact HB.out);rw [hr]
    exact ⟨rfl,rfl⟩
   | true=>
    have H1:Aside0 ((decide (0<=x) && decide (x < 100))=true):=⟨by rw [num_in,hb]⟩;have HB:=am hb;clear hb
    go_wp2_with (first
    |(go_at_call 167;refine (isNum_calls _ _).mono ?_;rw [H1.out];rintro e w9 ⟨rfl,rfl⟩))
    go_roundw
    case rel=>exact ⟨k+1,by omega,by go_num,⟨fun i hi=>by rcases Nat.lt_or_ge i k with h | h;exact HJ.out i h;obtain rfl:i=k:=(by omega);rw [<-HXX.out];exact HB.out⟩,⟨by first|rfl | trivial⟩⟩
    case measure=>simp [intOf];omega
  ·obtain rfl:k=xs.length:=by omega
   have q1:¬ (xs.length:Int) < (xs.length:Int):=by omega
   go_wp2;go_ret;have hr:numsB xs=true:=allB_iff.2 HJ.out;rw [hr];exact ⟨rfl,rfl⟩
theorem regsOk_calls (A:Option Addr) (c:Nat) (xs:List Int) (w:World) (hx:(Kd.int .i64).C w A xs.length xs) (hn:xs.length<=1048576):
  Calls Tryz.prog 168 #[.slice A xs.length c] w fun e w'=>e= .returned (.bool (numsOk xs 3))/\w=w':=by
 have HX:=am hx;have HN:=am hn;clear hx hn;go_enter Tryz.func168,Tryz.ntmps168;by_cases h3:(xs.length:Int)=3
 ·have y0:((xs.length:Int) == 3)=true:=by simp [h3]
  have hr:numsOk xs 3=numsB xs:=by unfold numsOk numsB;rw [decide_eq_true h3,Bool.and_true]
  have HR:=am hr;clear hr h3
  go_wp2_with (first
  |(go_at_call 163;refine (allNums_calls _ _ _ _ HX.out HN.out).mono ?_;rintro e w9 ⟨rfl,rfl⟩))
  go_ret;rw [HR.out];exact ⟨rfl,rfl⟩
 ·have y0:((xs.length:Int) == 3)=false:=by simpa using h3
  have hr:numsOk xs 3=false:=by unfold numsOk;rw [decide_eq_false h3,Bool.and_false]
  have HR:=am hr;clear hr h3;go_wp2;go_ret;rw [HR.out];exact ⟨rfl,rfl⟩
theorem place_in (x n:Int):(decide (0<=x) && decide (x < n))=inB x 0 (n - 1):=by
 rw [Bool.eq_iff_iff,inB_iff];simp;omega
theorem putsOk_calls (A:Option Addr) (c:Nat) (xs:List Put) (n:Int) (w:World) (hx:kPut.C w A xs.length xs) (hn:xs.length<=1048576):
  Calls Tryz.prog 169 #[.slice A xs.length c,.int .i64 n] w fun e w'=>e= .returned (.bool (listOk xs n))/\Below w.heap.size w w':=by
 obtain ⟨b,o,hA,hcell⟩:=put_cells hx;have HC:=am hcell;have HX:=am hx;have M:=am (Own.nil w);have C:=M.out.cl;clear hx hcell;go_enter Tryz.func169,Tryz.ntmps169;go_wp2;go_loopw [5,6,9] (fun _ _ j w'=>∃ k:Nat,k<=xs.length/\j= .int .i64 k/\Aside0 (∀ i,i < k->(inB (putAt xs i).cell 0 (n - 1) && inB (putAt xs i).num 0 99 && (decide (i=0) || decide ((putAt xs (i - 1)).cell < (putAt xs i).cell)))=true)/\Aside0 (Own w w' [])) (fun _ _ j _=>xs.length - (intOf j).toNat)
 case atStart=>exact ⟨0,Nat.zero_le _,rfl,⟨fun i hi=>by omega⟩,M⟩
 case round=>
  obtain ⟨k,hk,rfl,HJ,M2⟩:=hrel;clear M C;have M:=M2;clear M2;have C:=M.out.cl;simp only [Cl] at C;by_cases hlt:k < xs.length
  ·obtain rfl:=hA (by omega)
   have q0:(0:Int)<=(k:Int):=by omega
   have q1:(k:Int) < (xs.length:Int):=by omega
   obtain ⟨b',o',cs,eb,hcl,hK,hcc,-⟩:=C_field HX.out zPut k hlt (by decide);cases eb;obtain ⟨x,hxx⟩:∃ x,x=putAt xs k:=⟨_,rfl⟩;rw [show xs.getD k zPut=x from hxx.symm] at hK;have e2:=kPut_open hK;subst e2;have HCC:=am hcc;have HXX:=am hxx;obtain ⟨b1,y1⟩:∃ b,(decide (0<=x.cell) && decide (x.cell < n))=b:=⟨_,rfl⟩;obtain ⟨b2,y2⟩:∃ b,(decide (0<=x.num) && decide (x.num < 100))=b:=⟨_,rfl⟩;have H1:Aside0 (inB x.cell 0 (n - 1)=b1):=⟨by rw [<-y1,place_in]⟩;have H2:Aside0 (inB x.num 0 99=b2):=⟨by rw [<-y2,num_in]⟩;have Y1:=am y1;have Y2:=am y2;clear hcl hK hcc hxx y1 y2
   go_wp2_with (first
   |((first|with_reducible refine gB ?_ | with_reducible refine gA ?_);refine oB rfl M.out ?_;clear M C;intro g W M C;simp only [Cl] at C)
   |((with_reducible refine gL ?_);refine oR rfl rfl M.out HCC.out ?_)
   |((with_reducible refine gS ?_);refine oS rfl rfl rfl M.out ?_;clear M C;intro W M C;simp only [Cl] at C))
   cases b1
   case false=>
    refine dS M.out ?_;clear M C;intro W M;refine dN [0,1,2] M.out ?_;iterate 3 (first|refine sP rfl ?_ | refine sG rfl ?_ | refine sU rfl ?_ | refine sN rfl ?_)
    refine stillS_nil ?_;refine dC 3 rfl ?_;refine oEb (isPlace_calls _ _ _) Y1.out ?_;refine ⟨_,rfl,M,dA ?_⟩;refine dN [4,5,6,7] M.out ?_;iterate 4 (first|refine sP rfl ?_ | refine sG rfl ?_ | refine sU rfl ?_ | refine sN rfl ?_)
    refine stillS_nil ?_;refine dU 8 rfl rfl M.out (dA ?_);refine dN [9,10,11,12,13,14,15,16,17,18,19,20,21,22,23,24,25] M.out ?_;iterate 17 (first|refine sP rfl ?_ | refine sG rfl ?_ | refine sU rfl ?_ | refine sN rfl ?_)
    refine stillS_nil ?_;refine dD ?_;have C:=M.out.cl;simp only [Cl] at C;go_wp2;go_ret;rw [show listOk xs n=false from allB_no hlt (by rw [<-HXX.out,H1.out,Bool.false_and,Bool.false_and])];exact ⟨rfl,M.out.below⟩
   cases b2
   case false=>
    refine dS M.out ?_;clear M C;intro W M;refine dN [0,1,2] M.out ?_;iterate 3 (first|refine sP rfl ?_ | refine sG rfl ?_ | refine sU rfl ?_ | refine sN rfl ?_)
    refine stillS_nil ?_;refine dC 3 rfl ?_;refine oEb (isPlace_calls _ _ _) Y1.out ?_;refine ⟨_,rfl,M,dA ?_⟩;refine dN [4,5,6,7] M.out ?_;iterate 4 (first|refine sP rfl ?_ | refine sG rfl ?_ | refine sU rfl ?_ | refine sN rfl ?_)
    refine stillS_nil ?_;refine dC 8 rfl ?_;refine oEb (isNum_calls _ _) Y2.out ?_;refine ⟨_,rfl,M,dA ?_⟩;refine dN [9,10,11,12,13,14,15,16,17,18,19,20,21,22,23,24,25] M.out ?_;iterate 17 (first|refine sP rfl ?_ | refine sG rfl ?_ | refine sU rfl ?_ | refine sN rfl ?_)
    refine stillS_nil ?_;refine dD ?_;have C:=M.out.cl;simp only [Cl] at C;go_wp2;go_ret;rw [show listOk xs n=false from allB_no hlt (by rw [<-HXX.out,H2.out,Bool.and_false,Bool.false_and])];exact ⟨rfl,M.out.below⟩
   by_cases hk0:k=0
   ·have y0:decide ((0:Int) < (k:Int))=false:=decide_eq_false (by omega)
    have y0':decide (0 < k)=false:=decide_eq_false (by omega);refine dS M.out ?_;clear M C;intro W M;refine dN [0,1,2] M.out ?_;iterate 3 (first|refine sP rfl ?_ | refine sG rfl ?_ | refine sU rfl ?_ | refine sN rfl ?_)
    refine stillS_nil ?_;refine dC 3 rfl ?_;refine oEb (isPlace_calls _ _ _) Y1.out ?_;refine ⟨_,rfl,M,dA ?_⟩;refine dN [4,5,6,7] M.out ?_;iterate 4 (first|refine sP rfl ?_ | refine sG rfl ?_ | refine sU rfl ?_ | refine sN rfl ?_)
    refine stillS_nil ?_;refine dC 8 rfl ?_;refine oEb (isNum_calls _ _) Y2.out ?_;refine ⟨_,rfl,M,dA ?_⟩;refine dN [9,10,11,12,13,14,15,16,17,18,19,20,21,22,23,24,25] M.out ?_;iterate 17 (first|refine sP rfl ?_ | refine sG rfl ?_ | refine sU rfl ?_ | refine sN rfl ?_)
    refine stillS_nil ?_;refine dD ?_;have C:=M.out.cl;simp only [Cl] at C;go_wp2;go_roundw
    case rel=>exact ⟨k+1,by omega,by go_num,⟨fun i hi=>by rcases Nat.lt_or_ge i k with h | h;exact HJ.out i h;obtain rfl:i=k:=(by omega);rw [<-HXX.out,H1.out,H2.out,decide_eq_true hk0,Bool.true_or];rfl⟩,⟨M.out.pop⟩⟩
    case measure=>simp [intOf];omega
   ·have y0:decide ((0:Int) < (k:Int))=true:=decide_eq_true (by omega)
    have y0':decide (0 < k)=true:=decide_eq_true (by omega);obtain ⟨xp,hxp⟩:∃ x,x=putAt xs (k - 1):=⟨_,rfl⟩;have p0:=(HC.out (k - 1) (by omega)).1;rw [<-hxp] at p0;have HXP:=am hxp;have s0:(0:Int)<=(k:Int) - 1:=by omega
    have s1:(k:Int) - 1 < (xs.length:Int):=by omega
    have s2:((k:Int) - 1).toNat=k - 1:=by omega
    have s3:(1:Int)<=(k:Int):=by omega
    have s4:1<=k:=by omega
    have w2:wrap64 ((k:Int) - 1)=(k:Int) - 1:=by unfold wrap64;omega
    replace M:=am (M.out.far p0);clear C;have C:=M.out.cl;simp only [Cl] at C;clear p0 hxp;obtain ⟨b3,y3⟩:∃ b,decide (x.cell<=xp.cell)=b:=⟨_,rfl⟩;have Y3:=am y3;cases b3
    ·refine dS M.out ?_
     clear M C;intro W M;refine dN [0,1,2] M.out ?_;iterate 3 (first|refine sP rfl ?_ | refine sG rfl ?_ | refine sU rfl ?_ | refine sN rfl ?_)
     refine stillS_nil ?_;refine dC 3 rfl ?_;refine oEb (isPlace_calls _ _ _) Y1.out ?_;refine ⟨_,rfl,M,dA ?_⟩;refine dN [4,5,6,7] M.out ?_;iterate 4 (first|refine sP rfl ?_ | refine sG rfl ?_ | refine sU rfl ?_ | refine sN rfl ?_)
     refine stillS_nil ?_;refine dC 8 rfl ?_;refine oEb (isNum_calls _ _) Y2.out ?_;refine ⟨_,rfl,M,dA ?_⟩;refine dN [9,10,11,12,13,14,15,16,17,18,19,20,21,22,23,24,25] M.out ?_;iterate 17 (first|refine sP rfl ?_ | refine sG rfl ?_ | refine sU rfl ?_ | refine sN rfl ?_)
     refine stillS_nil ?_;refine dD ?_;have C:=M.out.cl;simp only [Cl] at C;go_wp2;go_roundw
     case rel=>exact ⟨k+1,by omega,by go_num,⟨fun i hi=>by rcases Nat.lt_or_ge i k with h | h;exact HJ.out i h;obtain rfl:i=k:=(by omega);rw [<-HXX.out,H1.out,H2.out,<-HXP.out,decide_eq_true (show xp.cell < x.cell from Int.not_le.1 (of_decide_eq_false Y3.out)),Bool.or_true];rfl⟩,⟨M.out.pop.pop⟩⟩
     case measure=>simp [intOf];omega
    ·refine dS M.out ?_
     clear M C;intro W M;refine dN [0,1,2] M.out ?_;iterate 3 (first|refine sP rfl ?_ | refine sG rfl ?_ | refine sU rfl ?_ | refine sN rfl ?_)
     refine stillS_nil ?_;refine dC 3 rfl ?_;refine oEb (isPlace_calls _ _ _) Y1.out ?_;refine ⟨_,rfl,M,dA ?_⟩;refine dN [4,5,6,7] M.out ?_;iterate 4 (first|refine sP rfl ?_ | refine sG rfl ?_ | refine sU rfl ?_ | refine sN rfl ?_)
     refine stillS_nil ?_;refine dC 8 rfl ?_;refine oEb (isNum_calls _ _) Y2.out ?_;refine ⟨_,rfl,M,dA ?_⟩;refine dN [9,10,11,12,13,14,15,16,17,18,19,20,21,22,23,24,25] M.out ?_;iterate 17 (first|refine sP rfl ?_ | refine sG rfl ?_ | refine sU rfl ?_ | refine sN rfl ?_)
     refine stillS_nil ?_;refine dD ?_;have C:=M.out.cl;simp only [Cl] at C;go_wp2;go_ret;rw [show listOk xs n=false from allB_no hlt (by rw [<-HXX.out,<-HXP.out,decide_eq_false hk0,decide_eq_false (show ¬ xp.cell < x.cell from Int.not_lt.2 (of_decide_eq_true Y3.out)),Bool.false_or,Bool.and_false])];exact ⟨rfl,M.out.below⟩
  ·obtain rfl:k=xs.length:=by omega
   have q1:¬ (xs.length:Int) < (xs.length:Int):=by omega
   go_wp2;go_ret;rw [show listOk xs n=true from allB_iff.2 HJ.out];exact ⟨rfl,M.out.below⟩
def cellsB (s:Sys):Bool:=allB s.cells.length fun i=>(inB (cellAt s.cells i).num 0 99 && inB (cellAt s.cells i).time 0 s.clock)
theorem cellsOk_calls (s:Sys) (ss:List Value) (w:World) (hs:kSys.K w s ss) (hm:s.cells.length<=1048576):
  Calls Tryz.prog 126 #[.agg ss.toArray] w fun e w'=>e= .returned (.bool (cellsB s))/\Below w.heap.size w w':=by
 obtain ⟨A0,c0,A1,c1,A3,c3,rfl,-,g0,-,-,-⟩:=kSys_open hs;have G0:=am g0;clear hs g0;go_enter Tryz.func126,Tryz.ntmps126
 go_wp2_with (first
 |((with_reducible refine gate_dst (N:=1) rfl ?_);refine box_event rfl (N:=1) rfl (t:=42) (by go_simp<;>rfl) ?_;intro gs hg w2 hbox hb;have BS:=am hbox;have HB:=am hb;have BSc:=zc8 BS.out;clear hbox hb hg))
 go_loopw [8] (fun j w'=>∃ k:Nat,k<=s.cells.length/\j= .int .i64 k/\Aside0 (∀ i,i < k->(inB (cellAt s.cells i).num 0 99 && inB (cellAt s.cells i).time 0 s.clock)=true)/\Aside0 (w'.heap[gs]? = some (.cells #[.slice A0 s.cells.length c0,.slice A1 s.tasks.length c1,.int .i64 s.clock,.slice A3 s.log.length c3] 42 (0,0)))/\Aside0 (Below w.heap.size w w')) (fun j _=>s.cells.length - (intOf j).toNat)
 case atStart=>exact ⟨0,Nat.zero_le _,rfl,⟨fun i hi=>by omega⟩,BS,HB⟩
 case round=>
  clear BS HB BSc;obtain ⟨k,hk,rfl,HJ,BS,HB⟩:=hrel;have BSc:=zc8 BS.out;by_cases hlt:k < s.cells.length
  ·obtain ⟨bc,oc,cs,rfl,hcl,hK,hcc,-⟩:=C_field G0.out zCell k hlt (by decide)
   obtain ⟨c,hcx⟩:∃ x,x=cellAt s.cells k:=⟨_,rfl⟩;rw [show s.cells.getD k zCell=c from hcx.symm] at hK;have e:=kCell_open hK;subst e;have HC:=am hcc;have CX:=am hcx;have q0:(0:Int)<=(k:Int):=by omega
   have q1:(k:Int) < (s.cells.length:Int):=by omega
   clear hcl hK hcc hcx
   cases hb1:inB c.num 0 99 with
   | false=>
    have H1:Aside0 ((decide (0<=c.num) && decide (c.num < 100))=false):=⟨by rw [num_in,hb1]⟩;have H1b:=am hb1;clear hb1
    go_wp2_with (first
    |((with_reducible refine gate_dst (N:=11) rfl ?_);refine wpList_load_mid rfl 63 (.tmp 10) rfl bc (oc+k*3) rfl _ _ (fun j u hu=>cellB HB.out (HC.out j u hu)) Tryz.underlying63 rfl (by kernel_rfl) ?_)|((with_reducible refine gate_dst (N:=4) rfl ?_);refine box_event rfl (N:=4) rfl (t:=63) (by go_simp<;>rfl) ?_;intro gc hg wt hbox hb;have BC0:=am hbox;have GC:=am hg;have HBT:=am hb;clear hbox hb hg)|((with_reducible refine gate_store (t:=63) (p:=4) rfl ?_);refine store_block rfl rfl 63 (.tmp 4) (.tmp 11) rfl rfl rfl BC0.out rfl (by kernel_rfl) (aB rfl) ?_;intro wn hbox hg;have BC:=am hbox;have hbx:=pw_below_grown HBT.out _ HBT.out.size hg (fun z hz=>by cases hz;exact Nat.le_of_eq GC.out.symm);replace BS:=am (zb8 BS.out hbx);replace HB:=am (below_step HB.out hbx);clear BSc BC0 HBT hbx hbox hg;have BSc:=zc8 BS.out;have BCc:=zc8 BC.out)
    |(go_at_call 167;refine (isNum_calls _ _).mono ?_;rw [H1.out];rintro e w9 ⟨rfl,rfl⟩))
    go_ret;have hr:cellsB s=false:=allB_no hlt (by rw [<-CX.out,H1b.out,Bool.false_and]);rw [hr]
    exact ⟨rfl,HB.out⟩
   | true=>
    have H1:Aside0 ((decide (0<=c.num) && decide (c.num < 100))=true):=⟨by rw [num_in,hb1]⟩;have H1b:=am hb1;clear hb1;by_cases h0:c.time < 0
    ·have y0:decide (c.time < 0)=true:=decide_eq_true h0
     have H2:Aside0 (inB c.time 0 s.clock=false):=⟨by rw [Bool.eq_false_iff];intro h;have:=inB_iff.1 h;omega⟩;clear h0
     go_wp2_with (first
     |((with_reducible refine gate_dst (N:=11) rfl ?_);refine wpList_load_mid rfl 63 (.tmp 10) rfl bc (oc+k*3) rfl _ _ (fun j u hu=>cellB HB.out (HC.out j u hu)) Tryz.underlying63 rfl (by kernel_rfl) ?_)|((with_reducible refine gate_dst (N:=4) rfl ?_);refine box_event rfl (N:=4) rfl (t:=63) (by go_simp<;>rfl) ?_;intro gc hg wt hbox hb;have BC0:=am hbox;have GC:=am hg;have HBT:=am hb;clear hbox hb hg)|((with_reducible refine gate_store (t:=63) (p:=4) rfl ?_);refine store_block rfl rfl 63 (.tmp 4) (.tmp 11) rfl rfl rfl BC0.out rfl (by kernel_rfl) (aB rfl) ?_;intro wn hbox hg;have BC:=am hbox;have hbx:=pw_below_grown HBT.out _ HBT.out.size hg (fun z hz=>by cases hz;exact Nat.le_of_eq GC.out.symm);replace BS:=am (zb8 BS.out hbx);replace HB:=am (below_step HB.out hbx);clear BSc BC0 HBT hbx hbox hg;have BSc:=zc8 BS.out;have BCc:=zc8 BC.out)
     |(go_at_call 167;refine (isNum_calls _ _).mono ?_;rw [H1.out];rintro e w9 ⟨rfl,rfl⟩))
     go_ret;have hr:cellsB s=false:=allB_no hlt (by rw [<-CX.out,H2.out,Bool.and_false]);rw [hr];exact ⟨rfl,HB.out⟩
    ·have y0:decide (c.time < 0)=false:=decide_eq_false h0
     by_cases h1:s.clock < c.time
     ·have y1:decide (s.clock < c.time)=true:=decide_eq_true h1
      have H2:Aside0 (inB c.time 0 s.clock=false):=⟨by rw [Bool.eq_false_iff];intro h;have:=inB_iff.1 h;omega⟩;clear h0 h1
      go_wp2_with (first
      |((with_reducible refine gate_dst (N:=11) rfl ?_);refine wpList_load_mid rfl 63 (.tmp 10) rfl bc (oc+k*3) rfl _ _ (fun j u hu=>cellB HB.out (HC.out j u hu)) Tryz.underlying63 rfl (by kernel_rfl) ?_)|((with_reducible refine gate_dst (N:=4) rfl ?_);refine box_event rfl (N:=4) rfl (t:=63) (by go_simp<;>rfl) ?_;intro gc hg wt hbox hb;have BC0:=am hbox;have GC:=am hg;have HBT:=am hb;clear hbox hb hg)|((with_reducible refine gate_store (t:=63) (p:=4) rfl ?_);refine store_block rfl rfl 63 (.tmp 4) (.tmp 11) rfl rfl rfl BC0.out rfl (by kernel_rfl) (aB rfl) ?_;intro wn hbox hg;have BC:=am hbox;have hbx:=pw_below_grown HBT.out _ HBT.out.size hg (fun z hz=>by cases hz;exact Nat.le_of_eq GC.out.symm);replace BS:=am (zb8 BS.out hbx);replace HB:=am (below_step HB.out hbx);clear BSc BC0 HBT hbx hbox hg;have BSc:=zc8 BS.out;have BCc:=zc8 BC.out)
      |(go_at_call 167;refine (isNum_calls _ _).mono ?_;rw [H1.out];rintro e w9 ⟨rfl,rfl⟩))
      go_ret;have hr:cellsB s=false:=allB_no hlt (by rw [<-CX.out,H2.out,Bool.and_false]);rw [hr];exact ⟨rfl,HB.out⟩
     ·have y1:decide (s.clock < c.time)=false:=decide_eq_false h1
      have H2:Aside0 (inB c.time 0 s.clock=true):=⟨inB_iff.2 (by omega)⟩;clear h0 h1
      go_wp2_with (first
      |((with_reducible refine gate_dst (N:=11) rfl ?_);refine wpList_load_mid rfl 63 (.tmp 10) rfl bc (oc+k*3) rfl _ _ (fun j u hu=>cellB HB.out (HC.out j u hu)) Tryz.underlying63 rfl (by kernel_rfl) ?_)|((with_reducible refine gate_dst (N:=4) rfl ?_);refine box_event rfl (N:=4) rfl (t:=63) (by go_simp<;>rfl) ?_;intro gc hg wt hbox hb;have BC0:=am hbox;have GC:=am hg;have HBT:=am hb;clear hbox hb hg)|((with_reducible refine gate_store (t:=63) (p:=4) rfl ?_);refine store_block rfl rfl 63 (.tmp 4) (.tmp 11) rfl rfl rfl BC0.out rfl (by kernel_rfl) (aB rfl) ?_;intro wn hbox hg;have BC:=am hbox;have hbx:=pw_below_grown HBT.out _ HBT.out.size hg (fun z hz=>by cases hz;exact Nat.le_of_eq GC.out.symm);replace BS:=am (zb8 BS.out hbx);replace HB:=am (below_step HB.out hbx);clear BSc BC0 HBT hbx hbox hg;have BSc:=zc8 BS.out;have BCc:=zc8 BC.out)
      |(go_at_call 167;refine (isNum_calls _ _).mono ?_;rw [H1.out];rintro e w9 ⟨rfl,rfl⟩))
      go_roundw
      case rel=>exact ⟨k+1,by omega,by go_num,⟨fun i hi=>by rcases Nat.lt_or_ge i k with h | h;exact HJ.out i h;obtain rfl:i=k:=(by omega);rw [<-CX.out,H1b.out,H2.out];rfl⟩,BS,HB⟩
      case measure=>simp [intOf];omega
  ·obtain rfl:k=s.cells.length:=by omega
   have q1:¬ (s.cells.length:Int) < (s.cells.length:Int):=by omega
   go_wp2;go_ret;have hr:cellsB s=true:=allB_iff.2 HJ.out;rw [hr];exact ⟨rfl,HB.out⟩
theorem upOk_calls (s:Sys) (ss:List Value) (i:Nat) (w:World) (hs:kSys.K w s ss) (hi:i < s.tasks.length) (hn:s.tasks.length<=1048576):
  Calls Tryz.prog 129 #[.agg ss.toArray,.int .i64 i] w fun e w'=>e= .returned (.bool (upsOk s i))/\Below w.heap.size w w':=by
 obtain ⟨A0,c0,A1,c1,A3,c3,rfl,-,-,-,g1,-⟩:=kSys_open hs;have G1:=am g1;obtain ⟨b,o,cs,rfl,hcl,hK,hcc,-⟩:=C_field g1 zTask i hi (by decide);obtain ⟨t,ht⟩:∃ x,x=taskAt s.tasks i:=⟨_,rfl⟩;rw [show s.tasks.getD i zTask=t from ht.symm] at hK;have hK0:=hK;obtain ⟨B3,d3,B8,d8,B9,d9,B10,d10,rfl,-⟩:=kTask_open hK;have HCC:=am hcc;have HK:=am hK0;have q0:(0:Int)<=(i:Int):=by omega
 have q1:(i:Int) < (s.tasks.length:Int):=by omega
 have HU:Aside0 (upsOk s i=if i=0 then decide (t.up= -1) else inB t.up 0 (i - 1) && (!isLive t || decide ((taskAt s.tasks t.up.toNat).way=1))):=⟨by rw [ht];rfl⟩;clear hs g1 hcl hK hK0 hcc ht;go_enter Tryz.func129,Tryz.ntmps129;by_cases h0:i=0
 ·have y0:((i:Int) == 0)=true:=by simp [h0]
  have y0':(i == 0)=true:=by simp [h0]
  have H0:=am h0;clear h0
  go_wp2_with (first
  |((with_reducible refine gate_dst (N:=2) rfl ?_);refine box_event rfl (N:=2) rfl (t:=42) (by go_simp<;>rfl) ?_;intro gs hg w2 hbox hb;have BS:=am hbox;have HB:=am hb;have BSc:=zc8 BS.out;clear hbox hb hg)
  |((with_reducible refine gate_dst (N:=10) rfl ?_);refine wpList_load_mid rfl 59 (.tmp 9) rfl b (o+i*13) rfl _ _ (fun j u hu=>cellB HB.out (HCC.out j u hu)) Tryz.underlying59 rfl (by kernel_rfl) ?_)|((with_reducible refine gate_dst (N:=5) rfl ?_);refine box_event rfl (N:=5) rfl (t:=59) (by go_simp<;>rfl) ?_;intro gt hg wt hbox hb;have BT0:=am hbox;have GT:=am hg;have HBT:=am hb;clear hbox hb hg)|((with_reducible refine gate_store (t:=59) (p:=5) rfl ?_);refine store_block rfl rfl 59 (.tmp 5) (.tmp 10) rfl rfl rfl BT0.out rfl (by kernel_rfl) (aB rfl) ?_;intro wn hbox hg;have BT:=am hbox;have hbx:=pw_below_grown HBT.out _ HBT.out.size hg (fun z hz=>by cases hz;exact Nat.le_of_eq GT.out.symm);replace BS:=am (zb8 BS.out hbx);replace HB:=am (below_step HB.out hbx);clear BSc BT0 HBT hbx hbox hg;have BSc:=zc8 BS.out;have BTc:=zc8 BT.out))
  go_ret
  have hr:upsOk s i=(t.up == -1):=by
   rw [HU.out];rw [if_pos H0.out,Bool.eq_iff_iff,decide_eq_true_eq,beq_iff_eq]
  rw [hr];exact ⟨rfl,HB.out⟩
 ·have y0:((i:Int) == 0)=false:=by simp [h0]
  have y0':(i == 0)=false:=by simp [h0]
  have H0:=am h0;clear h0
  cases hb1:inB t.up 0 ((i:Int) - 1) with
  | false=>
   have H1:Aside0 ((decide (0<=t.up) && decide (t.up < (i:Int)))=false):=⟨by rw [place_in,hb1]⟩;have H1b:=am hb1;clear hb1
   go_wp2_with (first
   |((with_reducible refine gate_dst (N:=2) rfl ?_);refine box_event rfl (N:=2) rfl (t:=42) (by go_simp<;>rfl) ?_;intro gs hg w2 hbox hb;have BS:=am hbox;have HB:=am hb;have BSc:=zc8 BS.out;clear hbox hb hg)
   |((with_reducible refine gate_dst (N:=10) rfl ?_);refine wpList_load_mid rfl 59 (.tmp 9) rfl b (o+i*13) rfl _ _ (fun j u hu=>cellB HB.out (HCC.out j u hu)) Tryz.underlying59 rfl (by kernel_rfl) ?_)|((with_reducible refine gate_dst (N:=5) rfl ?_);refine box_event rfl (N:=5) rfl (t:=59) (by go_simp<;>rfl) ?_;intro gt hg wt hbox hb;have BT0:=am hbox;have GT:=am hg;have HBT:=am hb;clear hbox hb hg)|((with_reducible refine gate_store (t:=59) (p:=5) rfl ?_);refine store_block rfl rfl 59 (.tmp 5) (.tmp 10) rfl rfl rfl BT0.out rfl (by kernel_rfl) (aB rfl) ?_;intro wn hbox hg;have BT:=am hbox;have hbx:=pw_below_grown HBT.out _ HBT.out.size hg (fun z hz=>by cases hz;exact Nat.le_of_eq GT.out.symm);replace BS:=am (zb8 BS.out hbx);replace HB:=am (below_step HB.out hbx);clear BSc BT0 HBT hbx hbox hg;have BSc:=zc8 BS.out;have BTc:=zc8 BT.out)
   |(go_at_call 136;refine (isPlace_calls _ _ _).mono ?_;rw [H1.out];rintro e w9 ⟨rfl,rfl⟩))
   go_ret
   have hr:upsOk s i=false:=by
    rw [HU.out];rw [if_neg H0.out,H1b.out,Bool.false_and]
   rw [hr]
   exact ⟨rfl,HB.out⟩
  | true=>
   have H1:Aside0 ((decide (0<=t.up) && decide (t.up < (i:Int)))=true):=⟨by rw [place_in,hb1]⟩;have H1b:=am hb1;have hu:=inB_iff.1 hb1;clear hb1
   cases hlv:isLive t with
   | false=>
    have LV:=am hlv;clear hlv hu
    go_wp2_with (first
    |((with_reducible refine gate_dst (N:=2) rfl ?_);refine box_event rfl (N:=2) rfl (t:=42) (by go_simp<;>rfl) ?_;intro gs hg w2 hbox hb;have BS:=am hbox;have HB:=am hb;have BSc:=zc8 BS.out;clear hbox hb hg)
    |((with_reducible refine gate_dst (N:=10) rfl ?_);refine wpList_load_mid rfl 59 (.tmp 9) rfl b (o+i*13) rfl _ _ (fun j u hu=>cellB HB.out (HCC.out j u hu)) Tryz.underlying59 rfl (by kernel_rfl) ?_)|((with_reducible refine gate_dst (N:=5) rfl ?_);refine box_event rfl (N:=5) rfl (t:=59) (by go_simp<;>rfl) ?_;intro gt hg wt hbox hb;have BT0:=am hbox;have GT:=am hg;have HBT:=am hb;clear hbox hb hg)|((with_reducible refine gate_store (t:=59) (p:=5) rfl ?_);refine store_block rfl rfl 59 (.tmp 5) (.tmp 10) rfl rfl rfl BT0.out rfl (by kernel_rfl) (aB rfl) ?_;intro wn hbox hg;have BT:=am hbox;have hbx:=pw_below_grown HBT.out _ HBT.out.size hg (fun z hz=>by cases hz;exact Nat.le_of_eq GT.out.symm);replace BS:=am (zb8 BS.out hbx);replace HB:=am (below_step HB.out hbx);clear BSc BT0 HBT hbx hbox hg;have BSc:=zc8 BS.out;have BTc:=zc8 BT.out)
    |(go_at_call 136;refine (isPlace_calls _ _ _).mono ?_;rw [H1.out];rintro e w9 ⟨rfl,rfl⟩)
    |((with_reducible refine gate_dst (N:=21) rfl ?_);refine wpList_load_mid rfl 59 (.tmp 5) rfl gt 0 rfl _ _ (lC BT.out) Tryz.underlying59 rfl (by kernel_rfl) ?_)
    |(go_at_call 80;refine (live_calls t _ _ (kTask.K_below HB.out HK.out)).mono ?_;rw [LV.out];rintro e w9 ⟨rfl,hb⟩;replace BS:=am (zb8 BS.out hb);replace BT:=am (zb8 BT.out hb);replace HB:=am (below_step HB.out hb);clear BSc BTc hb;have BSc:=zc8 BS.out;have BTc:=zc8 BT.out))
    go_ret
    have hr:upsOk s i=true:=by
     rw [HU.out];rw [if_neg H0.out,H1b.out,LV.out];rfl
    rw [hr]
    exact ⟨rfl,HB.out⟩
   | true=>
    have LV:=am hlv;clear hlv;obtain ⟨u,hu0⟩:=Int.eq_ofNat_of_zero_le hu.1;have hul:u < s.tasks.length:=by omega
    have r0:(0:Int)<=t.up:=hu.1;have r1:t.up < (s.tasks.length:Int):=by omega
    have r4:t.up.toNat=u:=by omega
    obtain ⟨b',o',cs',he,hcl,hK,hcc,-⟩:=C_field G1.out zTask u hul (by decide);cases he;obtain ⟨wy,hwy⟩:∃ x,x=(taskAt s.tasks u).way:=⟨_,rfl⟩;rw [show s.tasks.getD u zTask=taskAt s.tasks u from rfl] at hK;obtain ⟨E3,f3,E8,f8,E9,f9,E10,f10,rfl,-⟩:=kTask_open hK;have pw:=hcc 4 _ rfl;simp only [show kTask.sz=13 from rfl] at pw;rw [<-hwy] at pw;have PW:=am pw;have HWY:=am hwy;clear hcl hK hcc pw hwy hu hu0
    go_wp2_with (first
    |((with_reducible refine gate_dst (N:=2) rfl ?_);refine box_event rfl (N:=2) rfl (t:=42) (by go_simp<;>rfl) ?_;intro gs hg w2 hbox hb;have BS:=am hbox;have HB:=am hb;have BSc:=zc8 BS.out;clear hbox hb hg)
    |((with_reducible refine gate_dst (N:=10) rfl ?_);refine wpList_load_mid rfl 59 (.tmp 9) rfl b (o+i*13) rfl _ _ (fun j u hu=>cellB HB.out (HCC.out j u hu)) Tryz.underlying59 rfl (by kernel_rfl) ?_)|((with_reducible refine gate_dst (N:=5) rfl ?_);refine box_event rfl (N:=5) rfl (t:=59) (by go_simp<;>rfl) ?_;intro gt hg wt hbox hb;have BT0:=am hbox;have GT:=am hg;have HBT:=am hb;clear hbox hb hg)|((with_reducible refine gate_store (t:=59) (p:=5) rfl ?_);refine store_block rfl rfl 59 (.tmp 5) (.tmp 10) rfl rfl rfl BT0.out rfl (by kernel_rfl) (aB rfl) ?_;intro wn hbox hg;have BT:=am hbox;have hbx:=pw_below_grown HBT.out _ HBT.out.size hg (fun z hz=>by cases hz;exact Nat.le_of_eq GT.out.symm);replace BS:=am (zb8 BS.out hbx);replace HB:=am (below_step HB.out hbx);clear BSc BT0 HBT hbx hbox hg;have BSc:=zc8 BS.out;have BTc:=zc8 BT.out)
    |(go_at_call 136;refine (isPlace_calls _ _ _).mono ?_;rw [H1.out];rintro e w9 ⟨rfl,rfl⟩)
    |((with_reducible refine gate_dst (N:=21) rfl ?_);refine wpList_load_mid rfl 59 (.tmp 5) rfl gt 0 rfl _ _ (lC BT.out) Tryz.underlying59 rfl (by kernel_rfl) ?_)
    |(go_at_call 80;refine (live_calls t _ _ (kTask.K_below HB.out HK.out)).mono ?_;rw [LV.out];rintro e w9 ⟨rfl,hb⟩;replace BS:=am (zb8 BS.out hb);replace BT:=am (zb8 BT.out hb);replace HB:=am (below_step HB.out hb);clear BSc BTc hb;have BSc:=zc8 BS.out;have BTc:=zc8 BT.out;have pww:=cellB HB.out PW.out))
    go_ret
    have hr:upsOk s i=(wy == 1):=by
     rw [HU.out];rw [if_neg H0.out,H1b.out,r4,<-HWY.out,LV.out];rw [Bool.true_and,Bool.not_true,Bool.false_or,Bool.eq_iff_iff,decide_eq_true_eq,beq_iff_eq]
    rw [hr];exact ⟨rfl,HB.out⟩
def ActPost (p:Prog) (t:Task) (w:World) (e:Ending) (w':World):Prop:=∃ (a:Act) (vs:List Value),e= .returned (.tuple #[.agg vs.toArray,.bool (decide (t.pc < (actsAt p.bodies t.body.toNat).length))])/\kAct.K w' a vs/\Below w.heap.size w w'/\(t.pc < (actsAt p.bodies t.body.toNat).length->a=actAt (actsAt p.bodies t.body.toNat) t.pc.toNat)
theorem actAt_calls (p:Prog) (ps:List Value) (t:Task) (ts:List Value) (w:World) (hp:kProg.K w p ps) (ht:kTask.K w t ts) (hz:ProgSz p) (hb0:0<=t.body) (hb1:t.body < p.bodies.length) (hp0:0<=t.pc) (hp1:t.pc<=(actsAt p.bodies t.body.toNat).length):
  Calls Tryz.prog 103 #[.agg ps.toArray,.agg ts.toArray] w fun e w'=>ActPost p t w e w':=by
 obtain ⟨Ac,cc,Ab,cb,rfl,-,-,-,gb⟩:=kProg_open hp;obtain ⟨B3,d3,B8,d8,B9,d9,B10,d10,rfl,-⟩:=kTask_open ht;obtain ⟨kb,hkb0⟩:=Int.eq_ofNat_of_zero_le hb0;have hkb:kb < p.bodies.length:=by omega
 have v4:t.body.toNat=kb:=by omega
 obtain ⟨bb,ob,cs2,rfl,hcl2,hK2,hcc2,-⟩:=C_field gb ([]:List Act) kb hkb (by decide);obtain ⟨Aa,ca,rfl,la,ga2⟩:=hK2;rw [v4] at hp1;obtain ⟨acts,hacts⟩:∃ x,x=actsAt p.bodies kb:=⟨_,rfl⟩;rw [<-hacts] at hp1;have hal:acts.length<=1048576:=by rw [hacts,actsAt_eq hkb];exact (hz.acts _ (List.getElem_mem hkb)).1
 have p2:=hcc2 0 _ rfl;simp only [show (Kd.slice 68 kAct).sz=1 from rfl,Nat.mul_one,Nat.add_zero] at p2;rw [show p.bodies.getD kb []=acts from hacts.symm] at p2 ga2;have P2:=am p2;have GA:=am ga2;have HACT:=am hacts;have HV:=am v4;clear hp ht gb hkb0 hcl2 hcc2 la ga2 hacts p2 hz;go_enter Tryz.func103,Tryz.ntmps103;by_cases he:t.pc=(acts.length:Int)
 ·have y0:(t.pc == (acts.length:Int))=true:=by simp [he]
  have HD:Aside0 (decide (t.pc < (actsAt p.bodies t.body.toNat).length)=false):=⟨decide_eq_false (by rw [HV.out,<-HACT.out];omega)⟩;have HE:=am he;clear he
  go_wp2_with (first
  |((with_reducible refine gate_dst (N:=2) rfl ?_);refine box_event rfl (N:=2) rfl (t:=36) (by go_simp<;>rfl) ?_;intro gp hg w2 hbox hb;have BP:=am hbox;clear hbox hg;have HB2:=am hb;clear hb;have HB:=HB2;clear HB2;have BPc:=zc8 BP.out)
  |((with_reducible refine gate_dst (N:=3) rfl ?_);refine box_event rfl (N:=3) rfl (t:=59) (by go_simp<;>rfl) ?_;intro gt hg w3 hbox hb;have BT:=am hbox;clear hbox hg;replace BP:=am (zb8 BP.out hb);replace HB:=am (below_step HB.out hb);clear hb BPc;have BPc:=zc8 BP.out;have BTc:=zc8 BT.out)
  |((with_reducible refine gate_dst (N:=4) rfl ?_);refine box_event rfl (N:=4) rfl (t:=68) (by go_simp<;>rfl) ?_;intro ga hg w4 hbox hb;have BA:=am hbox;have LG:=am (show w.heap.size<=ga from Nat.le_trans HB.out.size (Nat.le_of_eq hg.symm));clear hbox hg;replace BP:=am (zb8 BP.out hb);replace BT:=am (zb8 BT.out hb);replace HB:=am (below_step HB.out hb);clear hb BPc BTc;have BPc:=zc8 BP.out;have BTc:=zc8 BT.out;have BAc:=zc8 BA.out;have LA:=am (blk_lt BA.out);have p2:=cellB HB.out P2.out)
  |((with_reducible refine gate_store (t:=68) (p:=4) rfl ?_);refine store_block rfl rfl 68 (.tmp 4) (.tmp 18) rfl rfl rfl BA.out rfl (by kernel_rfl) (aB rfl) ?_;intro wn hbox hg;have BF:=am hbox;replace HB:=am (pw_below_grown HB.out _ HB.out.size hg (fun z hz=>by cases hz;exact LG.out));clear BA BAc hbox hg))
  refine bodyPost_ret (results_ct Tryz.results103 _ wn ga 68 #[.int .i64 0,.slice none 0 0,.slice none 0 0,.int .i64 0] (0,0) _ rfl BF.out Tryz.underlying68 rfl (by kernel_rfl)) rfl ?_;exact ⟨zAct,_,by rw [HD.out];rfl,kAct_mk zAct (Nat.zero_le _) (C_nil _ _) (Nat.zero_le _) (C_nil _ _),HB.out,fun h=>absurd h (of_decide_eq_false HD.out)⟩
 ·have y0:(t.pc == (acts.length:Int))=false:=by simpa using he
  obtain ⟨kp,hkp⟩:=Int.eq_ofNat_of_zero_le hp0;have hkl:kp < acts.length:=by omega
  have v5:t.pc.toNat=kp:=by omega
  have HD:Aside0 (decide (t.pc < (actsAt p.bodies t.body.toNat).length)=true):=⟨decide_eq_true (by rw [HV.out,<-HACT.out];omega)⟩;have hpl:t.pc < (acts.length:Int):=by omega
  obtain ⟨ba,oa,cs,rfl,hcl,hK,hcc,-⟩:=C_field GA.out zAct kp hkl (by decide);obtain ⟨a,hax⟩:∃ x,x=actAt acts kp:=⟨_,rfl⟩;rw [show acts.getD kp zAct=a from hax.symm] at hK;have HK:=am hK;obtain ⟨Ad,cd,Ak,ck,rfl,-⟩:=kAct_open hK;have HAC:=am hcc;have AX:=am hax;have V5:=am v5;clear he hkp hcl hK hcc hax
  go_wp2_with (first
  |((with_reducible refine gate_dst (N:=2) rfl ?_);refine box_event rfl (N:=2) rfl (t:=36) (by go_simp<;>rfl) ?_;intro gp hg w2 hbox hb;have BP:=am hbox;clear hbox hg;have HB2:=am hb;clear hb;have HB:=HB2;clear HB2;have BPc:=zc8 BP.out)
  |((with_reducible refine gate_dst (N:=3) rfl ?_);refine box_event rfl (N:=3) rfl (t:=59) (by go_simp<;>rfl) ?_;intro gt hg w3 hbox hb;have BT:=am hbox;clear hbox hg;replace BP:=am (zb8 BP.out hb);replace HB:=am (below_step HB.out hb);clear hb BPc;have BPc:=zc8 BP.out;have BTc:=zc8 BT.out)
  |((with_reducible refine gate_dst (N:=4) rfl ?_);refine box_event rfl (N:=4) rfl (t:=68) (by go_simp<;>rfl) ?_;intro ga hg w4 hbox hb;have BA:=am hbox;have LG:=am (show w.heap.size<=ga from Nat.le_trans HB.out.size (Nat.le_of_eq hg.symm));clear hbox hg;replace BP:=am (zb8 BP.out hb);replace BT:=am (zb8 BT.out hb);replace HB:=am (below_step HB.out hb);clear hb BPc BTc;have BPc:=zc8 BP.out;have BTc:=zc8 BT.out;have BAc:=zc8 BA.out;have LA:=am (blk_lt BA.out);have p2:=cellB HB.out P2.out)
  |((with_reducible refine gate_dst (N:=23) rfl ?_);refine wpList_load_mid rfl 68 (.tmp 22) rfl ba (oa+kp*4) rfl _ _ (fun j u hu=>cellB HB.out (HAC.out j u hu)) Tryz.underlying68 rfl (by kernel_rfl) ?_)
  |((with_reducible refine gate_store (t:=68) (p:=4) rfl ?_);refine store_block rfl rfl 68 (.tmp 4) (.tmp 23) rfl rfl rfl BA.out rfl (by kernel_rfl) (aB rfl) ?_;intro wn hbox hg;have BF:=am hbox;replace HB:=am (pw_below_grown HB.out _ HB.out.size hg (fun z hz=>by cases hz;exact LG.out));clear BA BAc hbox hg))
  refine bodyPost_ret (results_ct Tryz.results103 _ wn ga 68 #[.int .i64 a.kind,.slice Ad a.deeds.length cd,.slice Ak a.kids.length ck,.int .i64 a.reg] (0,0) _ rfl BF.out Tryz.underlying68 rfl (by kernel_rfl)) rfl ?_;exact ⟨a,_,by rw [HD.out];rfl,kAct.K_below HB.out HK.out,HB.out,fun _=>by rw [AX.out,HACT.out,V5.out,HV.out]⟩
end Go.Proofs.YtclangliilnijaaGreatDoor.Eq



namespace Go.Proofs.YtclangliilnijaaGreatDoor.Rd
open Go.RowKit Go.Proofs.YtclangliilnijaaGreatDoorW.PrintWords
open Go.Proofs.YtclangliilnijaaGreatDoor.Eq (Deed kDeed kAct)
theorem wrap_in {x:Int} (h0:0<=x) (h1:x<=1099511627776):wrap64 x=x:=by unfold wrap64;omega
end Go.Proofs.YtclangliilnijaaGreatDoor.Rd
namespace Go.Proofs.YtclangliilnijaaGreatDoor.Eq
open Go.RowKit Go.Proofs.YtclangliilnijaaGreatDoorW.PrintWords Go.Proofs.YtclangliilnijaaGreatDoorW.PrintLast Go.Proofs.YtclangliilnijaaGreatDoorW.PrintMore
def placeB (x n:Int):Bool:=decide (0<=x) && decide (x < n)
def timedB (s:Sys) (t:Task):Bool:=decide (t.since < t.when_) && decide (t.when_<=s.clock)
def restB (s:Sys) (t:Task) (deeds:Int):Bool:=
 if t.stage=1 then decide (0<=t.at_) && decide (t.at_<=deeds) && (t.when_ == 0)
 else if t.stage=2 then placeB t.at_ t.puts.length && (t.when_ == 0)
 else if t.stage=3 then decide (0 < t.puts.length) && (t.at_ == 0) && (t.when_ == 0)
 else if t.stage=4 then decide (0 < t.puts.length) && decide (0<=t.at_) && decide (t.at_<=(t.reads.length:Int)) && timedB s t
 else if t.stage=5 then placeB t.at_ t.puts.length && timedB s t
 else false
def stageB (p:Prog) (s:Sys) (t:Task):Bool:=
 if t.stage=0 then (t.at_ == 0) && ((t.reads.length:Int) == 0) && ((t.puts.length:Int) == 0) && decide (0<=t.when_) && decide (t.when_<=s.clock+1)
 else !(t.way != 0) && decide (t.pc < (actsAt p.bodies t.body.toNat).length) && !((actAt (actsAt p.bodies t.body.toNat) t.pc.toNat).kind != 1) && restB s t (actAt (actsAt p.bodies t.body.toNat) t.pc.toNat).deeds.length
theorem stage0F {q:Prop} (h:q:=by
  go_wp2_with ((first|with_reducible refine gB ?_ | with_reducible refine gA ?_);refine oB rfl M.out ?_;clear M C;intro g W M C;simp only [Cl] at C)
  go_ret;rw [HU.out];exact ⟨rfl,M.out.below⟩):q:=h
theorem stageEF {q:Prop} (h:q:=by
  go_wp2;go_ret;rw [HU.out];exact ⟨rfl,M.out.below⟩):q:=h
theorem stage1F {q:Prop} (h:q:=by
  go_wp2_with (go_at_call 136;refine oEb (isPlace_calls _ _ _) ZP.out ?_)
  go_ret;rw [HU.out,RR.out];exact ⟨rfl,M.out.below⟩):q:=h
theorem stageOk_calls (p:Prog) (ps:List Value) (s:Sys) (ss:List Value) (t:Task) (ts:List Value) (w:World) (hp:kProg.K w p ps) (hs:kSys.K w s ss) (ht:kTask.K w t ts) (hz:ProgSz p) (hk:0<=s.clock/\s.clock<=200) (hbd:0<=t.body/\t.body < p.bodies.length) (hpc:0<=t.pc/\t.pc<=(actsAt p.bodies t.body.toNat).length):
  Calls Tryz.prog 128 #[.agg ps.toArray,.agg ss.toArray,.agg ts.toArray] w fun e w'=>e= .returned (.bool (stageB p s t))/\Below w.heap.size w w':=by
 have HPK:=am hp;have HTK:=am ht;have HPZ:=am hz;have HBD:=am hbd;have HPC:=am hpc;obtain ⟨Ac,cc,Ab,cb,rfl,-⟩:=kProg_open hp;obtain ⟨A0,c0,A1,c1,A3,c3,rfl,-⟩:=kSys_open hs;obtain ⟨B3,d3,B8,d8,B9,d9,B10,d10,rfl,-⟩:=kTask_open ht;have wc:wrap64 (s.clock+1)=s.clock+1:=Rd.wrap_in (by omega) (by omega);have M:=am (Own.nil w);have C:=M.out.cl;clear hp hs ht hz hbd hpc hk;by_cases h0:t.stage=0
 ·have ys:(t.stage == 0)=true:=by simp [h0]
  obtain ⟨b0,y0⟩:∃ b,(t.at_ == 0)=b:=⟨_,rfl⟩;obtain ⟨b1,y1⟩:∃ b,((t.reads.length:Int) == 0)=b:=⟨_,rfl⟩;obtain ⟨b2,y2⟩:∃ b,((t.puts.length:Int) == 0)=b:=⟨_,rfl⟩;obtain ⟨b3,y3⟩:∃ b,decide (0<=t.when_)=b:=⟨_,rfl⟩;have HU:Aside0 (stageB p s t=(b0 && b1 && b2 && b3 && decide (t.when_<=s.clock+1))):=⟨by unfold stageB;rw [if_pos h0,y0,y1,y2,y3]⟩;clear h0;go_enter Tryz.func128,Tryz.ntmps128;cases b0;exact stage0F;cases b1;exact stage0F;cases b2;exact stage0F;cases b3;exact stage0F;exact stage0F
 ·have ys:(t.stage == 0)=false:=by simpa using h0
  obtain ⟨bt,yt⟩:∃ b,decide (t.pc < (actsAt p.bodies t.body.toNat).length)=b:=⟨_,rfl⟩;have YT:=am yt;obtain ⟨a0,ha0⟩:∃ x,x=actAt (actsAt p.bodies t.body.toNat) t.pc.toNat:=⟨_,rfl⟩;have HA0:=am ha0;obtain ⟨b5,y5⟩:∃ b,decide (t.since < t.when_)=b:=⟨_,rfl⟩;obtain ⟨bw,yw⟩:∃ b,(t.way != 0)=b:=⟨_,rfl⟩;obtain ⟨bk,yk⟩:∃ b,(a0.kind != 1)=b:=⟨_,rfl⟩;have HU:Aside0 (stageB p s t=(!bw && bt && !bk && restB s t a0.deeds.length)):=⟨by unfold stageB;rw [if_neg h0,yw,yt,<-ha0,yk]⟩;have Y5:=am y5;clear h0 yt ha0;go_enter Tryz.func128,Tryz.ntmps128
  go_upto_region 4 with (first
  |((first|with_reducible refine gB ?_ | with_reducible refine gA ?_);refine oB rfl M.out ?_;clear M C;intro g W M C;simp only [Cl] at C)
  |((with_reducible refine gL ?_);refine oL rfl rfl M.out ?_)
  |((with_reducible refine gS ?_);refine oS rfl rfl rfl M.out ?_;clear M C;intro W M C;simp only [Cl] at C)
  |(go_at_call 103;refine (actAt_calls p _ t _ _ (kProg.K_below M.out.below HPK.out) (kTask.K_below M.out.below HTK.out) HPZ.out HBD.out.1 HBD.out.2 HPC.out.1 HPC.out.2).mono ?_;rintro e W ⟨a,vs,rfl,hk,hb,ha⟩;obtain ⟨Ad,cd,Ak,ck,rfl,-⟩:=kAct_open hk;rw [YT.out];replace M:=am (M.out.step hb);have HAA:=am ha;clear C hk hb ha;have C:=M.out.cl;simp only [Cl] at C))
  cases bw
  case true=>exact stageEF
  cases bt
  case false=>exact stageEF
  obtain rfl:a=a0:=(by rw [HA0.out];exact HAA.out (of_decide_eq_true YT.out));cases bk
  case true=>exact stageEF
  go_upto_region 6 with fail;cases b5
  all_goals
   refine dS M.out ?_;clear M C;intro W M;refine dN [0,1,2,3,4,5,6,7,8,9,10,11,12,13,14,15,16] M.out ?_;iterate 17 (first|refine sP rfl ?_ | refine sG rfl ?_ | refine sU rfl ?_)
   refine stillS_nil ?_;refine dD ?_;have C:=M.out.cl;simp only [Cl] at C;by_cases h1:t.stage=1
   ·obtain ⟨n0,zn0⟩:∃ b,decide (0<=t.at_)=b:=⟨_,rfl⟩
    obtain ⟨n1,zn1⟩:∃ b,decide (t.at_<=(a.deeds.length:Int))=b:=⟨_,rfl⟩;have RR:Aside0 (restB s t a.deeds.length=(n0 && n1 && (t.when_ == 0))):=⟨by unfold restB;rw [if_pos h1,zn0,zn1]⟩;have e1:(t.stage == 1)=true:=by simp [h1]
    clear h1;cases n0;exact stage1F;cases n1;exact stage1F;exact stage1F
   have e1:(t.stage == 1)=false:=by simpa using h1
   by_cases h2:t.stage=2
   ·obtain ⟨pl,zpl⟩:∃ b,placeB t.at_ t.puts.length=b:=⟨_,rfl⟩
    have RR:Aside0 (restB s t a.deeds.length=(pl && (t.when_ == 0))):=⟨by unfold restB;rw [if_neg h1,if_pos h2,zpl]⟩;have e2:(t.stage == 2)=true:=by simp [h2]
    have ZP:=am zpl;clear zpl;clear h2;cases pl;exact stage1F;exact stage1F
   have e2:(t.stage == 2)=false:=by simpa using h2
   by_cases h3:t.stage=3
   ·obtain ⟨n0,zn0⟩:∃ b,decide (0 < t.puts.length)=b:=⟨_,rfl⟩
    obtain ⟨n1,zn1⟩:∃ b,(t.at_ == 0)=b:=⟨_,rfl⟩;have RR:Aside0 (restB s t a.deeds.length=(n0 && n1 && (t.when_ == 0))):=⟨by unfold restB;rw [if_neg h1,if_neg h2,if_pos h3,zn0,zn1]⟩;have e3:(t.stage == 3)=true:=by simp [h3]
    clear h3;cases n0;exact stage1F;cases n1;exact stage1F;exact stage1F
   have e3:(t.stage == 3)=false:=by simpa using h3
   by_cases h4:t.stage=4
   ·obtain ⟨n0,zn0⟩:∃ b,decide (0 < t.puts.length)=b:=⟨_,rfl⟩
    obtain ⟨n1,zn1⟩:∃ b,decide (0<=t.at_)=b:=⟨_,rfl⟩;obtain ⟨n2,zn2⟩:∃ b,decide (t.at_<=(t.reads.length:Int))=b:=⟨_,rfl⟩;have RR:Aside0 (restB s t a.deeds.length=(n0 && n1 && n2 && (_ && decide (t.when_<=s.clock)))):=⟨by unfold restB;rw [if_neg h1,if_neg h2,if_neg h3,if_pos h4,zn0,zn1,zn2];unfold timedB;rw [Y5.out]⟩;have e4:(t.stage == 4)=true:=by simp [h4]
    clear h4;cases n0;exact stage1F;cases n1;exact stage1F;cases n2;exact stage1F;exact stage1F
   have e4:(t.stage == 4)=false:=by simpa using h4
   by_cases h5:t.stage=5
   ·obtain ⟨pl,zpl⟩:∃ b,placeB t.at_ t.puts.length=b:=⟨_,rfl⟩
    have RR:Aside0 (restB s t a.deeds.length=(pl && (_ && decide (t.when_<=s.clock)))):=⟨by unfold restB;rw [if_neg h1,if_neg h2,if_neg h3,if_neg h4,if_pos h5,zpl];unfold timedB;rw [Y5.out]⟩;have e5:(t.stage == 5)=true:=by simp [h5]
    have ZP:=am zpl;clear zpl;clear h5;cases pl;exact stage1F;exact stage1F
   have e5:(t.stage == 5)=false:=by simpa using h5
   have RR:Aside0 (restB s t a.deeds.length=false):=⟨by unfold restB;rw [if_neg h1,if_neg h2,if_neg h3,if_neg h4,if_neg h5]⟩;clear h1 h2 h3 h4 h5;exact stage1F
def formB (p:Prog) (s:Sys) (t:Task):Bool:=
 placeB t.body p.bodies.length && !decide (t.pc < 0) && !decide (((actsAt p.bodies t.body.toNat).length:Int) < t.pc) && !decide (t.way < 0) && !decide (4 < t.way) && numsOk t.regs 3 && numsOk t.old 3 &&
 !decide (t.since < 0) && !decide (s.clock < t.since) && !decide (t.from_ < 0) && !decide ((s.log.length:Int) < t.from_) && listOk t.reads s.cells.length && listOk t.puts s.cells.length
theorem formOk_calls (p:Prog) (ps:List Value) (s:Sys) (ss:List Value) (t:Task) (ts:List Value) (w:World) (hp:kProg.K w p ps) (hs:kSys.K w s ss) (ht:kTask.K w t ts) (hz:t.regs.length<=1048576/\t.old.length<=1048576/\t.reads.length<=1048576/\t.puts.length<=1048576):
  Calls Tryz.prog 127 #[.agg ps.toArray,.agg ss.toArray,.agg ts.toArray] w fun e w'=>e= .returned (.bool (formB p s t))/\Below w.heap.size w w':=by
 obtain ⟨Ac,cc,Ab,cb,rfl,-,-,-,gb⟩:=kProg_open hp;obtain ⟨A0,c0,A1,c1,A3,c3,rfl,-⟩:=kSys_open hs;obtain ⟨B3,d3,B8,d8,B9,d9,B10,d10,rfl,-,g3,-,g8,-,g9,-,g10⟩:=kTask_open ht;have G:=am (And.intro g3 (And.intro g8 (And.intro g9 (And.intro g10 hz))));obtain ⟨b1,y1⟩:∃ b,placeB t.body p.bodies.length=b:=⟨_,rfl⟩;obtain ⟨b2,y2⟩:∃ b,decide (t.pc < 0)=b:=⟨_,rfl⟩;obtain ⟨b3,y3⟩:∃ b,decide (((actsAt p.bodies t.body.toNat).length:Int) < t.pc)=b:=⟨_,rfl⟩;obtain ⟨b4,y4⟩:∃ b,decide (t.way < 0)=b:=⟨_,rfl⟩;obtain ⟨b5,y5⟩:∃ b,decide (4 < t.way)=b:=⟨_,rfl⟩;obtain ⟨b6,y6⟩:∃ b,numsOk t.regs 3=b:=⟨_,rfl⟩;obtain ⟨b7,y7⟩:∃ b,numsOk t.old 3=b:=⟨_,rfl⟩;obtain ⟨b8,y8⟩:∃ b,decide (t.since < 0)=b:=⟨_,rfl⟩;obtain ⟨b9,y9⟩:∃ b,decide (s.clock < t.since)=b:=⟨_,rfl⟩;obtain ⟨c1',z1⟩:∃ b,decide (t.from_ < 0)=b:=⟨_,rfl⟩;obtain ⟨c2',z2⟩:∃ b,decide ((s.log.length:Int) < t.from_)=b:=⟨_,rfl⟩;obtain ⟨c3',z3⟩:∃ b,listOk t.reads s.cells.length=b:=⟨_,rfl⟩;have HU:Aside0 (formB p s t=(b1 && !b2 && !b3 && !b4 && !b5 && b6 && b7 && !b8 && !b9 && !c1' && !c2' && c3' && listOk t.puts s.cells.length)):=⟨by unfold formB;rw [y1,y2,y3,y4,y5,y6,y7,y8,y9,z1,z2,z3]⟩;have Y1:=am y1;have Y6:=am y6;have Y7:=am y7;have Z3:=am z3;have M:=am (Own.nil w);have C:=M.out.cl;have GB:=am gb;clear hp hs ht g3 g8 g9 g10 hz y1 y6 y7 z3 gb
 cases b1 with
 | false=>
  clear y2 y3 y4 y5 y8 y9 z1 z2;go_enter Tryz.func127,Tryz.ntmps127;go_wp2_with (refine oB rfl M.out ?_;clear M C;intro g W M C;simp only [Cl] at C)
  refine dS M.out ?_;clear M C;intro W M;refine dN [0,1,2,3,4] M.out ?_;iterate 5 refine sP rfl ?_
  refine stillS_nil ?_;refine dC 5 rfl ?_;refine oEb (isPlace_calls _ _ _) Y1.out ?_;refine ⟨_,rfl,M,dA (dN [6,7,8,9,10,11,12,13,14,15,16,17,18,19,20,21,22,23] M.out ?_)⟩;iterate 18 (first|refine sP rfl ?_ | refine sG rfl ?_ | refine sU rfl ?_)
  refine stillS_nil (dD ?_);have C:=M.out.cl;simp only [Cl] at C
  go_wp2_with (first
  |(go_at_call 168;refine oEb (regsOk_calls _ _ _ _ (by first|exact Kd.C_below G.out.1 M.out.below | exact Kd.C_below G.out.2.1 M.out.below) (by first|exact G.out.2.2.2.2.1 | exact G.out.2.2.2.2.2.1)) (by first|exact Y6.out | exact Y7.out) ?_)
  |(go_at_call 169;refine oCb M.out (putsOk_calls _ _ _ _ _ (by first|exact Kd.C_below G.out.2.2.1 M.out.below | exact Kd.C_below G.out.2.2.2.1 M.out.below) (by first|exact G.out.2.2.2.2.2.2.1 | exact G.out.2.2.2.2.2.2.2)) (by first|exact Z3.out | rfl) ?_;clear M C;intro W M C;simp only [Cl] at C))
  go_ret;rw [HU.out]
  exact ⟨rfl,M.out.below⟩
 | true=>
  have hb:=(Bool.and_eq_true_iff).1 (show (decide (0<=t.body) && decide (t.body < (p.bodies.length:Int)))=true from Y1.out);have hb0:0<=t.body:=of_decide_eq_true hb.1;have hb1:t.body < p.bodies.length:=of_decide_eq_true hb.2;obtain ⟨kb,hkb0⟩:=Int.eq_ofNat_of_zero_le hb0;have hkb:kb < p.bodies.length:=by omega
  have v4:t.body.toNat=kb:=by omega
  obtain ⟨bb,ob,cs2,rfl,hcl2,hK2,hcc2,-⟩:=C_field GB.out ([]:List Act) kb hkb (by decide);obtain ⟨Aa,ca,rfl,la,-⟩:=hK2;have p2:=hcc2 0 _ rfl;simp only [show (Kd.slice 68 kAct).sz=1 from rfl,Nat.mul_one,Nat.add_zero] at p2;rw [v4] at y3;rw [show (p.bodies.getD kb []).length=(actsAt p.bodies kb).length from rfl] at p2;generalize (actsAt p.bodies kb).length=na at p2 y3;replace M:=am (M.out.far p2);clear C hcl2 hcc2 p2 la hkb0 hb hkb;have C:=M.out.cl;simp only [Cl] at C;cases b2;cases b3;cases b4;cases b5;cases b6;rotate_left;cases b7;rotate_left;cases b8;cases b9;cases c1';cases c2';cases c3';rotate_left
  all_goals
   go_enter Tryz.func127,Tryz.ntmps127;go_wp2_with (refine oB rfl M.out ?_;clear M C;intro g W M C;simp only [Cl] at C)
   refine dS M.out ?_;clear M C;intro W M;refine dN [0,1,2,3,4] M.out ?_;iterate 5 refine sP rfl ?_
   refine stillS_nil ?_;refine dC 5 rfl ?_;refine oEb (isPlace_calls _ _ _) Y1.out ?_;refine ⟨_,rfl,M,dA (dN [6,7,8,9,10,11,12,13,14,15,16,17,18,19,20,21,22,23] M.out ?_)⟩;iterate 18 (first|refine sP rfl ?_ | refine sG rfl ?_ | refine sU rfl ?_)
   refine stillS_nil (dD ?_);have C:=M.out.cl;simp only [Cl] at C
   go_wp2_with (first
   |(go_at_call 168;refine oEb (regsOk_calls _ _ _ _ (by first|exact Kd.C_below G.out.1 M.out.below | exact Kd.C_below G.out.2.1 M.out.below) (by first|exact G.out.2.2.2.2.1 | exact G.out.2.2.2.2.2.1)) (by first|exact Y6.out | exact Y7.out) ?_)
   |(go_at_call 169;refine oCb M.out (putsOk_calls _ _ _ _ _ (by first|exact Kd.C_below G.out.2.2.1 M.out.below | exact Kd.C_below G.out.2.2.2.1 M.out.below) (by first|exact G.out.2.2.2.2.2.2.1 | exact G.out.2.2.2.2.2.2.2)) (by first|exact Z3.out | rfl) ?_;clear M C;intro W M C;simp only [Cl] at C))
   go_ret;rw [HU.out];exact ⟨rfl,M.out.below⟩
end Go.Proofs.YtclangliilnijaaGreatDoor.Eq
namespace Go.Proofs.YtclangliilnijaaGreatDoor.Eq
theorem mem_pickTo {p:Nat->Bool} {k:Nat} {x:Int}:x ∈ pickTo p k ↔ ∃ i:Nat,i < k/\p i=true/\x=(i:Int):=by
 simp only [pickTo,List.mem_map,List.mem_filter,List.mem_range];constructor
 ·rintro ⟨i,⟨h1,h2⟩,rfl⟩;exact ⟨i,h1,h2,rfl⟩
 ·rintro ⟨i,h1,h2,rfl⟩;exact ⟨i,⟨h1,h2⟩,rfl⟩
theorem mem_kids {ts:List Task} {t x:Int}:x ∈ kids ts t ↔ ∃ i:Nat,i < ts.length/\0<=t/\(taskAt ts i).up=t/\t < (i:Int)/\x=(i:Int):=by
 simp only [kids,mem_pickTo,isKid,Bool.and_eq_true,decide_eq_true_eq];constructor
 ·rintro ⟨i,h1,⟨⟨h2,h3⟩,h4⟩,rfl⟩;exact ⟨i,h1,h2,h3,h4,rfl⟩
 ·rintro ⟨i,h1,h2,h3,h4,rfl⟩;exact ⟨i,h1,⟨⟨h2,h3⟩,h4⟩,rfl⟩
theorem nodup_flat {α:Type} {β:Type} {g:α->List β}:∀ {l:List α},(∀ x ∈ l,(g x).Nodup)->l.Pairwise (fun a b=>∀ x,x ∈ g a->x ∈ g b->False)->((l.map g).flatten).Nodup
 | [],_,_=>by simp
 | a :: l,h1,h2=>by
  rw [List.map_cons,List.flatten_cons,List.nodup_append];rw [List.pairwise_cons] at h2;refine ⟨h1 a List.mem_cons_self,nodup_flat (fun x hx=>h1 x (List.mem_cons_of_mem _ hx)) h2.2,fun x hx y hy he=> ?_⟩;subst he;obtain ⟨m,hm,hxm⟩:=List.mem_flatten.1 hy;obtain ⟨b,hb,rfl⟩:=List.mem_map.1 hm;exact h2.1 b hb x hx hxm
end Go.Proofs.YtclangliilnijaaGreatDoor.Eq
namespace Go.Proofs.YtclangliilnijaaGreatDoor.Eq
open Go.RowKit Go.Proofs.YtclangliilnijaaGreatDoorW.PrintWords Go.Proofs.YtclangliilnijaaGreatDoorW.PrintLast Go.Proofs.YtclangliilnijaaGreatDoorW.PrintMore
def begunTo (s:Sys) (ks:List Int) (n:Nat):Nat:=cntTo (fun j=> !decide ((taskAt s.tasks (rd ks j).toNat).way=4)) n
def wayB (p:Prog) (s:Sys) (i:Nat):Bool:=
 let t:=taskAt s.tasks i
 let acts:=actsAt p.bodies t.body.toNat
 if t.way=1 then decide (t.pc < acts.length) && ((actAt acts t.pc.toNat).kind == 2) && decide ((actAt acts t.pc.toNat).kids.length<=begunTo s (kids s.tasks i) (kids s.tasks i).length)
 else if t.way=2 then !decide (t.pc < acts.length) else true
theorem rd_mem {ks:List Int} {k:Nat} (h:k < ks.length):rd ks (k:Int) ∈ ks:=by
 unfold rd;rw [Int.toNat_natCast,List.getD_eq_getElem?_getD,List.getElem?_eq_getElem h];exact List.getElem_mem h
theorem wayEF {q:Prop} (h:q:=by
  go_wp2;go_ret;rw [HU.out];exact ⟨rfl,M.out.below⟩):q:=h
theorem wayLF {q:Prop} (h:q:=by
  go_wp2;go_ret;rw [HU.out];exact ⟨rfl,below_step HB0.out M.out.below⟩):q:=h
theorem wayOk_calls (p:Prog) (ps:List Value) (s:Sys) (ss:List Value) (i:Nat) (w:World) (hp:kProg.K w p ps) (hs:kSys.K w s ss) (hz:ProgSz p) (hi:i < s.tasks.length) (hn:s.tasks.length<=1048576) (hbd:0<=(taskAt s.tasks i).body/\(taskAt s.tasks i).body < p.bodies.length) (hpc:0<=(taskAt s.tasks i).pc/\(taskAt s.tasks i).pc<=(actsAt p.bodies (taskAt s.tasks i).body.toNat).length):
  Calls Tryz.prog 130 #[.agg ps.toArray,.agg ss.toArray,.int .i64 i] w fun e w'=>e= .returned (.bool (wayB p s i))/\Below w.heap.size w w':=by
 have HPK:=am hp;have HSK:=am hs;have HPZ:=am hz;have HN:=am hn;obtain ⟨Ac,cc,Ab,cb,rfl,-⟩:=kProg_open hp;obtain ⟨A0,c0,A1,c1,A3,c3,rfl,-,-,-,g1,-⟩:=kSys_open hs;obtain ⟨b,o,cs,rfl,hcl,hK,hcc,-⟩:=C_field g1 zTask i hi (by decide);obtain ⟨t,ht⟩:∃ x,x=taskAt s.tasks i:=⟨_,rfl⟩;rw [<-ht] at hbd hpc;rw [show s.tasks.getD i zTask=t from ht.symm] at hK;have HTK:=am hK;obtain ⟨B3,d3,B8,d8,B9,d9,B10,d10,rfl,-⟩:=kTask_open hK;have HC:=am hcc;have G1:=am g1;have HBD:=am hbd;have HPC:=am hpc;obtain ⟨bt,yt⟩:∃ b,decide (t.pc < (actsAt p.bodies t.body.toNat).length)=b:=⟨_,rfl⟩;have YT:=am yt;obtain ⟨a0,ha0⟩:∃ x,x=actAt (actsAt p.bodies t.body.toNat) t.pc.toNat:=⟨_,rfl⟩;have HA0:=am ha0;obtain ⟨ks,hks⟩:∃ x,x=kids s.tasks i:=⟨_,rfl⟩;have HKS:=am hks;have HU:Aside0 (wayB p s i=if t.way=1 then bt && (a0.kind == 2) && decide (a0.kids.length<=begunTo s ks ks.length) else if t.way=2 then !bt else true):=⟨by rw [hks,ha0,<-yt,ht];rfl⟩;have q0:(0:Int)<=(i:Int):=by omega
 have q1:(i:Int) < (s.tasks.length:Int):=by omega
 have M:=am (Own.nil w);have C:=M.out.cl;clear hp hs hz hK hcc hcl yt ha0 hks g1 hbd hpc hi hn ht;go_enter Tryz.func130,Tryz.ntmps130
 go_upto_region 3 with (first
 |((first|with_reducible refine gB ?_ | with_reducible refine gA ?_);refine oB rfl M.out ?_;clear M C;intro g W M C;simp only [Cl] at C)
 |((with_reducible refine gL ?_);refine oR rfl rfl M.out HC.out ?_)
 |((with_reducible refine gL ?_);refine oL rfl rfl M.out ?_)
 |((with_reducible refine gS ?_);refine oS rfl rfl rfl M.out ?_;clear M C;intro W M C;simp only [Cl] at C)
 |(go_at_call 103;refine (actAt_calls p _ t _ _ (kProg.K_below M.out.below HPK.out) (kTask.K_below M.out.below HTK.out) HPZ.out HBD.out.1 HBD.out.2 HPC.out.1 HPC.out.2).mono ?_;rintro e W ⟨a,vs,rfl,hk,hb,ha⟩;obtain ⟨Ad,cd,Ak,ck,rfl,-⟩:=kAct_open hk;rw [YT.out];have HAA:=am ha;clear hk ha;replace M:=am (M.out.step hb);clear C;have C:=M.out.cl;simp only [Cl] at C;clear hb))
 by_cases h1:t.way=1
 ·have y1:(t.way == 1)=true:=by simp [h1]
  replace HU:=am (HU.out.trans (if_pos h1));clear h1
  go_wp2_with (first
  |((first|with_reducible refine gB ?_ | with_reducible refine gA ?_);refine oB rfl M.out ?_;clear M C;intro g W M C;simp only [Cl] at C)
  |((with_reducible refine gL ?_);refine oR rfl rfl M.out HC.out ?_)
  |((with_reducible refine gL ?_);refine oL rfl rfl M.out ?_)
  |((with_reducible refine gS ?_);refine oS rfl rfl rfl M.out ?_;clear M C;intro W M C;simp only [Cl] at C)
  |(go_at_call 148;refine (implKids_calls s _ _ _ (kSys.K_below M.out.below HSK.out) HN.out).mono ?_;rintro e W1 ⟨v,rfl,hv,hb⟩;obtain ⟨A,c,rfl,-,hcv⟩:=Kd.R_reads hv;have HB0:=am (below_step M.out.below hb);have KX:=am hcv;clear hv hcv;have M1:=am (M.out.step hb).rebase;simp only [List.map_cons,List.map_nil,En.old] at M1;clear M C hb;have M:=M1;clear M1;have C:=M.out.cl;simp only [Cl] at C))
  rw [<-HKS.out] at KX ⊢;obtain ⟨L,EL,ML⟩:=Own.named M;go_loopw [10,12,32] (fun bv _ j w'=>∃ k:Nat,k<=ks.length/\bv= .int .i64 (begunTo s ks k:Nat)/\j= .int .i64 k/\Aside0 (Own W1 w' L)) (fun _ _ j _=>ks.length - (intOf j).toNat)
  case atStart=>exact ⟨0,Nat.zero_le _,rfl,rfl,ML⟩
  case round=>
   obtain ⟨k,hk,rfl,rfl,M2⟩:=hrel;have e:=EL.out;subst e;clear M C ML EL;have M:=M2;clear M2;have C:=M.out.cl;simp only [Cl] at C;by_cases hlt:k < ks.length
   ·have s0:(0:Int)<=(k:Int):=by omega
    have s1:(k:Int) < (ks.length:Int):=by omega
    obtain ⟨ad,ed,hx⟩:=Kd.at_int KX.out (k:Int) s0 s1;cases ed;simp only [Int.toNat_natCast] at hx;obtain ⟨n,hn,-,-,-,hkn⟩:=mem_kids.1 (show rd ks (k:Int) ∈ kids s.tasks i by rw [<-HKS.out];exact rd_mem hlt);rw [hkn] at hx;obtain ⟨b',o',cs',eb,hcl',hK',hcc',-⟩:=C_field (Kd.C_below G1.out HB0.out) zTask n hn (by decide);cases eb;obtain ⟨B3',d3',B8',d8',B9',d9',B10',d10',rfl,-⟩:=kTask_open hK';have p4:=hcc' 4 _ rfl;rw [show s.tasks.getD n zTask=taskAt s.tasks n from rfl] at p4;simp only [show kTask.sz=13 from rfl] at p4;have HL:ks.length<=1048576:=by rw [HKS.out];exact Nat.le_trans (pickTo_length _ _) HN.out
    replace M:=am ((M.out.far hx).far p4);clear C;have C:=M.out.cl;simp only [Cl] at C;have n0:(0:Int)<=(n:Int):=by omega
    have n1:(n:Int) < (s.tasks.length:Int):=by omega
    have hb:begunTo s ks (k+1)=begunTo s ks k+if (!decide ((taskAt s.tasks n).way=4)) then 1 else 0:=by
     show begunTo s ks k+(if (!decide ((taskAt s.tasks (rd ks (k:Int)).toNat).way=4)) then 1 else 0)=_;rw [hkn,Int.toNat_natCast]
    have hle:begunTo s ks k<=k:=cntTo_le _ _;have HX:=am (And.intro hb hle);clear hx hK' hcc' hcl' p4 hkn hb hle;by_cases h4:(taskAt s.tasks n).way=4
    ·have y4:((taskAt s.tasks n).way != 4)=false:=by simp [h4]
     go_wp2;go_roundw
     case rel=>exact ⟨k+1,by omega,by rw [HX.out.1,decide_eq_true h4];rfl,by go_num,⟨M.out.pop.pop⟩⟩
     case measure=>simp [intOf];omega
    ·have y4:((taskAt s.tasks n).way != 4)=true:=by simp [h4]
     go_wp2;go_roundw
     case rel=>exact ⟨k+1,by omega,by rw [HX.out.1,decide_eq_false h4,Rd.wrap_in (by omega) (by have:=HX.out.2;omega)];rfl,by go_num,⟨M.out.pop.pop⟩⟩
     case measure=>simp [intOf];omega
   ·obtain rfl:k=ks.length:=by omega
    have s1:¬ (ks.length:Int) < (ks.length:Int):=by omega
    cases bt
    case false=>exact wayLF
    obtain rfl:a=a0:=(by rw [HA0.out];exact HAA.out (of_decide_eq_true YT.out));obtain ⟨bk,yk⟩:∃ b,(a.kind == 2)=b:=⟨_,rfl⟩;rw [yk] at HU;cases bk
    case false=>exact wayLF
    exact wayLF
 ·have y1:(t.way == 1)=false:=by simpa using h1
  have HU1:=am (HU.out.trans (if_neg h1));clear h1 HU;by_cases h2:t.way=2
  ·have y2:(t.way == 2)=true:=by simp [h2]
   have HU:=am (HU1.out.trans (if_pos h2));exact wayEF
  ·have y2:(t.way == 2)=false:=by simpa using h2
   have HU:=am (HU1.out.trans (if_neg h2));exact wayEF
end Go.Proofs.YtclangliilnijaaGreatDoor.Eq
namespace Go.Proofs.YtclangliilnijaaGreatDoor.Eq
def must (t:Task):List Put:=if t.stage=2 then t.puts.take t.at_.toNat else if t.stage=3\/t.stage=4 then t.puts else if t.stage=5 then t.puts.drop t.at_.toNat else []
theorem asc_one {l:List Put} (h:l.Pairwise fun x y=>x.cell < y.cell) {i j:Nat} (hi:i < l.length) (hj:j < l.length) (he:l[i].cell=l[j].cell):i=j:=by
 rw [List.pairwise_iff_getElem] at h;rcases Nat.lt_trichotomy i j with h1 | h1 | h1
 ·have:=h i j hi hj h1
  omega
 ·exact h1
 ·have:=h j i hj hi h1
  omega
theorem findP_no {l:List Put} {c:Int} (h:findP l c=none):∀ x ∈ l,x.cell ≠ c:=by
 unfold findP at h;rw [List.findIdx?_eq_none_iff] at h;intro x hx;simpa using h x hx
theorem findP_yes {l:List Put} {c:Int} {i:Nat} (h:findP l c=some i):∃ hi:i < l.length,l[i].cell=c:=by
 unfold findP at h;rw [List.findIdx?_eq_some_iff_getElem] at h;exact ⟨h.1,by simpa using h.2.1⟩
theorem holds_must {n:Nat} {t:Task} (h:PutsIn n t.puts) (h0:0<=t.at_) {c:Int}:holds t c=true ↔ ∃ x ∈ must t,x.cell=c:=by
 unfold holds must
 cases hf:findP t.puts c with
 | none=>
  have hn:=findP_no hf;constructor
  ·intro hh
   cases hh
  ·rintro ⟨x,hx,hc⟩
   exfalso;refine hn x ?_ hc;split at hx
   ·exact List.mem_of_mem_take hx
   ·split at hx
    ·exact hx
    ·split at hx
     ·exact List.mem_of_mem_drop hx
     ·simp at hx
 | some i=>
  obtain ⟨hi,hc⟩:=findP_yes hf;have hone:∀ j (hj:j < t.puts.length),t.puts[j].cell=c->j=i:=fun j hj hjc=>asc_one h.asc hj hi (hjc.trans hc.symm)
  show (if t.stage=2 then decide ((i:Int) < t.at_) else if t.stage=3\/t.stage=4 then true else if t.stage=5 then decide (t.at_<=i) else false)=true ↔ _;by_cases h2:t.stage=2
  ·rw [if_pos h2,if_pos h2,decide_eq_true_eq]
   constructor
   ·intro hlt
    exact ⟨t.puts[i],by rw [List.mem_take_iff_getElem];exact ⟨i,by omega,rfl⟩,hc⟩
   ·rintro ⟨x,hx,hxc⟩
    rw [List.mem_take_iff_getElem] at hx;obtain ⟨j,hj,rfl⟩:=hx;have:=hone j (by omega) hxc;omega
  ·rw [if_neg h2,if_neg h2]
   by_cases h3:t.stage=3\/t.stage=4
   ·rw [if_pos h3,if_pos h3]
    exact ⟨fun _=>⟨_,List.getElem_mem hi,hc⟩,fun _=>rfl⟩
   ·rw [if_neg h3,if_neg h3]
    by_cases h5:t.stage=5
    ·rw [if_pos h5,if_pos h5,decide_eq_true_eq]
     constructor
     ·intro hle
      refine ⟨t.puts[i], ?_,hc⟩;rw [List.mem_iff_getElem];exact ⟨i - t.at_.toNat,by rw [List.length_drop];omega,by rw [List.getElem_drop];congr 1;omega⟩
     ·rintro ⟨x,hx,hxc⟩
      rw [List.mem_iff_getElem] at hx;obtain ⟨j,hj,rfl⟩:=hx;rw [List.length_drop] at hj;rw [List.getElem_drop] at hxc;have:=hone _ (by omega) hxc;omega
    ·rw [if_neg h5,if_neg h5]
     constructor
     ·intro hh
      cases hh
     ·rintro ⟨x,hx,_⟩
      simp at hx
theorem must_asc {n:Nat} {t:Task} (h:PutsIn n t.puts):(must t).Pairwise (fun x y=>x.cell < y.cell)/\∀ x ∈ must t,0<=x.cell/\x.cell < n:=by
 unfold must;split
 ·exact ⟨h.asc.take,fun x hx=>h.cell x (List.mem_of_mem_take hx)⟩
 ·split
  ·exact ⟨h.asc,h.cell⟩
  ·split
   ·exact ⟨h.asc.drop,fun x hx=>h.cell x (List.mem_of_mem_drop hx)⟩
   ·exact ⟨List.Pairwise.nil,fun x hx=>by simp at hx⟩
def place:List (Nat × Nat)->List Int->Option (List Int)
 | [],h=>some h
 | q :: l,h=>if numAt h q.1= -1 then place l (h.set q.1 q.2) else none
theorem place_free:∀ {l:List (Nat × Nat)} {h h':List Int},place l h=some h'->(∀ q ∈ l,q.1 < h.length)->∀ q ∈ l,numAt h q.1= -1
 | [],h,h',_,_=>fun q hq=>by simp at hq
 | a :: l,h,h',hp,hl=>by
  unfold place at hp;split at hp
  ·rename_i ha
   intro q hq;rcases List.mem_cons.1 hq with rfl | hq
   ·exact ha
   ·have:=place_free hp (fun q hq=>by rw [List.length_set];exact hl q (by simp [hq])) q hq
    rw [numAt_set (hl a (by simp))] at this;split at this
    ·omega
    ·exact this
  ·cases hp
theorem place_some:∀ {l:List (Nat × Nat)} {h h':List Int},place l h=some h'->(∀ q ∈ l,q.1 < h.length)->h'.length=h.length/\(∀ q ∈ l,numAt h' q.1=q.2)/\∀ c,(∀ q ∈ l,q.1 ≠ c)->numAt h' c=numAt h c
 | [],h,h',hp,_=>by
  unfold place at hp;cases hp
  exact ⟨rfl,fun q hq=>by simp at hq,fun _ _=>rfl⟩
 | a :: l,h,h',hp,hl=>by
  unfold place at hp;split at hp
  ·rename_i ha
   have hl':∀ q ∈ l,q.1 < (h.set a.1 a.2).length:=fun q hq=>by rw [List.length_set];exact hl q (by simp [hq])
   obtain ⟨h1,h2,h3⟩:=place_some hp hl';have h4:=place_free hp hl';refine ⟨by rw [h1,List.length_set],fun q hq=> ?_,fun c hc=> ?_⟩
   ·rcases List.mem_cons.1 hq with rfl | hq
    ·rw [h3 q.1 (fun r hr he=> ?_),numAt_set (hl q (by simp)),if_pos rfl]
     have:=h4 r hr
     rw [he,numAt_set (hl q (by simp)),if_pos rfl] at this;omega
    ·exact h2 q hq
   ·rw [h3 c (fun q hq=>hc q (by simp [hq])),numAt_set (hl a (by simp)),if_neg (hc a (by simp))]
  ·cases hp
theorem place_can:∀ {l:List (Nat × Nat)} {h:List Int},(∀ q ∈ l,q.1 < h.length/\numAt h q.1= -1)->(l.map Prod.fst).Nodup->∃ h',place l h=some h'
 | [],h,_,_=>⟨h,rfl⟩
 | a :: l,h,hl,hn=>by
  rw [List.map_cons,List.nodup_cons] at hn;unfold place;rw [if_pos (hl a (by simp)).2];refine place_can (fun q hq=>⟨by rw [List.length_set];exact (hl q (by simp [hq])).1, ?_⟩) hn.2;rw [numAt_set (hl a (by simp)).1,if_neg]
  ·exact (hl q (by simp [hq])).2
  ·intro he
   exact hn.1 (he ▸ List.mem_map_of_mem hq)
def musts (s:Sys):List (Nat × Nat):=((List.range s.tasks.length).map fun k=>(must (taskAt s.tasks k)).map fun x=>(x.cell.toNat,k)).flatten
def locksOk (s:Sys):Bool:=
 match place (musts s) (List.replicate s.cells.length (-1)) with
 | none=>false
 | some h=>allB s.cells.length fun i=>decide ((cellAt s.cells i).lock=numAt h i)
theorem numAt_rep {n i:Nat} (h:i < n):numAt (List.replicate n (-1)) i= -1:=by simp [numAt,h]
theorem mem_musts {s:Sys} {c k:Nat} (hp:∀ i,i < s.tasks.length->PutsIn s.cells.length (taskAt s.tasks i).puts) (h0:∀ i,i < s.tasks.length->0<=(taskAt s.tasks i).at_):(c,k) ∈ musts s ↔ k < s.tasks.length/\holds (taskAt s.tasks k) c=true:=by
 unfold musts;rw [List.mem_flatten];constructor
 ·rintro ⟨l,hl,hq⟩
  obtain ⟨j,hj,rfl⟩:=List.mem_map.1 hl;rw [List.mem_range] at hj;obtain ⟨x,hx,he⟩:=List.mem_map.1 hq;injection he with he1 he2;subst he2;refine ⟨hj,(holds_must (hp j hj) (h0 j hj)).2 ⟨x,hx, ?_⟩⟩;have:=(must_asc (hp j hj)).2 x hx;omega
 ·rintro ⟨hk,hh⟩
  obtain ⟨x,hx,he⟩:=(holds_must (hp k hk) (h0 k hk)).1 hh;exact ⟨_,List.mem_map.2 ⟨k,List.mem_range.2 hk,rfl⟩,List.mem_map.2 ⟨x,hx,by rw [he];simp⟩⟩
theorem musts_lt {s:Sys} (hp:∀ i,i < s.tasks.length->PutsIn s.cells.length (taskAt s.tasks i).puts):∀ q ∈ musts s,q.1 < s.cells.length:=by
 intro q hq;unfold musts at hq;obtain ⟨l,hl,hq⟩:=List.mem_flatten.1 hq;obtain ⟨j,hj,rfl⟩:=List.mem_map.1 hl;rw [List.mem_range] at hj;obtain ⟨x,hx,rfl⟩:=List.mem_map.1 hq;have:=(must_asc (hp j hj)).2 x hx;show x.cell.toNat < _;omega
theorem locks_iff {s:Sys} (hp:∀ i,i < s.tasks.length->PutsIn s.cells.length (taskAt s.tasks i).puts) (h0:∀ i,i < s.tasks.length->0<=(taskAt s.tasks i).at_):
  locksOk s=true ↔ ∀ i,i < s.cells.length->(-1<=(cellAt s.cells i).lock/\(cellAt s.cells i).lock<=s.tasks.length - 1)/\∀ k,k < s.tasks.length->(holds (taskAt s.tasks k) i=true ↔ (cellAt s.cells i).lock=k):=by
 have hlt:∀ q ∈ musts s,q.1 < (List.replicate s.cells.length (-1:Int)).length:=fun q hq=>by rw [List.length_replicate];exact musts_lt hp q hq
 unfold locksOk;constructor
 ·intro h
  cases hpl:place (musts s) (List.replicate s.cells.length (-1)) with
  | none=>rw [hpl] at h;cases h
  | some g=>
   rw [hpl] at h;obtain ⟨_,g2,g3⟩:=place_some hpl hlt;intro i hi
   have hli:(cellAt s.cells i).lock=numAt g i:=by
    have:=allB_iff.1 h i hi
    simpa using this
   by_cases hex:∃ k,(i,k) ∈ musts s
   ·obtain ⟨k,hk⟩:=hex
    have hgk:=g2 _ hk;have hk':=(mem_musts hp h0).1 hk;rw [hli,show numAt g i=(k:Int) from hgk];refine ⟨by omega,fun j hj=>⟨fun hh=> ?_,fun he=> ?_⟩⟩
    ·have:=g2 _ ((mem_musts hp h0).2 ⟨hj,hh⟩)
     rw [<-this];exact hgk.symm
    ·have:k=j:=by omega
     rw [<-this];exact hk'.2
   ·have hg:numAt g i= -1:=by
     rw [g3 i (fun q hq he=>hex ⟨q.2,by rw [<-he];exact hq⟩),numAt_rep hi]
    rw [hli,hg];refine ⟨by omega,fun j hj=>⟨fun hh=>absurd ⟨j,(mem_musts hp h0).2 ⟨hj,hh⟩⟩ hex,fun he=>by omega⟩⟩
 ·intro h
  have hnd:((musts s).map Prod.fst).Nodup:=by
   have he:(musts s).map Prod.fst=((List.range s.tasks.length).map fun k=>(must (taskAt s.tasks k)).map fun x=>x.cell.toNat).flatten:=by
    unfold musts;rw [List.map_flatten,List.map_map];congr 1;refine List.map_congr_left fun k _=> ?_
    simp only [Function.comp,List.map_map];rfl
   rw [he];refine nodup_flat (fun k hk=> ?_) ?_
   ·rw [List.mem_range] at hk
    obtain ⟨h1,h2⟩:=must_asc (hp k hk);rw [List.Nodup,List.pairwise_map];refine List.Pairwise.imp_of_mem (fun {a b} ha hb hab=> ?_) h1;have:=h2 a ha;have:=h2 b hb;omega
   ·refine List.Pairwise.imp_of_mem (fun {a b} ha hb hab c hca hcb=> ?_) List.pairwise_lt_range
    rw [List.mem_range] at ha hb;obtain ⟨x,hx,rfl⟩:=List.mem_map.1 hca;obtain ⟨y,hy,hxy⟩:=List.mem_map.1 hcb;have hx2:=(must_asc (hp a ha)).2 x hx;have hy2:=(must_asc (hp b hb)).2 y hy;have hc:=(h x.cell.toNat (by omega)).2;have h1:=(hc a ha).1 ((holds_must (hp a ha) (h0 a ha)).2 ⟨x,hx,by omega⟩);have h2:=(hc b hb).1 ((holds_must (hp b hb) (h0 b hb)).2 ⟨y,hy,by omega⟩);omega
  obtain ⟨g,hg⟩:=place_can (h:=List.replicate s.cells.length (-1)) (fun q hq=>⟨hlt q hq,numAt_rep (musts_lt hp q hq)⟩) hnd;obtain ⟨_,g2,g3⟩:=place_some hg hlt;rw [hg];show allB _ _=true;rw [allB_iff];intro i hi;rw [decide_eq_true_eq];obtain ⟨h1,h2⟩:=h i hi;by_cases hex:∃ k,(i,k) ∈ musts s
  ·obtain ⟨k,hk⟩:=hex
   have hk':=(mem_musts hp h0).1 hk;rw [(h2 k hk'.1).1 hk'.2];exact (g2 _ hk).symm
  ·have hgi:numAt g i= -1:=by
    rw [g3 i (fun q hq he=>hex ⟨q.2,by rw [<-he];exact hq⟩),numAt_rep hi]
   rw [hgi];by_cases hl:(cellAt s.cells i).lock= -1
   ·exact hl
   ·exfalso
    have hk:(cellAt s.cells i).lock.toNat < s.tasks.length:=by omega
    have:=(h2 _ hk).2 (by omega)
    exact hex ⟨_,(mem_musts hp h0).2 ⟨hk,this⟩⟩
end Go.Proofs.YtclangliilnijaaGreatDoor.Eq
namespace Go.Proofs.YtclangliilnijaaGreatDoor.Eq
open Go.RowKit Go.Proofs.YtclangliilnijaaGreatDoorW.PrintWords Go.Proofs.YtclangliilnijaaGreatDoorW.PrintLast Go.Proofs.YtclangliilnijaaGreatDoorW.PrintMore
def MustPost (t:Task) (ts:List Value) (w:World) (e:Ending) (w':World):Prop:=∃ A c,e= .returned (.slice A (must t).length c)/\(∀ V,kTask.K V t ts->kPut.C V A (must t).length (must t))/\Below w.heap.size w w'
theorem task_puts {V:World} {t:Task} {a0 a1 a2 a3 a4 a5 a6 a7 a8 a9 a11 a12:Value} {A:Option Addr} {n c:Nat} (h:kTask.K V t [a0,a1,a2,a3,a4,a5,a6,a7,a8,a9,.slice A n c,a11,a12]):kPut.C V A t.puts.length t.puts:=by
 obtain ⟨_,_,_,_,_,_,_,_,he,-,-,-,-,-,-,-,g10⟩:=kTask_open h;simp only [List.cons.injEq,Value.slice.injEq,true_and] at he;obtain ⟨-,-,-,-,-,-,-,-,-,-,⟨rfl,-,-⟩,-⟩:=he;exact g10
theorem mustHold_calls (t:Task) (ts:List Value) (w:World) (ht:kTask.K w t ts) (hz:t.puts.length<=1048576) (h25:t.stage=2\/t.stage=5->0<=t.at_/\t.at_<=t.puts.length):
  Calls Tryz.prog 170 #[.agg ts.toArray] w (MustPost t ts w):=by
 obtain ⟨B3,d3,B8,d8,B9,d9,B10,d10,rfl,-,-,-,-,-,-,l10,g10⟩:=kTask_open ht;obtain ⟨i0,hi0,_,hsz,_⟩:=info_parts info_put;have G:=am g10;have M:=am (Own.nil w);have C:=M.out.cl;clear ht g10;go_enter Tryz.func170,Tryz.ntmps170;by_cases h2:t.stage=2
 ·have y2:(t.stage == 2)=true:=by simp [h2]
  obtain ⟨p0,p1⟩:=h25 (Or.inl h2);have HM:Aside0 (must t=t.puts.take t.at_.toNat):=⟨by unfold must;rw [if_pos h2]⟩;have hl:(t.puts.take t.at_.toNat).length=t.at_.toNat:=by rw [List.length_take];omega
  have hcut:=cut_to (P:=Tryz.prog) 57 65 .i64 Tryz.underlying57 hi0 B10 t.puts.length d10 t.at_ p0 p1 l10;have HLE:t.at_.toNat<=t.puts.length:=by omega
  have HL:=am hl;have q0:(0<=t.at_)=True:=eq_true p0;have q1:(t.at_<=(t.puts.length:Int))=True:=eq_true p1;clear h2 hi0 hl p0 p1 l10 h25
  go_wp2_with (first
  |((first|with_reducible refine gB ?_ | with_reducible refine gA ?_);refine oB rfl M.out ?_;clear M C;intro g W M C;simp only [Cl] at C))
  go_ret;exact ⟨B10,d10,by rw [HM.out,HL.out];rfl,by rw [HM.out];exact fun V hV=>Kd.C_take (task_puts hV) (by omega),M.out.below⟩
 by_cases h34:t.stage=3\/t.stage=4
 ·have HM:Aside0 (must t=t.puts):=⟨by unfold must;rw [if_neg h2,if_pos h34]⟩
  have y2:(t.stage == 2)=false:=by simpa using h2
  clear h2 hi0 l10 h25 hsz;rcases h34 with h3 | h3
  all_goals
   obtain ⟨b3,y3⟩:∃ b,(t.stage == 3)=b:=⟨_,rfl⟩;obtain ⟨b4,y4⟩:∃ b,(t.stage == 4)=b:=⟨_,rfl⟩;rw [h3] at y3 y4;cases y3;cases y4;have y3:(t.stage == 3)=_:=congrArg (· == (3:Int)) h3;have y4:(t.stage == 4)=_:=congrArg (· == (4:Int)) h3;simp only [Int.reduceBEq] at y3 y4;clear h3
   go_wp2_with (first
   |((first|with_reducible refine gB ?_ | with_reducible refine gA ?_);refine oB rfl M.out ?_;clear M C;intro g W M C;simp only [Cl] at C))
   go_ret;exact ⟨B10,d10,by rw [HM.out];rfl,by rw [HM.out];exact fun V hV=>task_puts hV,M.out.below⟩
 have y2:(t.stage == 2)=false:=by simpa using h2
 have y3:(t.stage == 3)=false:=by simp;omega
 have y4:(t.stage == 4)=false:=by simp;omega
 by_cases h5:t.stage=5
 ·have y5:(t.stage == 5)=true:=by simp [h5]
  obtain ⟨p0,p1⟩:=h25 (Or.inr h5);have HM:Aside0 (must t=t.puts.drop t.at_.toNat):=⟨by unfold must;rw [if_neg h2,if_neg h34,if_pos h5]⟩;have hl:(t.puts.drop t.at_.toNat).length=t.puts.length - t.at_.toNat:=List.length_drop;have hcut:=cut_from (P:=Tryz.prog) 57 65 .i64 Tryz.underlying57 hi0 2 hsz B10 t.puts.length d10 t.at_ p0 p1;have HLE:t.at_.toNat<=t.puts.length:=by omega
  obtain ⟨A,hA⟩:∃ A,A=(if d10=t.at_.toNat then B10 else B10.map (·.add (t.at_.toNat*2))):=⟨_,rfl⟩;rw [<-hA] at hcut;have HA:=am hA;clear hA;have HL:=am hl;have q0:(0<=t.at_)=True:=eq_true p0;have q1:(t.at_<=(t.puts.length:Int))=True:=eq_true p1;clear h2 h34 h5 hi0 hl p0 p1 h25
  go_wp2_with (first
  |((first|with_reducible refine gB ?_ | with_reducible refine gA ?_);refine oB rfl M.out ?_;clear M C;intro g W M C;simp only [Cl] at C))
  go_ret;exact ⟨A,d10 - t.at_.toNat,by rw [HM.out,HL.out];rfl,by rw [HM.out,HA.out];exact fun V hV=>Kd.C_drop (task_puts hV) (by omega) l10,M.out.below⟩
 have y5:(t.stage == 5)=false:=by simpa using h5
 have HM:Aside0 (must t= []):=⟨by unfold must;rw [if_neg h2,if_neg h34,if_neg h5]⟩;clear h2 h34 h5 hi0 l10 h25
 go_wp2_with (first
 |((first|with_reducible refine gB ?_ | with_reducible refine gA ?_);refine oB rfl M.out ?_;clear M C;intro g W M C;simp only [Cl] at C))
 go_ret;exact ⟨none,0,by rw [HM.out];rfl,by rw [HM.out];exact fun V _=>C_nil _ _,M.out.below⟩
def mustsTo (s:Sys) (n:Nat):List (Nat × Nat):=((List.range n).map fun k=>(must (taskAt s.tasks k)).map fun x=>(x.cell.toNat,k)).flatten
theorem mustsTo_succ (s:Sys) (n:Nat):mustsTo s (n+1)=mustsTo s n ++ (must (taskAt s.tasks n)).map fun x=>(x.cell.toNat,n):=by simp [mustsTo,List.range_succ]
theorem place_app:∀ (a b:List (Nat × Nat)) (h:List Int),place (a ++ b) h=(place a h).bind (place b)
 | [],_,_=>rfl
 | q :: a,b,h=>by
  show (if numAt h q.1= -1 then place (a ++ b) (h.set q.1 q.2) else none)=(if numAt h q.1= -1 then place a (h.set q.1 q.2) else none).bind (place b);split
  ·exact place_app a b _
  ·rfl
theorem mustsTo_all {s:Sys}:∀ {n k:Nat},k < n->∃ b,mustsTo s n=mustsTo s k ++ ((must (taskAt s.tasks k)).map fun x=>(x.cell.toNat,k)) ++ b
 | n+1,k,h=>by
  rcases Nat.lt_or_ge k n with hk | hk
  ·obtain ⟨b,hb⟩:=mustsTo_all (s:=s) hk
   exact ⟨b ++ _,by rw [mustsTo_succ,hb,List.append_assoc]⟩
  ·obtain rfl:k=n:=by omega
   exact ⟨[],by rw [mustsTo_succ,List.append_nil]⟩
theorem locks_no {s:Sys} {k j:Nat} {hs:List Int} (hk:k < s.tasks.length) (hj:j < (must (taskAt s.tasks k)).length)
  (hp:place (mustsTo s k ++ ((must (taskAt s.tasks k)).take j).map fun x=>(x.cell.toNat,k)) (List.replicate s.cells.length (-1))=some hs) (hx:numAt hs (putAt (must (taskAt s.tasks k)) j).cell.toNat ≠ -1):locksOk s=false:=by
 obtain ⟨b,hb⟩:=mustsTo_all (s:=s) hk
 have hn:place (musts s) (List.replicate s.cells.length (-1))=none:=by
  show place (mustsTo s s.tasks.length) _=none;obtain ⟨m,hm⟩:∃ m,m=must (taskAt s.tasks k):=⟨_,rfl⟩;rw [<-hm] at hp hj hx hb
  have hd:m.map (fun x=>(x.cell.toNat,k))=(m.take j).map (fun x=>(x.cell.toNat,k)) ++ ((putAt m j).cell.toNat,k) :: (m.drop (j+1)).map (fun x=>(x.cell.toNat,k)):=by
   have h0:m=m.take j ++ putAt m j :: m.drop (j+1):=by
    conv=>(lhs;rw [<-List.take_append_drop j m,List.drop_eq_getElem_cons hj])
    simp [putAt,hj]
   conv=>(lhs;rw [h0])
   simp
  rw [hb,hd,<-List.append_assoc,List.append_assoc (mustsTo s k ++ _),place_app,hp];show place (_ :: _) hs=none;unfold place;rw [if_neg hx]
 unfold locksOk;rw [hn]
theorem locks_yes {s:Sys} {hs:List Int} (hp:place (mustsTo s s.tasks.length) (List.replicate s.cells.length (-1))=some hs):locksOk s=allB s.cells.length fun i=>decide ((cellAt s.cells i).lock=numAt hs i):=by
 unfold locksOk;rw [show place (musts s) (List.replicate s.cells.length (-1))=some hs from hp]
theorem must_len (t:Task):(must t).length<=t.puts.length:=by
 unfold must;repeat' split
 all_goals simp
 omega
def minus (n k:Nat):List Int:=List.replicate k (-1) ++ List.replicate (n - k) 0
theorem minus_len {n k:Nat} (h:k<=n):(minus n k).length=n:=by simp [minus];omega
theorem minus_set {n k:Nat} (h:k < n):(minus n k).set k (-1)=minus n (k+1):=by
 apply List.ext_getElem?;intro i;unfold minus;simp only [List.getElem?_set,List.getElem?_append,List.length_append,List.length_replicate,List.getElem?_replicate];repeat' split
 all_goals first | rfl|(exfalso;omega)
theorem locksOk_calls (s:Sys) (ss:List Value) (w:World) (hs:kSys.K w s ss) (hn:s.tasks.length<=1048576) (hm:s.cells.length<=1048576)
  (hf:∀ i,i < s.tasks.length->PutsIn s.cells.length (taskAt s.tasks i).puts/\(taskAt s.tasks i).puts.length<=1048576/\0<=(taskAt s.tasks i).at_/\((taskAt s.tasks i).stage=2\/(taskAt s.tasks i).stage=5->(taskAt s.tasks i).at_<=(taskAt s.tasks i).puts.length)):
  Calls Tryz.prog 131 #[.agg ss.toArray] w fun e w'=>e= .returned (.bool (locksOk s))/\Below w.heap.size w w':=by
 obtain ⟨A0,c0,A1,c1,A3,c3,rfl,-,g0,-,g1,-⟩:=kSys_open hs;have G0:=am g0;have G1:=am g1;have HF:=am hf;have HMC:=am hm;have M:=am (Own.nil w);have C:=M.out.cl;clear hs g0 g1 hf;go_enter Tryz.func131,Tryz.ntmps131
 go_wp2_with (first
 |((first|with_reducible refine gB ?_ | with_reducible refine gA ?_);refine oB rfl M.out ?_;clear M C;intro g W M C;simp only [Cl] at C)
 |(refine oM rfl rfl rfl Tryz.underlying22 info_int M.out HMC.out ?_;clear M C;intro gH W M C;simp only [Cl] at C))
 obtain ⟨L,EL,ML⟩:=Own.namedT M;go_loopw [4,17] (fun _ j w'=>∃ k:Nat,k<=s.cells.length/\j= .int .i64 k/\Aside0 (Own w w' (.b gH (nums .i64 (minus s.cells.length k)).toArray 3 :: L))) (fun _ j _=>s.cells.length - (intOf j).toNat)
 case atStart=>exact ⟨0,Nat.zero_le _,rfl,ML⟩
 case round=>
  obtain ⟨k,hk,rfl,M2⟩:=hrel;have eL:=EL.out;subst eL;clear M C ML EL;have M:=M2;clear M2;have C:=M.out.cl;simp only [Cl] at C;by_cases hlt:k < s.cells.length
  ·have q0:(0:Int)<=(k:Int):=by omega
   have q1:(k:Int) < (s.cells.length:Int):=by omega
   have HL:=am (show k < (minus s.cells.length k).length by rw [minus_len hk];exact hlt)
   go_wp2_with (first
   |((with_reducible refine gS ?_);refine oI (j:=k) rfl rfl rfl M.out (hs:=minus s.cells.length k) .here HL.out ?_;clear M C;intro W M C;simp only [Cl] at C))
   go_roundw
   case rel=>exact ⟨k+1,by omega,by go_num,by rw [<-minus_set hlt];exact M⟩
   case measure=>simp [intOf];omega
  ·obtain rfl:k=s.cells.length:=by omega
   have q1:¬ (s.cells.length:Int) < (s.cells.length:Int):=by omega
   go_wp2_with fail
   clear q1 hk;obtain ⟨L,EL,ML⟩:=Own.namedT M;go_loopw [5,6,8,27,33,34,35] (fun _ _ _ j _ _ _ w'=>∃ (k:Nat) (hs:List Int),k<=s.tasks.length/\j= .int .i64 k/\Aside0 (hs.length=s.cells.length/\place (mustsTo s k) (List.replicate s.cells.length (-1))=some hs)/\Aside0 (Own w w' (.b gH (nums .i64 hs).toArray 3 :: L))) (fun _ _ _ j _ _ _ _=>s.tasks.length - (intOf j).toNat)
   case atStart=>exact ⟨0,_,Nat.zero_le _,rfl,⟨minus_len (Nat.le_refl _),by simp [mustsTo,place,minus]⟩,ML⟩
   case round=>
    obtain ⟨k,hs,hk,rfl,HP,M2⟩:=hrel;have eL:=EL.out;subst eL;clear M C ML EL;have M:=M2;clear M2;have C:=M.out.cl;simp only [Cl] at C;by_cases hlt:k < s.tasks.length
    ·have q0:(0:Int)<=(k:Int):=by omega
     have q1:(k:Int) < (s.tasks.length:Int):=by omega
     obtain ⟨b,o,cs,rfl,hcl,hK,hcc,-⟩:=C_field G1.out zTask k hlt (by decide);obtain ⟨t,ht⟩:∃ x,x=taskAt s.tasks k:=⟨_,rfl⟩;rw [show s.tasks.getD k zTask=t from ht.symm] at hK;have HTK:=am hK;obtain ⟨B3,d3,B8,d8,B9,d9,B10,d10,rfl,-⟩:=kTask_open hK;have HC:=am hcc;have HT:=am ht;have HFk:=am (ht ▸ HF.out k hlt);clear hcl hK hcc ht
     go_wp2_with (first
     |((first|with_reducible refine gB ?_ | with_reducible refine gA ?_);refine oB rfl M.out ?_;clear M C;intro g W M C;simp only [Cl] at C)
     |((with_reducible refine gL ?_);refine oR rfl rfl M.out HC.out ?_)
     |((with_reducible refine gL ?_);refine oL rfl rfl M.out ?_)
     |((with_reducible refine gS ?_);refine oS rfl rfl rfl M.out ?_;clear M C;intro W M C;simp only [Cl] at C)
     |(go_at_call 170;refine (mustHold_calls t _ _ (kTask.K_below M.out.below HTK.out) HFk.out.2.1 (fun h=>⟨HFk.out.2.2.1,HFk.out.2.2.2 h⟩)).mono ?_;rintro e W ⟨Am,cm,rfl,hrow,hb⟩;have KX:=am (hrow w HTK.out);clear hrow;replace M:=am (M.out.step hb);clear C;have C:=M.out.cl;simp only [Cl] at C;clear hb))
     clear q0 q1;obtain ⟨E,L,EE,EL,ML⟩:=Own.namedX M;go_loopw [8,35] (fun _ i w'=>∃ (j:Nat) (hs2:List Int),j<=(must t).length/\i= .int .i64 j/\Aside0 (hs2.length=s.cells.length/\place (mustsTo s k ++ ((must t).take j).map fun x=>(x.cell.toNat,k)) (List.replicate s.cells.length (-1))=some hs2)/\Aside0 (Own w w' (E :: .b gH (nums .i64 hs2).toArray 3 :: L))) (fun _ i _=>(must t).length - (intOf i).toNat)
     case atStart=>exact ⟨0,hs,Nat.zero_le _,rfl,⟨HP.out.1,by rw [List.take_zero,List.map_nil,List.append_nil];exact HP.out.2⟩,ML⟩
     case round=>
      obtain ⟨j,hs2,hj,rfl,HP2,M2⟩:=hrel;have eE:=EE.out;subst eE;clear EE;have eL:=EL.out;subst eL;clear M C ML EL;have M:=M2;clear M2;have C:=M.out.cl;simp only [Cl] at C;have HML:(must t).length<=1048576:=Nat.le_trans (must_len t) HFk.out.2.1;by_cases hjt:j < (must t).length
      ·have s0:(0:Int)<=(j:Int):=by omega
       have s1:(j:Int) < ((must t).length:Int):=by omega
       obtain ⟨b2,o2,cs2,rfl,hcl2,hK2,hcc2,-⟩:=C_field KX.out zPut j hjt (by decide);obtain ⟨x,hx⟩:∃ x,x=putAt (must t) j:=⟨_,rfl⟩;rw [show (must t).getD j zPut=x from hx.symm] at hK2;have e2:=kPut_open hK2;subst e2;have HC2:=am hcc2;have hin:0<=x.cell/\x.cell < s.cells.length:=(must_asc HFk.out.1).2 x (by rw [hx];unfold putAt;rw [List.getD_eq_getElem?_getD,List.getElem?_eq_getElem hjt];exact List.getElem_mem hjt);obtain ⟨c,hc⟩:=Int.eq_ofNat_of_zero_le hin.1;have hcl:c < hs2.length:=by rw [HP2.out.1];omega
       have hget:(nums .i64 hs2)[c]? = some (.int .i64 (numAt hs2 c)):=by rw [<-List.getElem?_toArray];exact nums_get hcl
       have HX:=am hx;have HCC:=am hc;have HIN:=am hcl;have hcn:x.cell.toNat=c:=by omega
       have HCN:=am hcn;rw [hc] at HC2;have r0:(0:Int)<=(c:Int):=by omega
       have r1:(c:Int) < (s.cells.length:Int):=by have:=HP2.out.1;omega
       clear hcl2 hK2 hcc2 hx hc hin hcl hcn;by_cases hv:numAt hs2 c= -1
       ·have y1:(numAt hs2 c != -1)=false:=by simp [hv]
        have HV:=am hv;clear hv
        go_wp2_with (first
        |((first|with_reducible refine gB ?_ | with_reducible refine gA ?_);refine oB rfl M.out ?_;clear M C;intro g W M C;simp only [Cl] at C)
        |((with_reducible refine gL ?_);refine oR rfl rfl M.out HC2.out ?_)
        |((with_reducible refine gS ?_);refine oS rfl rfl rfl M.out ?_;clear M C;intro W M C;simp only [Cl] at C)
        |((with_reducible refine gS ?_);refine oI (j:=c) rfl rfl rfl M.out (.there (.there .here)) HIN.out ?_;clear M C;intro W M C;simp only [Cl] at C))
        go_roundw
        case rel=>exact ⟨j+1,hs2.set c k,by omega,by go_num,⟨by rw [List.length_set];exact HP2.out.1,by
         rw [List.take_succ_eq_append_getElem hjt,List.map_append,<-List.append_assoc,place_app,HP2.out.2,show (must t)[j]=x by rw [HX.out];simp [putAt,hjt]];show (if numAt hs2 x.cell.toNat= -1 then place [] (hs2.set x.cell.toNat (k:Int)) else none)=_;rw [HCN.out,if_pos HV.out];rfl⟩,⟨M.out.pop⟩⟩
        case measure=>simp [intOf];omega
       ·have y1:(numAt hs2 c != -1)=true:=by simp [hv]
        have HV:=am hv;clear hv
        go_wp2_with (first
        |((first|with_reducible refine gB ?_ | with_reducible refine gA ?_);refine oB rfl M.out ?_;clear M C;intro g W M C;simp only [Cl] at C)
        |((with_reducible refine gL ?_);refine oR rfl rfl M.out HC2.out ?_)
        |((with_reducible refine gS ?_);refine oS rfl rfl rfl M.out ?_;clear M C;intro W M C;simp only [Cl] at C))
        go_ret;rw [locks_no hlt (by rw [<-HT.out];exact hjt) (by rw [<-HT.out];exact HP2.out.2) (by rw [<-HT.out,<-HX.out,HCN.out];exact HV.out)];exact ⟨rfl,M.out.below⟩
      ·obtain rfl:j=(must t).length:=by omega
       have s1:¬ ((must t).length:Int) < ((must t).length:Int):=by omega
       go_wp2;go_roundw
       case rel=>exact ⟨k+1,hs2,by omega,by go_num,⟨HP2.out.1,by rw [mustsTo_succ,<-HT.out];have:=HP2.out.2;rwa [List.take_length] at this⟩,⟨M.out.pop⟩⟩
       case measure=>simp [intOf];omega
    ·obtain rfl:k=s.tasks.length:=by omega
     have q1:¬ (s.tasks.length:Int) < (s.tasks.length:Int):=by omega
     have HY:=am (locks_yes HP.out.2);go_wp2_with fail
     clear q1;obtain ⟨L,EL,ML⟩:=Own.namedT M;go_loopw [9,10,55] (fun _ _ j w'=>∃ k:Nat,k<=s.cells.length/\j= .int .i64 k/\Aside0 (∀ i,i < k->(cellAt s.cells i).lock=numAt hs i)/\Aside0 (Own w w' (.b gH (nums .i64 hs).toArray 3 :: L))) (fun _ _ j _=>s.cells.length - (intOf j).toNat)
     case atStart=>exact ⟨0,Nat.zero_le _,rfl,⟨fun i hi=>by omega⟩,ML⟩
     case round=>
      obtain ⟨k,hk,rfl,HJ,M2⟩:=hrel;have eL:=EL.out;subst eL;clear M C ML EL;have M:=M2;clear M2;have C:=M.out.cl;simp only [Cl] at C;by_cases hlt:k < s.cells.length
      ·have q0:(0:Int)<=(k:Int):=by omega
       have q1:(k:Int) < (s.cells.length:Int):=by omega
       obtain ⟨b,o,cs,rfl,hcl,hK,hcc,-⟩:=C_field G0.out zCell k hlt (by decide);obtain ⟨cc,hcx⟩:∃ x,x=cellAt s.cells k:=⟨_,rfl⟩;rw [show s.cells.getD k zCell=cc from hcx.symm] at hK;have e2:=kCell_open hK;subst e2;have HC:=am hcc;have HCX:=am hcx;have hget:(nums .i64 hs)[k]? = some (.int .i64 (numAt hs k)):=by rw [<-List.getElem?_toArray];exact nums_get (by rw [HP.out.1];exact hlt)
       have HLN:=am HP.out.1;clear hcl hK hcc hcx;by_cases hv:cc.lock=numAt hs k
       ·have y1:(cc.lock != numAt hs k)=false:=by simp [hv]
        have HV:=am hv;clear hv
        go_wp2_with (first
        |((first|with_reducible refine gB ?_ | with_reducible refine gA ?_);refine oB rfl M.out ?_;clear M C;intro g W M C;simp only [Cl] at C)
        |((with_reducible refine gL ?_);refine oR rfl rfl M.out HC.out ?_)
        |((with_reducible refine gS ?_);refine oS rfl rfl rfl M.out ?_;clear M C;intro W M C;simp only [Cl] at C))
        refine dS M.out ?_;clear M C;intro W M;refine dN [0,1,2,3,4,5,6] M.out ?_;iterate 7 (first|refine sP rfl ?_ | refine sG rfl ?_ | refine sU rfl ?_)
        refine stillS_nil ?_;refine dD ?_;have C:=M.out.cl;simp only [Cl] at C;go_wp2;go_roundw
        case rel=>exact ⟨k+1,by omega,by go_num,⟨fun i hi=>by rcases Nat.lt_or_ge i k with h | h;exact HJ.out i h;obtain rfl:i=k:=(by omega);rw [<-HCX.out];exact HV.out⟩,⟨M.out.pop⟩⟩
        case measure=>simp [intOf];omega
       ·have y1:(cc.lock != numAt hs k)=true:=by simp [hv]
        have HV:=am hv;clear hv
        go_wp2_with (first
        |((first|with_reducible refine gB ?_ | with_reducible refine gA ?_);refine oB rfl M.out ?_;clear M C;intro g W M C;simp only [Cl] at C)
        |((with_reducible refine gL ?_);refine oR rfl rfl M.out HC.out ?_)
        |((with_reducible refine gS ?_);refine oS rfl rfl rfl M.out ?_;clear M C;intro W M C;simp only [Cl] at C))
        refine dS M.out ?_;clear M C;intro W M;refine dN [0,1,2,3,4,5,6] M.out ?_;iterate 7 (first|refine sP rfl ?_ | refine sG rfl ?_ | refine sU rfl ?_)
        refine stillS_nil ?_;refine dD ?_;have C:=M.out.cl;simp only [Cl] at C;go_wp2;go_ret;rw [HY.out,show (allB s.cells.length fun i=>decide ((cellAt s.cells i).lock=numAt hs i))=false from allB_no hlt (decide_eq_false (by rw [<-HCX.out];exact HV.out))];exact ⟨rfl,M.out.below⟩
      ·obtain rfl:k=s.cells.length:=by omega
       have q1:¬ (s.cells.length:Int) < (s.cells.length:Int):=by omega
       go_wp2;go_ret;rw [HY.out,show (allB s.cells.length fun i=>decide ((cellAt s.cells i).lock=numAt hs i))=true from allB_iff.2 (fun i hi=>decide_eq_true (HJ.out i hi))];exact ⟨rfl,M.out.below⟩
def logAt (p:Prog) (s:Sys) (i:Nat):Bool:=
 let e:=entryAt s.log i
 placeB e.task s.tasks.length && placeB e.act (actsAt p.bodies (taskAt s.tasks e.task.toNat).body.toNat).length && !decide (e.when_ < 0) && !decide (s.clock < e.when_) && !decide (e.from_ < 0) && !decide ((i:Int) < e.from_) && listOk e.reads s.cells.length && listOk e.puts s.cells.length
def logB (p:Prog) (s:Sys):Bool:=allB s.log.length (logAt p s)
theorem logBad {q:Prop} (h:q:=by
  go_wp2_with (go_at_call 169;refine oCb M.out (putsOk_calls _ _ _ _ _ (by first|exact Kd.C_below R3.out M.out.below | exact Kd.C_below R4.out M.out.below) (by first|exact HZ.out.1 | exact HZ.out.2)) (by first|exact Y7.out | exact Y8.out) ?_;clear M C;intro W M C;simp only [Cl] at C)
  go_ret;rw [show logB p s=false from allB_no hlt (by rw [HU.out];try rfl)];exact ⟨rfl,M.out.below⟩):q:=h
theorem logOk_calls (p:Prog) (ps:List Value) (s:Sys) (ss:List Value) (w:World) (hp:kProg.K w p ps) (hs:kSys.K w s ss) (hl:s.log.length<=1048576)
  (hf:∀ i,i < s.tasks.length->0<=(taskAt s.tasks i).body/\(taskAt s.tasks i).body < p.bodies.length) (hz:∀ i,i < s.log.length->(entryAt s.log i).reads.length<=1048576/\(entryAt s.log i).puts.length<=1048576):
  Calls Tryz.prog 132 #[.agg ps.toArray,.agg ss.toArray] w fun e w'=>e= .returned (.bool (logB p s))/\Below w.heap.size w w':=by
 obtain ⟨Ac,cc,Ab,cb,rfl,-,-,-,gb⟩:=kProg_open hp;obtain ⟨A0,c0,A1,c1,A3,c3,rfl,-,-,-,g1,-,g3⟩:=kSys_open hs;have GB:=am gb;have G1:=am g1;have G3:=am g3;have HF:=am hf;have HZA:=am hz;have M:=am (Own.nil w);have C:=M.out.cl;clear hp hs gb g1 g3 hf hz;go_enter Tryz.func132,Tryz.ntmps132
 go_wp2_with (first
 |((first|with_reducible refine gB ?_ | with_reducible refine gA ?_);refine oB rfl M.out ?_;clear M C;intro g W M C;simp only [Cl] at C))
 obtain ⟨L,EL,ML⟩:=Own.named M;go_loopw [5,6,10] (fun _ _ j w'=>∃ k:Nat,k<=s.log.length/\j= .int .i64 k/\Aside0 (∀ i,i < k->logAt p s i=true)/\Aside0 (Own w w' L)) (fun _ _ j _=>s.log.length - (intOf j).toNat)
 case atStart=>exact ⟨0,Nat.zero_le _,rfl,⟨fun i hi=>by omega⟩,ML⟩
 case round=>
  obtain ⟨k,hk,rfl,HJ,M2⟩:=hrel;have eL:=EL.out;subst eL;clear M C ML EL;have M:=M2;clear M2;have C:=M.out.cl;simp only [Cl] at C;by_cases hlt:k < s.log.length
  ·have q0:(0:Int)<=(k:Int):=by omega
   have q1:(k:Int) < (s.log.length:Int):=by omega
   obtain ⟨b,o,cs,rfl,hcl,hK,hcc,-⟩:=C_field G3.out zEntry k hlt (by decide);obtain ⟨e,he⟩:∃ x,x=entryAt s.log k:=⟨_,rfl⟩;rw [show s.log.getD k zEntry=e from he.symm] at hK;obtain ⟨E3,f3,E4,f4,rfl,-,gr,-,gp⟩:=kEntry_open hK;have HC:=am hcc;have R3:=am gr;have R4:=am gp;have HZ:=am (he ▸ HZA.out k hlt);obtain ⟨b1,y1⟩:∃ b,placeB e.task s.tasks.length=b:=⟨_,rfl⟩;obtain ⟨b2,y2⟩:∃ b,placeB e.act (actsAt p.bodies (taskAt s.tasks e.task.toNat).body.toNat).length=b:=⟨_,rfl⟩;obtain ⟨b3,y3⟩:∃ b,decide (e.when_ < 0)=b:=⟨_,rfl⟩;obtain ⟨b4,y4⟩:∃ b,decide (s.clock < e.when_)=b:=⟨_,rfl⟩;obtain ⟨b5,y5⟩:∃ b,decide (e.from_ < 0)=b:=⟨_,rfl⟩;obtain ⟨b6,y6⟩:∃ b,decide ((k:Int) < e.from_)=b:=⟨_,rfl⟩;obtain ⟨b7,y7⟩:∃ b,listOk e.reads s.cells.length=b:=⟨_,rfl⟩;obtain ⟨b8,y8⟩:∃ b,listOk e.puts s.cells.length=b:=⟨_,rfl⟩;have HU:Aside0 (logAt p s k=(b1 && b2 && !b3 && !b4 && !b5 && !b6 && b7 && b8)):=⟨by rw [<-y1,<-y2,<-y3,<-y4,<-y5,<-y6,<-y7,<-y8,he];rfl⟩;have Y1:=am y1;have Y2:=am y2;have Y7:=am y7;have Y8:=am y8;clear hcl hK hcc gr gp he y1 y2 y7 y8
   go_wp2_with (first
   |((first|with_reducible refine gB ?_ | with_reducible refine gA ?_);refine oB rfl M.out ?_;clear M C;intro g W M C;simp only [Cl] at C)
   |((with_reducible refine gL ?_);refine oR rfl rfl M.out HC.out ?_)
   |((with_reducible refine gS ?_);refine oS rfl rfl rfl M.out ?_;clear M C;intro W M C;simp only [Cl] at C))
   cases b1
   case false=>
    clear Y2;refine dS M.out ?_;clear M C;intro W M;refine dN [0,1,2,3,4] M.out ?_;iterate 5 (first|refine sP rfl ?_ | refine sG rfl ?_ | refine sU rfl ?_)
    refine stillS_nil ?_;refine dC 5 rfl ?_;refine oEb (isPlace_calls _ _ _) Y1.out ?_;refine ⟨_,rfl,M,dA ?_⟩;refine dN [6,7,8,9,10,11,12,13,14,15,16,17,18,19,20,21] M.out ?_;iterate 16 (first|refine sP rfl ?_ | refine sG rfl ?_ | refine sU rfl ?_)
    refine stillS_nil ?_;refine dU 22 rfl rfl M.out (dA ?_);refine dN [23,24] M.out ?_;iterate 2 (first|refine sP rfl ?_ | refine sG rfl ?_ | refine sU rfl ?_)
    refine stillS_nil ?_;refine dD ?_;have C:=M.out.cl;simp only [Cl] at C;exact logBad
   have hb:=(Bool.and_eq_true_iff).1 (show (decide (0<=e.task) && decide (e.task < (s.tasks.length:Int)))=true from Y1.out);have hb0:0<=e.task:=of_decide_eq_true hb.1;have hb1:e.task < s.tasks.length:=of_decide_eq_true hb.2;obtain ⟨n,hn⟩:=Int.eq_ofNat_of_zero_le hb0;have hnl:n < s.tasks.length:=by omega
   have v4:e.task.toNat=n:=by omega
   obtain ⟨b9,o9,cs9,rfl,hcl,hK,hcc,-⟩:=C_field G1.out zTask n hnl (by decide);obtain ⟨B3,d3,B8,d8,B9,d9,B10,d10,rfl,-⟩:=kTask_open hK;have p0:=hcc 0 _ rfl;rw [show s.tasks.getD n zTask=taskAt s.tasks n from rfl] at p0;simp only [show kTask.sz=13 from rfl,Nat.add_zero] at p0;clear hcl hK hcc hb;obtain ⟨hb0',hb1'⟩:=HF.out n hnl;obtain ⟨kb,hkb0⟩:=Int.eq_ofNat_of_zero_le hb0';have hkb:kb < p.bodies.length:=by omega
   obtain ⟨bb,ob,cs2,rfl,hcl2,hK2,hcc2,-⟩:=C_field GB.out ([]:List Act) kb hkb (by decide);obtain ⟨Aa,ca,rfl,la,-⟩:=hK2;have p2:=hcc2 0 _ rfl;simp only [show (Kd.slice 68 kAct).sz=1 from rfl,Nat.mul_one,Nat.add_zero] at p2;rw [hkb0] at p0;have e2:(actsAt p.bodies (taskAt s.tasks e.task.toNat).body.toNat).length=(p.bodies.getD kb []).length:=by rw [v4,hkb0,Int.toNat_natCast];rfl
   rw [e2] at Y2;rw [hn] at Y1;replace M:=am ((M.out.far p2).far p0);have n0:(0:Int)<=(n:Int):=by omega
   have n1:(n:Int) < (s.tasks.length:Int):=by omega
   have k0:(0:Int)<=(kb:Int):=by omega
   have k1:(kb:Int) < (p.bodies.length:Int):=by omega
   clear C hcl2 hcc2 p2 p0 la hkb0 hkb e2 hb0' hb1';have C:=M.out.cl;simp only [Cl] at C;refine dS M.out ?_;clear M C;intro W M;refine dN [0,1,2,3,4] M.out ?_;iterate 5 (first|refine sP rfl ?_ | refine sG rfl ?_ | refine sU rfl ?_)
   refine stillS_nil ?_;refine dC 5 rfl ?_;refine oEb (isPlace_calls _ _ _) Y1.out ?_;refine ⟨_,rfl,M,dA ?_⟩;refine dN [6,7,8,9,10,11,12,13,14,15,16,17,18,19,20,21] M.out ?_;iterate 16 (first|refine sP rfl ?_ | refine sG rfl ?_ | refine sU rfl ?_)
   refine stillS_nil ?_;cases b2
   case false=>
    refine dC 22 rfl ?_;refine oEb (isPlace_calls _ _ _) Y2.out ?_;refine ⟨_,rfl,M,dA ?_⟩;refine dN [23,24] M.out ?_;iterate 2 (first|refine sP rfl ?_ | refine sG rfl ?_ | refine sU rfl ?_)
    refine stillS_nil ?_;refine dD ?_;have C:=M.out.cl;simp only [Cl] at C;exact logBad
   refine dC 22 rfl ?_;refine oEb (isPlace_calls _ _ _) Y2.out ?_;refine ⟨_,rfl,M,dA ?_⟩;refine dN [23,24] M.out ?_;iterate 2 (first|refine sP rfl ?_ | refine sG rfl ?_ | refine sU rfl ?_)
   refine stillS_nil ?_;refine dD ?_;have C:=M.out.cl;simp only [Cl] at C;cases b3
   case true=>exact logBad
   cases b4
   case true=>exact logBad
   cases b5
   case true=>exact logBad
   cases b6
   case true=>exact logBad
   cases b7
   case false=>exact logBad
   cases b8
   case false=>exact logBad
   go_wp2_with (first
   |(go_at_call 169;refine oCb M.out (putsOk_calls _ _ _ _ _ (by first|exact Kd.C_below R3.out M.out.below | exact Kd.C_below R4.out M.out.below) (by first|exact HZ.out.1 | exact HZ.out.2)) (by first|exact Y7.out | exact Y8.out) ?_;clear M C;intro W M C;simp only [Cl] at C))
   go_roundw
   case rel=>exact ⟨k+1,by omega,by go_num,⟨fun i hi=>by rcases Nat.lt_or_ge i k with h | h;exact HJ.out i h;obtain rfl:i=k:=(by omega);rw [HU.out];rfl⟩,⟨M.out.pop.pop.pop⟩⟩
   case measure=>simp [intOf];omega
  ·obtain rfl:k=s.log.length:=by omega
   have q1:¬ (s.log.length:Int) < (s.log.length:Int):=by omega
   go_wp2;go_ret;rw [show logB p s=true from allB_iff.2 HJ.out];exact ⟨rfl,M.out.below⟩
def partD (d:Deed):Value:=
 if d.kind=1 then .iface 244 (.agg #[.int .i64 d.a,.int .i64 d.b])
 else if d.kind=2 then .iface 246 (.agg #[.int .i64 d.a,.int .i64 d.b])
 else if d.kind=3 then .iface 248 (.agg #[.int .i64 d.a,.int .i64 d.b])
 else if d.kind=4 then .iface 250 (.agg #[.int .i64 d.a,.int .i64 d.b])
 else if d.kind=5 then (if d.b=0 then .iface 251 (.agg #[.int .i64 d.a]) else .nilIface)
 else .nilIface
theorem partF {q:Prop} (h:q:=by
  go_wp2_with ((first|with_reducible refine gB ?_ | with_reducible refine gA ?_);refine oB rfl M.out ?_;clear M C;intro g W M C;simp only [Cl] at C)
  go_ret;rw [HU.out];exact ⟨rfl,M.out.below⟩):q:=h
theorem partOfDeed_calls (d:Deed) (ds:List Value) (w:World) (hd:kDeed.K w d ds):
  Calls Tryz.prog 204 #[.agg ds.toArray] w fun e w'=>e= .returned (partD d)/\Below w.heap.size w w':=by
 obtain rfl:=kDeed_open hd;have M:=am (Own.nil w);have C:=M.out.cl;clear hd;go_enter Tryz.func204,Tryz.ntmps204;by_cases h1:d.kind=1
 ·have y1:(d.kind == 1)=true:=by simp [h1]
  have HU:Aside0 (partD d=_):=⟨by unfold partD;rw [if_pos h1]⟩;exact partF
 have y1:(d.kind == 1)=false:=by simpa using h1
 by_cases h2:d.kind=2
 ·have y2:(d.kind == 2)=true:=by simp [h2]
  have HU:Aside0 (partD d=_):=⟨by unfold partD;rw [if_neg h1,if_pos h2]⟩;exact partF
 have y2:(d.kind == 2)=false:=by simpa using h2
 by_cases h3:d.kind=3
 ·have y3:(d.kind == 3)=true:=by simp [h3]
  have HU:Aside0 (partD d=_):=⟨by unfold partD;rw [if_neg h1,if_neg h2,if_pos h3]⟩;exact partF
 have y3:(d.kind == 3)=false:=by simpa using h3
 by_cases h4:d.kind=4
 ·have y4:(d.kind == 4)=true:=by simp [h4]
  have HU:Aside0 (partD d=_):=⟨by unfold partD;rw [if_neg h1,if_neg h2,if_neg h3,if_pos h4]⟩;exact partF
 have y4:(d.kind == 4)=false:=by simpa using h4
 by_cases h5:d.kind=5
 ·have y5:(d.kind == 5)=true:=by simp [h5]
  by_cases hb:d.b=0
  ·have yb:(d.b == 0)=true:=by simp [hb]
   have HU:Aside0 (partD d=_):=⟨by unfold partD;rw [if_neg h1,if_neg h2,if_neg h3,if_neg h4,if_pos h5,if_pos hb]⟩;exact partF
  ·have yb:(d.b == 0)=false:=by simpa using hb
   have HU:Aside0 (partD d=_):=⟨by unfold partD;rw [if_neg h1,if_neg h2,if_neg h3,if_neg h4,if_pos h5,if_neg hb]⟩;exact partF
 have y5:(d.kind == 5)=false:=by simpa using h5
 have HU:Aside0 (partD d=_):=⟨by unfold partD;rw [if_neg h1,if_neg h2,if_neg h3,if_neg h4,if_neg h5]⟩;exact partF
theorem ta_run {P:Program} (T xT:TypeId) (z:Value) (hB:(match P.underlying T with | some (.interface _)=>false | some _=>true | none=>false)=true) (hz:((P.info? T).bind (·.zero))=some z):
  (∀ (t:TypeId) (v:Value) (W:World),(Instr.typeAssert (.iface t v) xT T true).run P W= .ok (if t=T then .tuple #[v,.bool true] else .tuple #[z,.bool false]) W)/\∀ W:World,(Instr.typeAssert .nilIface xT T true).run P W= .ok (.tuple #[z,.bool false]) W:=by
 obtain ⟨j,hj,hjz⟩:=Option.bind_eq_some_iff.1 hz
 cases hu:P.underlying T with
 | none=>rw [hu] at hB;cases hB
 | some d=>
  rw [hu] at hB;constructor
  ·intro t v W
   unfold Instr.typeAssert;simp only [Sem.run_bind,run_underlying hu,Result.andThen_ok];by_cases h:t=T
   ·cases d <;> first|(cases hB;done)|(dsimp only;simp [h,Result.andThen_ok])
   ·cases d <;> first|(cases hB;done)|(dsimp only;simp [h,zeroValue,typeInfo,hj,hjz,Result.andThen_ok])
  ·intro W
   unfold Instr.typeAssert;simp only [Sem.run_bind,run_underlying hu,Result.andThen_ok];cases d <;> first|(cases hB;done)|(dsimp only;simp [zeroValue,typeInfo,hj,hjz,Result.andThen_ok])
theorem inB_reg (x:Int):(decide (0<=x) && decide (x < 3))=inB x 0 2:=by rw [Bool.eq_iff_iff,inB_iff];simp;omega
theorem inB_place (x n:Int):(decide (0<=x) && decide (x < n))=inB x 0 (n - 1):=by rw [Bool.eq_iff_iff,inB_iff];simp;omega
theorem pdeedF {q:Prop} (h:q:=by
  go_wp2_with (first
  |((first|with_reducible refine gB ?_ | with_reducible refine gA ?_);refine oB rfl M.out ?_;clear M C;intro g W M C;simp only [Cl] at C)
  |((with_reducible refine gS ?_);refine oS rfl rfl rfl M.out ?_;clear M C;intro W M C;simp only [Cl] at C)
  |(go_at_call 192;refine oEb (isReg_calls _ _) (by first|exact Y1.out | exact Y2.out) ?_)
  |(go_at_call 167;refine oEb (isNum_calls _ _) Y2.out ?_)
  |(go_at_call 136;refine oEb (isPlace_calls _ _ _) (by first|exact Y1.out | exact Y2.out) ?_))
  go_ret;rw [HU.out];exact ⟨rfl,M.out.below⟩):q:=h
theorem deedOk_calls (d:Deed) (n:Int) (w:World):
  Calls Tryz.prog 203 #[partD d,.int .i64 n] w fun e w'=>e= .returned (.bool (deedOk d n))/\Below w.heap.size w w':=by
 have M:=am (Own.nil w);have C:=M.out.cl;have a_loadDeed:=ta_run (P:=Tryz.prog) 244 207 (.agg #[.int .i64 0,.int .i64 0]) (by kernel_rfl) (by kernel_rfl);have a_storeDeed:=ta_run (P:=Tryz.prog) 246 207 (.agg #[.int .i64 0,.int .i64 0]) (by kernel_rfl) (by kernel_rfl);have a_numDeed:=ta_run (P:=Tryz.prog) 248 207 (.agg #[.int .i64 0,.int .i64 0]) (by kernel_rfl) (by kernel_rfl);have a_addDeed:=ta_run (P:=Tryz.prog) 250 207 (.agg #[.int .i64 0,.int .i64 0]) (by kernel_rfl) (by kernel_rfl);have a_needDeed:=ta_run (P:=Tryz.prog) 251 207 (.agg #[.int .i64 0]) (by kernel_rfl) (by kernel_rfl);by_cases h1:d.kind=1
 ·have y1:(d.kind == 1)=true:=by simp [h1]
  obtain ⟨b1,y1⟩:∃ b,(decide (0<=d.a) && decide (d.a < 3))=b:=⟨_,rfl⟩;obtain ⟨b2,y2⟩:∃ b,(decide (0<=d.b) && decide (d.b < n))=b:=⟨_,rfl⟩;have HU:Aside0 (deedOk d n=(b1 && b2)):=⟨by unfold deedOk;rw [if_pos h1,<-y1,<-y2,inB_reg d.a,inB_place d.b n]⟩;rw [show partD d=_ from by unfold partD;rw [if_pos h1]];have Y1:=am y1;have Y2:=am y2;clear y1 y2;go_enter Tryz.func203,Tryz.ntmps203;cases b1;exact pdeedF;exact pdeedF
 have y1:(d.kind == 1)=false:=by simpa using h1
 by_cases h2:d.kind=2
 ·have y2:(d.kind == 2)=true:=by simp [h2]
  obtain ⟨b1,y1⟩:∃ b,(decide (0<=d.a) && decide (d.a < n))=b:=⟨_,rfl⟩;obtain ⟨b2,y2⟩:∃ b,(decide (0<=d.b) && decide (d.b < 3))=b:=⟨_,rfl⟩;have HU:Aside0 (deedOk d n=(b1 && b2)):=⟨by unfold deedOk;rw [if_neg h1,if_pos h2,<-y1,<-y2,inB_place d.a n,inB_reg d.b]⟩;rw [show partD d=_ from by unfold partD;rw [if_neg h1,if_pos h2]];have Y1:=am y1;have Y2:=am y2;clear y1 y2;go_enter Tryz.func203,Tryz.ntmps203;cases b1;exact pdeedF;exact pdeedF
 have y2:(d.kind == 2)=false:=by simpa using h2
 by_cases h3:d.kind=3
 ·have y3:(d.kind == 3)=true:=by simp [h3]
  obtain ⟨b1,y1⟩:∃ b,(decide (0<=d.a) && decide (d.a < 3))=b:=⟨_,rfl⟩;obtain ⟨b2,y2⟩:∃ b,(decide (0<=d.b) && decide (d.b < 100))=b:=⟨_,rfl⟩;have HU:Aside0 (deedOk d n=(b1 && b2)):=⟨by unfold deedOk;rw [if_neg h1,if_neg h2,if_pos h3,<-y1,<-y2,inB_reg d.a,num_in d.b]⟩;rw [show partD d=_ from by unfold partD;rw [if_neg h1,if_neg h2,if_pos h3]];have Y1:=am y1;have Y2:=am y2;clear y1 y2;go_enter Tryz.func203,Tryz.ntmps203;cases b1;exact pdeedF;exact pdeedF
 have y3:(d.kind == 3)=false:=by simpa using h3
 by_cases h4:d.kind=4
 ·have y4:(d.kind == 4)=true:=by simp [h4]
  obtain ⟨b1,y1⟩:∃ b,(decide (0<=d.a) && decide (d.a < 3))=b:=⟨_,rfl⟩;obtain ⟨b2,y2⟩:∃ b,(decide (0<=d.b) && decide (d.b < 3))=b:=⟨_,rfl⟩;have HU:Aside0 (deedOk d n=(b1 && b2)):=⟨by unfold deedOk;rw [if_neg h1,if_neg h2,if_neg h3,if_pos h4,<-y1,<-y2,inB_reg d.a,inB_reg d.b]⟩;rw [show partD d=_ from by unfold partD;rw [if_neg h1,if_neg h2,if_neg h3,if_pos h4]];have Y1:=am y1;have Y2:=am y2;clear y1 y2;go_enter Tryz.func203,Tryz.ntmps203;cases b1;exact pdeedF;exact pdeedF
 have y4:(d.kind == 4)=false:=by simpa using h4
 by_cases h5:d.kind=5
 ·have y5:(d.kind == 5)=true:=by simp [h5]
  by_cases hb:d.b=0
  ·rw [show partD d=_ from by unfold partD;rw [if_neg h1,if_neg h2,if_neg h3,if_neg h4,if_pos h5,if_pos hb]]
   have HU:Aside0 (deedOk d n=(decide (0<=d.a) && decide (d.a < 3))):=⟨by unfold deedOk;rw [if_neg h1,if_neg h2,if_neg h3,if_neg h4,if_pos h5,decide_eq_true hb,Bool.and_true,inB_reg]⟩;have Y1:Aside0 (True):=⟨trivial⟩;go_enter Tryz.func203,Tryz.ntmps203
   go_wp2_with (first
   |((first|with_reducible refine gB ?_ | with_reducible refine gA ?_);refine oB rfl M.out ?_;clear M C;intro g W M C;simp only [Cl] at C)
   |((with_reducible refine gS ?_);refine oS rfl rfl rfl M.out ?_;clear M C;intro W M C;simp only [Cl] at C)
   |(go_at_call 192;refine oEb (isReg_calls _ _) rfl ?_))
   go_ret;rw [HU.out];exact ⟨rfl,M.out.below⟩
  ·rw [show partD d=_ from by unfold partD;rw [if_neg h1,if_neg h2,if_neg h3,if_neg h4,if_pos h5,if_neg hb]]
   have HU:Aside0 (deedOk d n=false):=⟨by unfold deedOk;rw [if_neg h1,if_neg h2,if_neg h3,if_neg h4,if_pos h5,decide_eq_false hb,Bool.and_false]⟩;go_enter Tryz.func203,Tryz.ntmps203;exact stageEF
 have y5:(d.kind == 5)=false:=by simpa using h5
 rw [show partD d=_ from by unfold partD;rw [if_neg h1,if_neg h2,if_neg h3,if_neg h4,if_neg h5]];have HU:Aside0 (deedOk d n=false):=⟨by unfold deedOk;rw [if_neg h1,if_neg h2,if_neg h3,if_neg h4,if_neg h5]⟩;go_enter Tryz.func203,Tryz.ntmps203;exact stageEF
end Go.Proofs.YtclangliilnijaaGreatDoor.Eq
