import Derived.Test.YtimamoimphjakaaU3
set_option maxHeartbeats 8000000
set_option maxRecDepth 100000
set_option linter.unusedVariables false
set_option linter.unusedSimpArgs false
namespace Go.Proofs.Ytimamoimphjakaa.Eq
open Go.RowKit Go.Proofs.YtimamoimphjakaaW.PrintWords Go.Proofs.YtimamoimphjakaaW.PrintLast Go.Proofs.YtimamoimphjakaaW.PrintMore
theorem put_cells {w:World} {A:Option Addr} {xs:List Put} (h:kPut.C w A xs.length xs):∃ b o,(0 < xs.length->A=some ⟨b,o,none⟩)/\∀ k,k < xs.length->w.cell? ⟨b,o+k*2,none⟩=some (.int .i64 (putAt xs k).cell)/\w.cell? ⟨b,o+k*2+1,none⟩=some (.int .i64 (putAt xs k).num):=by
 by_cases h0:0 < xs.length
 ·obtain ⟨b,o,cs,rfl,-⟩:=C_field h zPut 0 h0 (by decide)
  refine ⟨b,o,fun _=>rfl,fun k hk=> ?_⟩;obtain ⟨b',o',cs,he,hcl,hK,hcc,-⟩:=C_field h zPut k hk (by decide);cases he;have e:=kPut_open hK;subst e;have p0:=hcc 0 _ rfl;have p1:=hcc 1 _ rfl;simp only [show kPut.sz=2 from rfl,Nat.add_zero] at p0 p1;exact ⟨p0,p1⟩
 ·exact ⟨0,0,fun h=>absurd h h0,fun k hk=>by omega⟩
theorem l12List_calls (A:Option Addr) (c:Nat) (xs:List Put) (cells:Int) (w:World) (hx:kPut.C w A xs.length xs) (hn:xs.length<=1048576) (h0:0<=cells) (h1:cells<=1048576):
  Calls Try.prog 92 #[.slice A xs.length c,.int .i64 cells] w fun e w'=>e= .returned (.bool (listOk xs cells))/\Below w.heap.size w w':=by
 obtain ⟨b,o,hA,hcell⟩:=put_cells hx;have HC:=am hcell;clear hx hcell;go_enter Try.func92,Try.ntmps92;go_wp2;go_loopw [5] (fun j w'=>∃ k:Nat,k<=xs.length/\j= .int .i64 k/\Aside0 (∀ i,i < k->(inB (putAt xs i).cell 0 (cells - 1) && inB (putAt xs i).num 0 99 && (decide (i=0) || decide ((putAt xs (i - 1)).cell < (putAt xs i).cell)))=true)/\Aside0 (Below w.heap.size w w')) (fun j _=>xs.length - (intOf j).toNat)
 case atStart=>exact ⟨0,Nat.zero_le _,rfl,⟨fun i hi=>by omega⟩,⟨Below.refl _ _⟩⟩
 case round=>
  obtain ⟨k,hk,rfl,HJ,HB⟩:=hrel;by_cases hlt:k < xs.length
  ·obtain rfl:=hA (by omega)
   have q0:(0:Int)<=(k:Int):=by omega
   have q1:(k:Int) < (xs.length:Int):=by omega
   obtain ⟨x,hxx⟩:∃ x,x=putAt xs k:=⟨_,rfl⟩;have p0:=cellB HB.out (HC.out k hlt).1;have p1:=cellB HB.out (HC.out k hlt).2;rw [<-hxx] at p0 p1;have HXX:=am hxx;have w1:wrap64 (cells - 1)=cells - 1:=by unfold wrap64;omega
   clear hxx
   cases hb1:inB x.cell 0 (cells - 1) with
   | false=>
    have H1:Aside0 ((decide ((0:Int)<=x.cell) && decide (x.cell<=cells - 1))=false):=⟨hb1⟩;clear hb1;go_wp2;refine st9 (n:=36) (S:=fun W=>W.cell? ⟨b,o+k*2,none⟩=some (.int .i64 x.cell)/\W.cell? ⟨b,o+k*2+1,none⟩=some (.int .i64 x.num)) (ds:= []) (by kernel_rfl) rfl ⟨p0,p1⟩ (fun hHeld=> ?_);have hb:=below_drew (Below.refl wr.heap.size wr);generalize wr.drew=w7 at hb hHeld ⊢;have HB7:=am (below_step HB.out hb);clear hb HB p0 p1;refine ba9 (fuel:=29) (n:=7) [0,1,2,3,4,5,6] (by kernel_rfl) (fun N _ _ _ _ h=>by cases N <;> exact h) hHeld ?_
    iterate 7 (
     refine stillS_step (v:= ?_) (a':= ?_) rfl (Or.inl ⟨by rfl, ?_⟩) ?_ ?_;rotate_left
     ·rintro W ⟨s2,s3⟩
      go_simp
      with_reducible rfl
     rotate_left
     ·simp only [Act.put,sA,sZ,sS,i64_w]
      rfl)
    refine stillS_nil ?_;refine on9 (i:=7) (N:=some 19) rfl rfl (by kernel_rfl) (by decide) (fun K hK=> ?_);refine goes_ Try.func50 (by kernel_rfl) rfl #[.int .i64 x.cell,.int .i64 0,.int .i64 (wrap64 (cells - 1))] (by rfl) rfl rfl (by (try simp only [List.map_toArray,List.map_cons,List.map_nil]);first | done | rfl) ?_;refine (l6In_calls x.cell 0 (wrap64 (cells - 1)) _).mono ?_;rw [w1,H1.out];rintro e wn ⟨rfl,rfl⟩;refine ⟨_,rfl, ?_⟩;refine hK.out _ _ hHeld (fun hHeld=> ?_);clear hK K;refine norm_ (a':= ?_) ?_ ?_;rotate_left
    ·show Act.put _ (some 19) _=_
     simp only [Act.put,sA,sZ,sS,i64_w];rfl
    refine ba9 (fuel:=21) (n:=7) [8,9,10,11,12,13,14] (by kernel_rfl) (fun N _ _ _ _ h=>by cases N <;> exact h) hHeld ?_
    iterate 2 (
     refine stillS_step (v:= ?_) (a':= ?_) rfl (Or.inl ⟨by rfl, ?_⟩) ?_ ?_;rotate_left
     ·rintro W ⟨s2,s3⟩
      go_simp
      with_reducible rfl
     rotate_left
     ·simp only [Act.put,sA,sZ,sS,i64_w]
      rfl)
    iterate 5 (
     refine stillS_step (v:=undef) (a':= ?_) rfl (Or.inr ⟨by rfl,rfl⟩) ?_ ?_;rotate_left
     ·simp only [Act.put,sA,sZ,sS]
      rfl)
    refine stillS_nil ?_;refine on9 (i:=15) (N:=some 27) rfl rfl (by kernel_rfl) (by decide) (fun K hK=> ?_);rw [if_neg (by exact Bool.false_ne_true)];refine hK.out _ _ hHeld (fun hHeld=> ?_);clear hK K;refine norm_ (a':= ?_) ?_ ?_;rotate_left
    ·show Act.put _ (some 27) _=_
     simp only [Act.put,sA,sZ,sS,i64_w];rfl
    refine ba9 (fuel:=0) (n:=20) [16,17,18,19,20,21,22,23,24,25,26,27,28,29,30,31,32,33,34,35] (by kernel_rfl) (fun N _ _ _ _ h=>by cases N <;> exact h) hHeld ?_
    iterate 1 (
     refine stillS_step (v:=undef) (a':= ?_) rfl (Or.inr ⟨by rfl,rfl⟩) ?_ ?_;rotate_left
     ·simp only [Act.put,sA,sZ,sS]
      rfl)
    iterate 2 (
     refine stillS_step (v:= ?_) (a':= ?_) rfl (Or.inl ⟨by rfl, ?_⟩) ?_ ?_;rotate_left
     ·rintro W ⟨s2,s3⟩
      go_simp
      with_reducible rfl
     rotate_left
     ·simp only [Act.put,sA,sZ,sS,i64_w]
      rfl)
    iterate 3 (
     refine stillS_step (v:=undef) (a':= ?_) rfl (Or.inr ⟨by rfl,rfl⟩) ?_ ?_;rotate_left
     ·simp only [Act.put,sA,sZ,sS]
      rfl)
    iterate 12 (
     refine stillS_step (v:=undef) (a':= ?_) rfl (Or.inr ⟨by rfl,rfl⟩) ?_ ?_;rotate_left
     ·simp only [Act.put,sA,sZ,sS]
      rfl)
    iterate 1 (
     refine stillS_step (v:=undef) (a':= ?_) rfl (Or.inr ⟨by rfl,rfl⟩) ?_ ?_;rotate_left
     ·simp only [Act.put,sA,sZ,sS]
      rfl)
    iterate 1 (
     refine stillS_step (v:= ?_) (a':= ?_) rfl (Or.inl ⟨by rfl, ?_⟩) ?_ ?_;rotate_left
     ·rintro W ⟨s2,s3⟩
      go_simp
      with_reducible rfl
     rotate_left
     ·simp only [Act.put,sA,sZ,sS,i64_w]
      rfl)
    refine stillS_nil ?_;refine done_ (by kernel_rfl) ?_;clear hHeld;go_wp2;go_ret
    have hr:listOk xs cells=false:=by
     unfold listOk;exact allB_no hlt (by rw [<-HXX.out,show inB x.cell 0 (cells - 1)=false from H1.out,Bool.false_and,Bool.false_and])
    rw [hr]
    exact ⟨rfl,HB7.out⟩
   | true=>
    have H1:Aside0 ((decide ((0:Int)<=x.cell) && decide (x.cell<=cells - 1))=true):=⟨hb1⟩;clear hb1
    cases hb2:inB x.num 0 99 with
    | false=>
     have H2:Aside0 ((decide ((0:Int)<=x.num) && decide (x.num<=99))=false):=⟨hb2⟩;clear hb2;go_wp2;refine st9 (n:=36) (S:=fun W=>W.cell? ⟨b,o+k*2,none⟩=some (.int .i64 x.cell)/\W.cell? ⟨b,o+k*2+1,none⟩=some (.int .i64 x.num)) (ds:= []) (by kernel_rfl) rfl ⟨p0,p1⟩ (fun hHeld=> ?_);have hb:=below_drew (Below.refl wr.heap.size wr);generalize wr.drew=w7 at hb hHeld ⊢;have HB7:=am (below_step HB.out hb);clear hb HB p0 p1;refine ba9 (fuel:=29) (n:=7) [0,1,2,3,4,5,6] (by kernel_rfl) (fun N _ _ _ _ h=>by cases N <;> exact h) hHeld ?_
     iterate 7 (
      refine stillS_step (v:= ?_) (a':= ?_) rfl (Or.inl ⟨by rfl, ?_⟩) ?_ ?_;rotate_left
      ·rintro W ⟨s2,s3⟩
       go_simp
       with_reducible rfl
      rotate_left
      ·simp only [Act.put,sA,sZ,sS,i64_w]
       rfl)
     refine stillS_nil ?_;refine on9 (i:=7) (N:=some 19) rfl rfl (by kernel_rfl) (by decide) (fun K hK=> ?_);refine goes_ Try.func50 (by kernel_rfl) rfl #[.int .i64 x.cell,.int .i64 0,.int .i64 (wrap64 (cells - 1))] (by rfl) rfl rfl (by (try simp only [List.map_toArray,List.map_cons,List.map_nil]);first | done | rfl) ?_;refine (l6In_calls x.cell 0 (wrap64 (cells - 1)) _).mono ?_;rw [w1,H1.out];rintro e wn ⟨rfl,rfl⟩;refine ⟨_,rfl, ?_⟩;refine hK.out _ _ hHeld (fun hHeld=> ?_);clear hK K;refine norm_ (a':= ?_) ?_ ?_;rotate_left
     ·show Act.put _ (some 19) _=_
      simp only [Act.put,sA,sZ,sS,i64_w];rfl
     refine ba9 (fuel:=21) (n:=7) [8,9,10,11,12,13,14] (by kernel_rfl) (fun N _ _ _ _ h=>by cases N <;> exact h) hHeld ?_
     iterate 2 (
      refine stillS_step (v:= ?_) (a':= ?_) rfl (Or.inl ⟨by rfl, ?_⟩) ?_ ?_;rotate_left
      ·rintro W ⟨s2,s3⟩
       go_simp
       with_reducible rfl
      rotate_left
      ·simp only [Act.put,sA,sZ,sS,i64_w]
       rfl)
     iterate 5 (
      refine stillS_step (v:= ?_) (a':= ?_) rfl (Or.inl ⟨by rfl, ?_⟩) ?_ ?_;rotate_left
      ·rintro W ⟨s2,s3⟩
       go_simp
       with_reducible rfl
      rotate_left
      ·simp only [Act.put,sA,sZ,sS,i64_w]
       rfl)
     refine stillS_nil ?_;refine on9 (i:=15) (N:=some 27) rfl rfl (by kernel_rfl) (by decide) (fun K hK=> ?_);refine goes_ Try.func50 (by kernel_rfl) rfl #[.int .i64 x.num,.int .i64 0,.int .i64 99] (by rfl) rfl rfl (by (try simp only [List.map_toArray,List.map_cons,List.map_nil]);first | done | rfl) ?_;refine (l6In_calls x.num 0 99 _).mono ?_;rw [H2.out];rintro e wn ⟨rfl,rfl⟩;refine ⟨_,rfl, ?_⟩;refine hK.out _ _ hHeld (fun hHeld=> ?_);clear hK K;refine norm_ (a':= ?_) ?_ ?_;rotate_left
     ·show Act.put _ (some 27) _=_
      simp only [Act.put,sA,sZ,sS,i64_w];rfl
     refine ba9 (fuel:=0) (n:=20) [16,17,18,19,20,21,22,23,24,25,26,27,28,29,30,31,32,33,34,35] (by kernel_rfl) (fun N _ _ _ _ h=>by cases N <;> exact h) hHeld ?_
     iterate 1 (
      refine stillS_step (v:= ?_) (a':= ?_) rfl (Or.inl ⟨by rfl, ?_⟩) ?_ ?_;rotate_left
      ·rintro W ⟨s2,s3⟩
       go_simp
       with_reducible rfl
      rotate_left
      ·simp only [Act.put,sA,sZ,sS,i64_w]
       rfl)
     iterate 2 (
      refine stillS_step (v:= ?_) (a':= ?_) rfl (Or.inl ⟨by rfl, ?_⟩) ?_ ?_;rotate_left
      ·rintro W ⟨s2,s3⟩
       go_simp
       with_reducible rfl
      rotate_left
      ·simp only [Act.put,sA,sZ,sS,i64_w]
       rfl)
     iterate 3 (
      refine stillS_step (v:=undef) (a':= ?_) rfl (Or.inr ⟨by rfl,rfl⟩) ?_ ?_;rotate_left
      ·simp only [Act.put,sA,sZ,sS]
       rfl)
     iterate 12 (
      refine stillS_step (v:=undef) (a':= ?_) rfl (Or.inr ⟨by rfl,rfl⟩) ?_ ?_;rotate_left
      ·simp only [Act.put,sA,sZ,sS]
       rfl)
     iterate 1 (
      refine stillS_step (v:=undef) (a':= ?_) rfl (Or.inr ⟨by rfl,rfl⟩) ?_ ?_;rotate_left
      ·simp only [Act.put,sA,sZ,sS]
       rfl)
     iterate 1 (
      refine stillS_step (v:= ?_) (a':= ?_) rfl (Or.inl ⟨by rfl, ?_⟩) ?_ ?_;rotate_left
      ·rintro W ⟨s2,s3⟩
       go_simp
       with_reducible rfl
      rotate_left
      ·simp only [Act.put,sA,sZ,sS,i64_w]
       rfl)
     refine stillS_nil ?_;refine done_ (by kernel_rfl) ?_;clear hHeld;go_wp2;go_ret
     have hr:listOk xs cells=false:=by
      unfold listOk;exact allB_no hlt (by rw [<-HXX.out,show inB x.num 0 99=false from H2.out,Bool.and_false,Bool.false_and])
     rw [hr]
     exact ⟨rfl,HB7.out⟩
    | true=>
     have H2:Aside0 ((decide ((0:Int)<=x.num) && decide (x.num<=99))=true):=⟨hb2⟩;clear hb2;by_cases hk0:k=0
     ·have y0:decide (0 < k)=false:=decide_eq_false (by omega)
      have y0':decide ((0:Int) < (k:Int))=false:=decide_eq_false (by omega);have HK0:=am hk0;clear hk0;go_wp2;refine st9 (n:=36) (S:=fun W=>W.cell? ⟨b,o+k*2,none⟩=some (.int .i64 x.cell)/\W.cell? ⟨b,o+k*2+1,none⟩=some (.int .i64 x.num)) (ds:= []) (by kernel_rfl) rfl ⟨p0,p1⟩ (fun hHeld=> ?_);have hb:=below_drew (Below.refl wr.heap.size wr);generalize wr.drew=w7 at hb hHeld ⊢;have HB7:=am (below_step HB.out hb);clear hb HB p0 p1;refine ba9 (fuel:=29) (n:=7) [0,1,2,3,4,5,6] (by kernel_rfl) (fun N _ _ _ _ h=>by cases N <;> exact h) hHeld ?_
      iterate 7 (
       refine stillS_step (v:= ?_) (a':= ?_) rfl (Or.inl ⟨by rfl, ?_⟩) ?_ ?_;rotate_left
       ·rintro W ⟨s2,s3⟩
        go_simp
        with_reducible rfl
       rotate_left
       ·simp only [Act.put,sA,sZ,sS,i64_w]
        rfl)
      refine stillS_nil ?_;refine on9 (i:=7) (N:=some 19) rfl rfl (by kernel_rfl) (by decide) (fun K hK=> ?_);refine goes_ Try.func50 (by kernel_rfl) rfl #[.int .i64 x.cell,.int .i64 0,.int .i64 (wrap64 (cells - 1))] (by rfl) rfl rfl (by (try simp only [List.map_toArray,List.map_cons,List.map_nil]);first | done | rfl) ?_;refine (l6In_calls x.cell 0 (wrap64 (cells - 1)) _).mono ?_;rw [w1,H1.out];rintro e wn ⟨rfl,rfl⟩;refine ⟨_,rfl, ?_⟩;refine hK.out _ _ hHeld (fun hHeld=> ?_);clear hK K;refine norm_ (a':= ?_) ?_ ?_;rotate_left
      ·show Act.put _ (some 19) _=_
       simp only [Act.put,sA,sZ,sS,i64_w];rfl
      refine ba9 (fuel:=21) (n:=7) [8,9,10,11,12,13,14] (by kernel_rfl) (fun N _ _ _ _ h=>by cases N <;> exact h) hHeld ?_
      iterate 2 (
       refine stillS_step (v:= ?_) (a':= ?_) rfl (Or.inl ⟨by rfl, ?_⟩) ?_ ?_;rotate_left
       ·rintro W ⟨s2,s3⟩
        go_simp
        with_reducible rfl
       rotate_left
       ·simp only [Act.put,sA,sZ,sS,i64_w]
        rfl)
      iterate 5 (
       refine stillS_step (v:= ?_) (a':= ?_) rfl (Or.inl ⟨by rfl, ?_⟩) ?_ ?_;rotate_left
       ·rintro W ⟨s2,s3⟩
        go_simp
        with_reducible rfl
       rotate_left
       ·simp only [Act.put,sA,sZ,sS,i64_w]
        rfl)
      refine stillS_nil ?_;refine on9 (i:=15) (N:=some 27) rfl rfl (by kernel_rfl) (by decide) (fun K hK=> ?_);refine goes_ Try.func50 (by kernel_rfl) rfl #[.int .i64 x.num,.int .i64 0,.int .i64 99] (by rfl) rfl rfl (by (try simp only [List.map_toArray,List.map_cons,List.map_nil]);first | done | rfl) ?_;refine (l6In_calls x.num 0 99 _).mono ?_;rw [H2.out];rintro e wn ⟨rfl,rfl⟩;refine ⟨_,rfl, ?_⟩;refine hK.out _ _ hHeld (fun hHeld=> ?_);clear hK K;refine norm_ (a':= ?_) ?_ ?_;rotate_left
      ·show Act.put _ (some 27) _=_
       simp only [Act.put,sA,sZ,sS,i64_w];rfl
      refine ba9 (fuel:=0) (n:=20) [16,17,18,19,20,21,22,23,24,25,26,27,28,29,30,31,32,33,34,35] (by kernel_rfl) (fun N _ _ _ _ h=>by cases N <;> exact h) hHeld ?_
      iterate 1 (
       refine stillS_step (v:= ?_) (a':= ?_) rfl (Or.inl ⟨by rfl, ?_⟩) ?_ ?_;rotate_left
       ·rintro W ⟨s2,s3⟩
        go_simp
        with_reducible rfl
       rotate_left
       ·simp only [Act.put,sA,sZ,sS,i64_w]
        rfl)
      iterate 2 (
       refine stillS_step (v:= ?_) (a':= ?_) rfl (Or.inl ⟨by rfl, ?_⟩) ?_ ?_;rotate_left
       ·rintro W ⟨s2,s3⟩
        go_simp
        with_reducible rfl
       rotate_left
       ·simp only [Act.put,sA,sZ,sS,i64_w]
        rfl)
      iterate 3 (
       refine stillS_step (v:= ?_) (a':= ?_) rfl (Or.inl ⟨by rfl, ?_⟩) ?_ ?_;rotate_left
       ·rintro W ⟨s2,s3⟩
        go_simp
        with_reducible rfl
       rotate_left
       ·simp only [Act.put,sA,sZ,sS,i64_w]
        rfl)
      iterate 12 (
       refine stillS_step (v:=undef) (a':= ?_) rfl (Or.inr ⟨by rfl,rfl⟩) ?_ ?_;rotate_left
       ·simp only [Act.put,sA,sZ,sS]
        rfl)
      iterate 1 (
       refine stillS_step (v:= ?_) (a':= ?_) rfl (Or.inl ⟨by rfl, ?_⟩) ?_ ?_;rotate_left
       ·rintro W ⟨s2,s3⟩
        go_simp
        with_reducible rfl
       rotate_left
       ·simp only [Act.put,sA,sZ,sS,i64_w]
        rfl)
      iterate 1 (
       refine stillS_step (v:= ?_) (a':= ?_) rfl (Or.inl ⟨by rfl, ?_⟩) ?_ ?_;rotate_left
       ·rintro W ⟨s2,s3⟩
        go_simp
        with_reducible rfl
       rotate_left
       ·simp only [Act.put,sA,sZ,sS,i64_w]
        rfl)
      refine stillS_nil ?_;refine done_ (by kernel_rfl) ?_;clear hHeld;go_wp2;go_roundw
      case rel=>exact ⟨k+1,by omega,by go_num,⟨fun i hi=>by rcases Nat.lt_or_ge i k with h | h;exact HJ.out i h;obtain rfl:i=k:=(by omega);rw [<-HXX.out,show inB x.cell 0 (cells - 1)=true from H1.out,show inB x.num 0 99=true from H2.out,decide_eq_true HK0.out,Bool.true_or];rfl⟩,HB7⟩
      case measure=>simp [intOf];omega
     ·have y0:decide (0 < k)=true:=decide_eq_true (by omega)
      have y0':decide ((0:Int) < (k:Int))=true:=decide_eq_true (by omega);have hk1:k - 1 < xs.length:=by omega
      obtain ⟨xp,hxp⟩:∃ x,x=putAt xs (k - 1):=⟨_,rfl⟩;have r0:=cellB HB.out (HC.out (k - 1) hk1).1;rw [<-hxp] at r0;have HXP:=am hxp;have HK0:=am hk0;have s0:(0:Int)<=(k:Int) - 1:=by omega
      have s1:(k:Int) - 1 < (xs.length:Int):=by omega
      have s4:((k:Int) - 1).toNat=k - 1:=by omega
      have s6:(1:Int)<=(k:Int):=by omega
      have s7:1<=k:=by omega
      have w2:wrap64 ((k:Int) - 1)=(k:Int) - 1:=by unfold wrap64;omega
      clear hxp hk1;by_cases hc:x.cell<=xp.cell
      ·have y1:decide (x.cell<=xp.cell)=true:=decide_eq_true hc
       have HC2:=am hc;clear hc hk0;go_wp2;refine st9 (n:=36) (S:=fun W=>W.cell? ⟨b,o+k*2,none⟩=some (.int .i64 x.cell)/\W.cell? ⟨b,o+k*2+1,none⟩=some (.int .i64 x.num)/\W.cell? ⟨b,o+(k - 1)*2,none⟩=some (.int .i64 xp.cell)) (ds:= []) (by kernel_rfl) rfl ⟨p0,p1,r0⟩ (fun hHeld=> ?_);have hb:=below_drew (Below.refl wr.heap.size wr);generalize wr.drew=w7 at hb hHeld ⊢;have HB7:=am (below_step HB.out hb);clear hb HB p0 p1 r0;refine ba9 (fuel:=29) (n:=7) [0,1,2,3,4,5,6] (by kernel_rfl) (fun N _ _ _ _ h=>by cases N <;> exact h) hHeld ?_
       iterate 7 (
        refine stillS_step (v:= ?_) (a':= ?_) rfl (Or.inl ⟨by rfl, ?_⟩) ?_ ?_;rotate_left
        ·rintro W ⟨s2,s3,s5⟩
         go_simp
         with_reducible rfl
        rotate_left
        ·simp only [Act.put,sA,sZ,sS,i64_w]
         rfl)
       refine stillS_nil ?_;refine on9 (i:=7) (N:=some 19) rfl rfl (by kernel_rfl) (by decide) (fun K hK=> ?_);refine goes_ Try.func50 (by kernel_rfl) rfl #[.int .i64 x.cell,.int .i64 0,.int .i64 (wrap64 (cells - 1))] (by rfl) rfl rfl (by (try simp only [List.map_toArray,List.map_cons,List.map_nil]);first | done | rfl) ?_;refine (l6In_calls x.cell 0 (wrap64 (cells - 1)) _).mono ?_;rw [w1,H1.out];rintro e wn ⟨rfl,rfl⟩;refine ⟨_,rfl, ?_⟩;refine hK.out _ _ hHeld (fun hHeld=> ?_);clear hK K;refine norm_ (a':= ?_) ?_ ?_;rotate_left
       ·show Act.put _ (some 19) _=_
        simp only [Act.put,sA,sZ,sS,i64_w];rfl
       refine ba9 (fuel:=21) (n:=7) [8,9,10,11,12,13,14] (by kernel_rfl) (fun N _ _ _ _ h=>by cases N <;> exact h) hHeld ?_
       iterate 2 (
        refine stillS_step (v:= ?_) (a':= ?_) rfl (Or.inl ⟨by rfl, ?_⟩) ?_ ?_;rotate_left
        ·rintro W ⟨s2,s3,s5⟩
         go_simp
         with_reducible rfl
        rotate_left
        ·simp only [Act.put,sA,sZ,sS,i64_w]
         rfl)
       iterate 5 (
        refine stillS_step (v:= ?_) (a':= ?_) rfl (Or.inl ⟨by rfl, ?_⟩) ?_ ?_;rotate_left
        ·rintro W ⟨s2,s3,s5⟩
         go_simp
         with_reducible rfl
        rotate_left
        ·simp only [Act.put,sA,sZ,sS,i64_w]
         rfl)
       refine stillS_nil ?_;refine on9 (i:=15) (N:=some 27) rfl rfl (by kernel_rfl) (by decide) (fun K hK=> ?_);refine goes_ Try.func50 (by kernel_rfl) rfl #[.int .i64 x.num,.int .i64 0,.int .i64 99] (by rfl) rfl rfl (by (try simp only [List.map_toArray,List.map_cons,List.map_nil]);first | done | rfl) ?_;refine (l6In_calls x.num 0 99 _).mono ?_;rw [H2.out];rintro e wn ⟨rfl,rfl⟩;refine ⟨_,rfl, ?_⟩;refine hK.out _ _ hHeld (fun hHeld=> ?_);clear hK K;refine norm_ (a':= ?_) ?_ ?_;rotate_left
       ·show Act.put _ (some 27) _=_
        simp only [Act.put,sA,sZ,sS,i64_w];rfl
       refine ba9 (fuel:=0) (n:=20) [16,17,18,19,20,21,22,23,24,25,26,27,28,29,30,31,32,33,34,35] (by kernel_rfl) (fun N _ _ _ _ h=>by cases N <;> exact h) hHeld ?_
       iterate 1 (
        refine stillS_step (v:= ?_) (a':= ?_) rfl (Or.inl ⟨by rfl, ?_⟩) ?_ ?_;rotate_left
        ·rintro W ⟨s2,s3,s5⟩
         go_simp
         with_reducible rfl
        rotate_left
        ·simp only [Act.put,sA,sZ,sS,i64_w]
         rfl)
       iterate 2 (
        refine stillS_step (v:= ?_) (a':= ?_) rfl (Or.inl ⟨by rfl, ?_⟩) ?_ ?_;rotate_left
        ·rintro W ⟨s2,s3,s5⟩
         go_simp
         with_reducible rfl
        rotate_left
        ·simp only [Act.put,sA,sZ,sS,i64_w]
         rfl)
       iterate 3 (
        refine stillS_step (v:= ?_) (a':= ?_) rfl (Or.inl ⟨by rfl, ?_⟩) ?_ ?_;rotate_left
        ·rintro W ⟨s2,s3,s5⟩
         go_simp
         with_reducible rfl
        rotate_left
        ·simp only [Act.put,sA,sZ,sS,i64_w]
         rfl)
       iterate 12 (
        refine stillS_step (v:= ?_) (a':= ?_) rfl (Or.inl ⟨by rfl, ?_⟩) ?_ ?_;rotate_left
        ·rintro W ⟨s2,s3,s5⟩
         go_simp
         with_reducible rfl
        rotate_left
        ·simp only [Act.put,sA,sZ,sS,i64_w]
         rfl)
       iterate 1 (
        refine stillS_step (v:= ?_) (a':= ?_) rfl (Or.inl ⟨by rfl, ?_⟩) ?_ ?_;rotate_left
        ·rintro W ⟨s2,s3,s5⟩
         go_simp
         with_reducible rfl
        rotate_left
        ·simp only [Act.put,sA,sZ,sS,i64_w]
         rfl)
       iterate 1 (
        refine stillS_step (v:= ?_) (a':= ?_) rfl (Or.inl ⟨by rfl, ?_⟩) ?_ ?_;rotate_left
        ·rintro W ⟨s2,s3,s5⟩
         go_simp
         with_reducible rfl
        rotate_left
        ·simp only [Act.put,sA,sZ,sS,i64_w]
         rfl)
       refine stillS_nil ?_;refine done_ (by kernel_rfl) ?_;clear hHeld;go_wp2;go_ret
       have hr:listOk xs cells=false:=by
        unfold listOk;exact allB_no hlt (by rw [<-HXX.out,<-HXP.out,decide_eq_false HK0.out,decide_eq_false (show ¬ xp.cell < x.cell from Int.not_lt.2 HC2.out),Bool.false_or,Bool.and_false])
       rw [hr];exact ⟨rfl,HB7.out⟩
      ·have y1:decide (x.cell<=xp.cell)=false:=decide_eq_false hc
       have HC2:=am (Int.not_le.1 hc);clear hc hk0;go_wp2;refine st9 (n:=36) (S:=fun W=>W.cell? ⟨b,o+k*2,none⟩=some (.int .i64 x.cell)/\W.cell? ⟨b,o+k*2+1,none⟩=some (.int .i64 x.num)/\W.cell? ⟨b,o+(k - 1)*2,none⟩=some (.int .i64 xp.cell)) (ds:= []) (by kernel_rfl) rfl ⟨p0,p1,r0⟩ (fun hHeld=> ?_);have hb:=below_drew (Below.refl wr.heap.size wr);generalize wr.drew=w7 at hb hHeld ⊢;have HB7:=am (below_step HB.out hb);clear hb HB p0 p1 r0;refine ba9 (fuel:=29) (n:=7) [0,1,2,3,4,5,6] (by kernel_rfl) (fun N _ _ _ _ h=>by cases N <;> exact h) hHeld ?_
       iterate 7 (
        refine stillS_step (v:= ?_) (a':= ?_) rfl (Or.inl ⟨by rfl, ?_⟩) ?_ ?_;rotate_left
        ·rintro W ⟨s2,s3,s5⟩
         go_simp
         with_reducible rfl
        rotate_left
        ·simp only [Act.put,sA,sZ,sS,i64_w]
         rfl)
       refine stillS_nil ?_;refine on9 (i:=7) (N:=some 19) rfl rfl (by kernel_rfl) (by decide) (fun K hK=> ?_);refine goes_ Try.func50 (by kernel_rfl) rfl #[.int .i64 x.cell,.int .i64 0,.int .i64 (wrap64 (cells - 1))] (by rfl) rfl rfl (by (try simp only [List.map_toArray,List.map_cons,List.map_nil]);first | done | rfl) ?_;refine (l6In_calls x.cell 0 (wrap64 (cells - 1)) _).mono ?_;rw [w1,H1.out];rintro e wn ⟨rfl,rfl⟩;refine ⟨_,rfl, ?_⟩;refine hK.out _ _ hHeld (fun hHeld=> ?_);clear hK K;refine norm_ (a':= ?_) ?_ ?_;rotate_left
       ·show Act.put _ (some 19) _=_
        simp only [Act.put,sA,sZ,sS,i64_w];rfl
       refine ba9 (fuel:=21) (n:=7) [8,9,10,11,12,13,14] (by kernel_rfl) (fun N _ _ _ _ h=>by cases N <;> exact h) hHeld ?_
       iterate 2 (
        refine stillS_step (v:= ?_) (a':= ?_) rfl (Or.inl ⟨by rfl, ?_⟩) ?_ ?_;rotate_left
        ·rintro W ⟨s2,s3,s5⟩
         go_simp
         with_reducible rfl
        rotate_left
        ·simp only [Act.put,sA,sZ,sS,i64_w]
         rfl)
       iterate 5 (
        refine stillS_step (v:= ?_) (a':= ?_) rfl (Or.inl ⟨by rfl, ?_⟩) ?_ ?_;rotate_left
        ·rintro W ⟨s2,s3,s5⟩
         go_simp
         with_reducible rfl
        rotate_left
        ·simp only [Act.put,sA,sZ,sS,i64_w]
         rfl)
       refine stillS_nil ?_;refine on9 (i:=15) (N:=some 27) rfl rfl (by kernel_rfl) (by decide) (fun K hK=> ?_);refine goes_ Try.func50 (by kernel_rfl) rfl #[.int .i64 x.num,.int .i64 0,.int .i64 99] (by rfl) rfl rfl (by (try simp only [List.map_toArray,List.map_cons,List.map_nil]);first | done | rfl) ?_;refine (l6In_calls x.num 0 99 _).mono ?_;rw [H2.out];rintro e wn ⟨rfl,rfl⟩;refine ⟨_,rfl, ?_⟩;refine hK.out _ _ hHeld (fun hHeld=> ?_);clear hK K;refine norm_ (a':= ?_) ?_ ?_;rotate_left
       ·show Act.put _ (some 27) _=_
        simp only [Act.put,sA,sZ,sS,i64_w];rfl
       refine ba9 (fuel:=0) (n:=20) [16,17,18,19,20,21,22,23,24,25,26,27,28,29,30,31,32,33,34,35] (by kernel_rfl) (fun N _ _ _ _ h=>by cases N <;> exact h) hHeld ?_
       iterate 1 (
        refine stillS_step (v:= ?_) (a':= ?_) rfl (Or.inl ⟨by rfl, ?_⟩) ?_ ?_;rotate_left
        ·rintro W ⟨s2,s3,s5⟩
         go_simp
         with_reducible rfl
        rotate_left
        ·simp only [Act.put,sA,sZ,sS,i64_w]
         rfl)
       iterate 2 (
        refine stillS_step (v:= ?_) (a':= ?_) rfl (Or.inl ⟨by rfl, ?_⟩) ?_ ?_;rotate_left
        ·rintro W ⟨s2,s3,s5⟩
         go_simp
         with_reducible rfl
        rotate_left
        ·simp only [Act.put,sA,sZ,sS,i64_w]
         rfl)
       iterate 3 (
        refine stillS_step (v:= ?_) (a':= ?_) rfl (Or.inl ⟨by rfl, ?_⟩) ?_ ?_;rotate_left
        ·rintro W ⟨s2,s3,s5⟩
         go_simp
         with_reducible rfl
        rotate_left
        ·simp only [Act.put,sA,sZ,sS,i64_w]
         rfl)
       iterate 12 (
        refine stillS_step (v:= ?_) (a':= ?_) rfl (Or.inl ⟨by rfl, ?_⟩) ?_ ?_;rotate_left
        ·rintro W ⟨s2,s3,s5⟩
         go_simp
         with_reducible rfl
        rotate_left
        ·simp only [Act.put,sA,sZ,sS,i64_w]
         rfl)
       iterate 1 (
        refine stillS_step (v:= ?_) (a':= ?_) rfl (Or.inl ⟨by rfl, ?_⟩) ?_ ?_;rotate_left
        ·rintro W ⟨s2,s3,s5⟩
         go_simp
         with_reducible rfl
        rotate_left
        ·simp only [Act.put,sA,sZ,sS,i64_w]
         rfl)
       iterate 1 (
        refine stillS_step (v:= ?_) (a':= ?_) rfl (Or.inl ⟨by rfl, ?_⟩) ?_ ?_;rotate_left
        ·rintro W ⟨s2,s3,s5⟩
         go_simp
         with_reducible rfl
        rotate_left
        ·simp only [Act.put,sA,sZ,sS,i64_w]
         rfl)
       refine stillS_nil ?_;refine done_ (by kernel_rfl) ?_;clear hHeld;go_wp2;go_roundw
       case rel=>exact ⟨k+1,by omega,by go_num,⟨fun i hi=>by rcases Nat.lt_or_ge i k with h | h;exact HJ.out i h;obtain rfl:i=k:=(by omega);rw [<-HXX.out,show inB x.cell 0 (cells - 1)=true from H1.out,show inB x.num 0 99=true from H2.out,<-HXP.out,decide_eq_true HC2.out,Bool.or_true];rfl⟩,HB7⟩
       case measure=>simp [intOf];omega
  ·obtain rfl:k=xs.length:=by omega
   go_wp2;go_ret
   have hr:listOk xs cells=true:=by
    unfold listOk;exact allB_iff.2 HJ.out
   rw [hr];exact ⟨rfl,HB.out⟩
theorem l2Nums_calls (A:Option Addr) (c:Nat) (ks:List Int) (size:Int) (w:World) (hx:(Kd.int .i64).C w A ks.length ks) (hn:ks.length<=1048576):
  Calls Try.prog 91 #[.slice A ks.length c,.int .i64 size] w fun e w'=>e= .returned (.bool (numsOk ks size))/\w=w':=by
 have HX:=am hx;clear hx;go_enter Try.func91,Try.ntmps91;go_wp2;go_loopw [5] (fun j w'=>∃ k:Nat,k<=ks.length/\j= .int .i64 k/\Aside0 (∀ i,i < k->inB (numAt ks i) 0 99=true)/\w=w') (fun j _=>ks.length - (intOf j).toNat)
 case atStart=>exact ⟨0,Nat.zero_le _,rfl,⟨fun i hi=>by omega⟩,rfl⟩
 case round=>
  obtain ⟨k,hk,rfl,HJ,rfl⟩:=hrel;by_cases hlt:k < ks.length
  ·have q0:(0:Int)<=(k:Int):=by omega
   have q1:(k:Int) < (ks.length:Int):=by omega
   obtain ⟨ad,rfl,gx⟩:=Kd.at_int HX.out (k:Int) q0 q1;simp only [Int.toNat_natCast] at gx;obtain ⟨x,hxx⟩:∃ x,x=numAt ks k:=⟨_,rfl⟩;rw [show rd ks (k:Int)=x from hxx.symm] at gx;have HXX:=am hxx;clear hxx
   cases hb:inB x 0 99 with
   | true=>
    have HI:Aside0 ((decide ((0:Int)<=x) && decide (x<=99))=true):=⟨hb⟩;clear hb;go_wp2_with (first|(go_at_call 50;refine (l6In_calls _ _ _ _).mono ?_;(first|rw [HI.out]);rintro e w9 ⟨rfl,rfl⟩))
    go_roundw
    case rel=>exact ⟨k+1,by omega,by go_num,⟨fun i hi=>by rcases Nat.lt_or_ge i k with h | h;exact HJ.out i h;obtain rfl:i=k:=(by omega);rw [<-HXX.out];exact HI.out⟩,trivial⟩
    case measure=>simp [intOf];omega
   | false=>
    have HI:Aside0 ((decide ((0:Int)<=x) && decide (x<=99))=false):=⟨hb⟩;clear hb;go_wp2_with (first|(go_at_call 50;refine (l6In_calls _ _ _ _).mono ?_;(first|rw [HI.out]);rintro e w9 ⟨rfl,rfl⟩))
    go_ret
    have hr:numsOk ks size=false:=by
     unfold numsOk;rw [allB_no hlt (by rw [<-HXX.out];exact HI.out),Bool.false_and]
    rw [hr];exact ⟨rfl,rfl⟩
  ·obtain rfl:k=ks.length:=by omega
   go_wp2;go_ret
   have hr:numsOk ks size=((ks.length:Int) == size):=by
    unfold numsOk;rw [allB_iff.2 HJ.out,Bool.true_and];rw [Bool.eq_iff_iff];simp
   rw [hr];exact ⟨rfl,rfl⟩
theorem l12Holds_calls (t:Task) (cs:List Value) (cell:Int) (w:World) (hx:kTask.K w t cs) (hpn:t.puts.length<=1048576):
  Calls Try.prog 96 #[.agg cs.toArray,.int .i64 cell] w fun e w'=>e= .returned (.bool (holds t cell))/\Below w.heap.size w w':=by
 obtain ⟨B3,d3,B8,d8,B9,d9,B10,d10,rfl,-,-,-,-,-,-,-,g10⟩:=kTask_open hx;have C10:=am g10;clear hx g10;go_enter Try.func96,Try.ntmps96
 cases hfd:findP t.puts cell with
 | none=>
  have HF:=am hfd;have HFD:Aside0 (placeOf (findP t.puts cell)= -1):=⟨by rw [hfd];rfl⟩;clear hfd
  go_wp2_with (first
  |((with_reducible refine gate_dst (N:=2) rfl ?_);refine box_event rfl (N:=2) rfl (t:=38) (by go_simp<;>rfl) ?_;intro gt hg w2 hbox hb;have BT:=am hbox;have HB:=am hb;have BTc:=zc8 BT.out;clear hbox hb hg)
  |(go_at_call 126;refine (l11Find_calls B10 d10 t.puts cell _ (Kd.C_below C10.out HB.out) hpn).mono ?_;rw [HFD.out];rintro e w9 ⟨rfl,rfl⟩))
  go_ret
  have hr:holds t cell=false:=by
   unfold holds;rw [HF.out]
  rw [hr]
  exact ⟨rfl,HB.out⟩
 | some kp=>
  have HO:Aside0 (holds t cell=if t.stage=2 then decide ((kp:Int) < t.at_) else if t.stage=3\/t.stage=4 then true else if t.stage=5 then decide (t.at_<=(kp:Int)) else false):=⟨by unfold holds;rw [hfd]⟩;have HFD:Aside0 (placeOf (findP t.puts cell)=(kp:Int)):=⟨by rw [hfd];rfl⟩;clear hfd;by_cases s2:t.stage=2
  ·have y2:(t.stage == 2)=true:=by simp [s2]
   have S2:=am s2;clear s2
   go_wp2_with (first
   |((with_reducible refine gate_dst (N:=2) rfl ?_);refine box_event rfl (N:=2) rfl (t:=38) (by go_simp<;>rfl) ?_;intro gt hg w2 hbox hb;have BT:=am hbox;have HB:=am hb;have BTc:=zc8 BT.out;clear hbox hb hg)
   |(go_at_call 126;refine (l11Find_calls B10 d10 t.puts cell _ (Kd.C_below C10.out HB.out) hpn).mono ?_;rw [HFD.out];rintro e w9 ⟨rfl,rfl⟩))
   go_ret
   have hr:holds t cell=decide ((kp:Int) < t.at_):=by
    rw [HO.out];rw [if_pos S2.out]
   rw [hr];exact ⟨rfl,HB.out⟩
  ·have y2:(t.stage == 2)=false:=by simp [s2]
   have S2:=am s2;clear s2;by_cases s3:t.stage=3
   ·have y3:(t.stage == 3)=true:=by simp [s3]
    have S3:=am s3;clear s3
    go_wp2_with (first
    |((with_reducible refine gate_dst (N:=2) rfl ?_);refine box_event rfl (N:=2) rfl (t:=38) (by go_simp<;>rfl) ?_;intro gt hg w2 hbox hb;have BT:=am hbox;have HB:=am hb;have BTc:=zc8 BT.out;clear hbox hb hg)
    |(go_at_call 126;refine (l11Find_calls B10 d10 t.puts cell _ (Kd.C_below C10.out HB.out) hpn).mono ?_;rw [HFD.out];rintro e w9 ⟨rfl,rfl⟩))
    go_ret
    have hr:holds t cell=true:=by
     rw [HO.out];rw [if_neg S2.out,if_pos (.inl S3.out)]
    rw [hr];exact ⟨rfl,HB.out⟩
   ·have y3:(t.stage == 3)=false:=by simp [s3]
    have S3:=am s3;clear s3;by_cases s4:t.stage=4
    ·have y4:(t.stage == 4)=true:=by simp [s4]
     have S4:=am s4;clear s4
     go_wp2_with (first
     |((with_reducible refine gate_dst (N:=2) rfl ?_);refine box_event rfl (N:=2) rfl (t:=38) (by go_simp<;>rfl) ?_;intro gt hg w2 hbox hb;have BT:=am hbox;have HB:=am hb;have BTc:=zc8 BT.out;clear hbox hb hg)
     |(go_at_call 126;refine (l11Find_calls B10 d10 t.puts cell _ (Kd.C_below C10.out HB.out) hpn).mono ?_;rw [HFD.out];rintro e w9 ⟨rfl,rfl⟩))
     go_ret
     have hr:holds t cell=true:=by
      rw [HO.out];rw [if_neg S2.out,if_pos (.inr S4.out)]
     rw [hr];exact ⟨rfl,HB.out⟩
    ·have y4:(t.stage == 4)=false:=by simp [s4]
     have S4:=am s4;clear s4;by_cases s5:t.stage=5
     ·have y5:(t.stage == 5)=true:=by simp [s5]
      have S5:=am s5;clear s5
      go_wp2_with (first
      |((with_reducible refine gate_dst (N:=2) rfl ?_);refine box_event rfl (N:=2) rfl (t:=38) (by go_simp<;>rfl) ?_;intro gt hg w2 hbox hb;have BT:=am hbox;have HB:=am hb;have BTc:=zc8 BT.out;clear hbox hb hg)
      |(go_at_call 126;refine (l11Find_calls B10 d10 t.puts cell _ (Kd.C_below C10.out HB.out) hpn).mono ?_;rw [HFD.out];rintro e w9 ⟨rfl,rfl⟩))
      go_ret
      have hr:holds t cell=decide (t.at_<=(kp:Int)):=by
       rw [HO.out];rw [if_neg S2.out,if_neg (fun h=>h.elim S3.out S4.out),if_pos S5.out]
      rw [hr];exact ⟨rfl,HB.out⟩
     ·have y5:(t.stage == 5)=false:=by simp [s5]
      have S5:=am s5;clear s5
      go_wp2_with (first
      |((with_reducible refine gate_dst (N:=2) rfl ?_);refine box_event rfl (N:=2) rfl (t:=38) (by go_simp<;>rfl) ?_;intro gt hg w2 hbox hb;have BT:=am hbox;have HB:=am hb;have BTc:=zc8 BT.out;clear hbox hb hg)
      |(go_at_call 126;refine (l11Find_calls B10 d10 t.puts cell _ (Kd.C_below C10.out HB.out) hpn).mono ?_;rw [HFD.out];rintro e w9 ⟨rfl,rfl⟩))
      go_ret
      have hr:holds t cell=false:=by
       rw [HO.out];rw [if_neg S2.out,if_neg (fun h=>h.elim S3.out S4.out),if_neg S5.out]
      rw [hr];exact ⟨rfl,HB.out⟩
theorem l12At_calls (t:Task) (cs:List Value) (deeds:Int) (w:World) (hx:kTask.K w t cs) (hrn:t.reads.length<=1048576) (hpn:t.puts.length<=1048576):
  Calls Try.prog 124 #[.agg cs.toArray,.int .i64 deeds] w fun e w'=>e= .returned (.bool (stOk t deeds))/\Below w.heap.size w w':=by
 obtain ⟨B3,d3,B8,d8,B9,d9,B10,d10,rfl,-⟩:=kTask_open hx;clear hx;go_enter Try.func124,Try.ntmps124;by_cases s0:t.stage=0
 ·have y0:(t.stage == 0)=true:=by simp [s0]
  have S0:=am s0;clear s0;by_cases za:t.at_=0
  ·have y_za:(t.at_ == 0)=true:=by simp [za]
   have Zza:=am za;clear za
   go_wp2_with (first
   |((with_reducible refine gate_dst (N:=2) rfl ?_);refine box_event rfl (N:=2) rfl (t:=38) (by go_simp<;>rfl) ?_;intro gt hg w2 hbox hb;have BT:=am hbox;have HB:=am hb;have BTc:=zc8 BT.out;clear hbox hb hg))
   go_ret
   have hr:stOk t deeds=((t.reads.length:Int)+(t.puts.length:Int) == 0):=by
    unfold stOk;rw [if_pos S0.out];rw [decide_eq_true Zza.out,Bool.true_and,Bool.eq_iff_iff,decide_eq_true_eq,beq_iff_eq];omega
   rw [hr];exact ⟨rfl,HB.out⟩
  ·have y_za:(t.at_ == 0)=false:=by simp [za]
   have Zza:=am za;clear za
   go_wp2_with (first
   |((with_reducible refine gate_dst (N:=2) rfl ?_);refine box_event rfl (N:=2) rfl (t:=38) (by go_simp<;>rfl) ?_;intro gt hg w2 hbox hb;have BT:=am hbox;have HB:=am hb;have BTc:=zc8 BT.out;clear hbox hb hg))
   go_ret
   have hr:stOk t deeds=false:=by
    unfold stOk;rw [if_pos S0.out];rw [decide_eq_false Zza.out,Bool.false_and]
   rw [hr];exact ⟨rfl,HB.out⟩
 ·have y0:(t.stage == 0)=false:=by simp [s0]
  have S0:=am s0;clear s0;by_cases s1:t.stage=1
  ·have y1:(t.stage == 1)=true:=by simp [s1]
   have S1:=am s1;clear s1;obtain ⟨bHI,hbHI⟩:∃ b,inB t.at_ 0 deeds=b:=⟨_,rfl⟩;have HI:Aside0 ((decide ((0:Int)<=t.at_) && decide (t.at_<=deeds))=bHI):=⟨hbHI⟩;clear hbHI
   go_wp2_with (first
   |((with_reducible refine gate_dst (N:=2) rfl ?_);refine box_event rfl (N:=2) rfl (t:=38) (by go_simp<;>rfl) ?_;intro gt hg w2 hbox hb;have BT:=am hbox;have HB:=am hb;have BTc:=zc8 BT.out;clear hbox hb hg)
   |(go_at_call 50;refine (l6In_calls _ _ _ _).mono ?_;(first|rw [HI.out]);rintro e w9 ⟨rfl,rfl⟩))
   go_ret
   have hr:stOk t deeds=bHI:=by
    unfold stOk;rw [if_neg S0.out,if_pos S1.out];exact HI.out
   rw [hr];exact ⟨rfl,HB.out⟩
  ·have y1:(t.stage == 1)=false:=by simp [s1]
   have S1:=am s1;clear s1;by_cases s3:t.stage=3
   ·have y3:(t.stage == 3)=true:=by simp [s3]
    have S3:=am s3;clear s3;by_cases za:t.at_=0
    ·have y_za:(t.at_ == 0)=true:=by simp [za]
     have Zza:=am za;clear za
     go_wp2_with (first
     |((with_reducible refine gate_dst (N:=2) rfl ?_);refine box_event rfl (N:=2) rfl (t:=38) (by go_simp<;>rfl) ?_;intro gt hg w2 hbox hb;have BT:=am hbox;have HB:=am hb;have BTc:=zc8 BT.out;clear hbox hb hg))
     go_ret
     have hr:stOk t deeds=decide (0 < t.puts.length):=by
      unfold stOk;rw [if_neg S0.out,if_neg S1.out,if_pos S3.out];rw [decide_eq_true Zza.out,Bool.true_and]
     rw [hr];exact ⟨rfl,HB.out⟩
    ·have y_za:(t.at_ == 0)=false:=by simp [za]
     have Zza:=am za;clear za
     go_wp2_with (first
     |((with_reducible refine gate_dst (N:=2) rfl ?_);refine box_event rfl (N:=2) rfl (t:=38) (by go_simp<;>rfl) ?_;intro gt hg w2 hbox hb;have BT:=am hbox;have HB:=am hb;have BTc:=zc8 BT.out;clear hbox hb hg))
     go_ret
     have hr:stOk t deeds=false:=by
      unfold stOk;rw [if_neg S0.out,if_neg S1.out,if_pos S3.out];rw [decide_eq_false Zza.out,Bool.false_and]
     rw [hr];exact ⟨rfl,HB.out⟩
   ·have y3:(t.stage == 3)=false:=by simp [s3]
    have S3:=am s3;clear s3;by_cases s4:t.stage=4
    ·have y4:(t.stage == 4)=true:=by simp [s4]
     have S4:=am s4;clear s4;obtain ⟨bHI,hbHI⟩:∃ b,inB t.at_ 0 (t.reads.length:Int)=b:=⟨_,rfl⟩;have HI:Aside0 ((decide ((0:Int)<=t.at_) && decide (t.at_<=(t.reads.length:Int)))=bHI):=⟨hbHI⟩;clear hbHI
     cases bHI with
     | false=>
      go_wp2_with (first
      |((with_reducible refine gate_dst (N:=2) rfl ?_);refine box_event rfl (N:=2) rfl (t:=38) (by go_simp<;>rfl) ?_;intro gt hg w2 hbox hb;have BT:=am hbox;have HB:=am hb;have BTc:=zc8 BT.out;clear hbox hb hg)
      |(go_at_call 50;refine (l6In_calls _ _ _ _).mono ?_;(first|rw [HI.out]);rintro e w9 ⟨rfl,rfl⟩))
      go_ret
      have hr:stOk t deeds=false:=by
       unfold stOk;rw [if_neg S0.out,if_neg S1.out,if_neg S3.out,if_pos S4.out];rw [show inB t.at_ 0 (t.reads.length:Int)=false from HI.out,Bool.false_and]
      rw [hr]
      exact ⟨rfl,HB.out⟩
     | true=>
      go_wp2_with (first
      |((with_reducible refine gate_dst (N:=2) rfl ?_);refine box_event rfl (N:=2) rfl (t:=38) (by go_simp<;>rfl) ?_;intro gt hg w2 hbox hb;have BT:=am hbox;have HB:=am hb;have BTc:=zc8 BT.out;clear hbox hb hg)
      |(go_at_call 50;refine (l6In_calls _ _ _ _).mono ?_;(first|rw [HI.out]);rintro e w9 ⟨rfl,rfl⟩))
      go_ret
      have hr:stOk t deeds=decide (0 < t.puts.length):=by
       unfold stOk;rw [if_neg S0.out,if_neg S1.out,if_neg S3.out,if_pos S4.out];rw [show inB t.at_ 0 (t.reads.length:Int)=true from HI.out,Bool.true_and]
      rw [hr];exact ⟨rfl,HB.out⟩
    ·have y4:(t.stage == 4)=false:=by simp [s4]
     have S4:=am s4;clear s4;obtain ⟨bHI,hbHI⟩:∃ b,inB t.at_ 0 ((t.puts.length:Int) - 1)=b:=⟨_,rfl⟩;have HI:Aside0 ((decide ((0:Int)<=t.at_) && decide (t.at_<=((t.puts.length:Int) - 1)))=bHI):=⟨hbHI⟩;clear hbHI
     go_wp2_with (first
     |((with_reducible refine gate_dst (N:=2) rfl ?_);refine box_event rfl (N:=2) rfl (t:=38) (by go_simp<;>rfl) ?_;intro gt hg w2 hbox hb;have BT:=am hbox;have HB:=am hb;have BTc:=zc8 BT.out;clear hbox hb hg)
     |(go_at_call 50;refine (l6In_calls _ _ _ _).mono ?_;(first|rw [HI.out]);rintro e w9 ⟨rfl,rfl⟩))
     go_ret
     have hr:stOk t deeds=bHI:=by
      unfold stOk;rw [if_neg S0.out,if_neg S1.out,if_neg S3.out,if_neg S4.out];exact HI.out
     rw [hr];exact ⟨rfl,HB.out⟩
theorem l12Times_calls (t:Task) (s:Sys) (cs ss:List Value) (w:World) (hx:kTask.K w t cs) (hs:kSys.K w s ss) (hc0:0<=s.clock) (hc1:s.clock<=200) (hl:s.log.length<=1048576):
  Calls Try.prog 93 #[.agg cs.toArray,.agg ss.toArray] w fun e w'=>e= .returned (.bool (timesOk t s))/\Below w.heap.size w w':=by
 obtain ⟨B3,d3,B8,d8,B9,d9,B10,d10,rfl,-⟩:=kTask_open hx;obtain ⟨A0,c0,A1,c1,A3,c3,rfl,-⟩:=kSys_open hs;clear hx hs;go_enter Try.func93,Try.ntmps93;obtain ⟨bH1,hbH1⟩:∃ b,inB t.since 0 s.clock=b:=⟨_,rfl⟩;have H1:Aside0 ((decide ((0:Int)<=t.since) && decide (t.since<=s.clock))=bH1):=⟨hbH1⟩;clear hbH1
 cases hx1:bH1 with
 | false=>
  subst hx1
  go_wp2_with (first
  |((with_reducible refine gate_dst (N:=2) rfl ?_);refine box_event rfl (N:=2) rfl (t:=38) (by go_simp<;>rfl) ?_;intro gt hg w2 hbox hb;have BT:=am hbox;have HB:=am hb;have BTc:=zc8 BT.out;clear hbox hb hg)
  |((with_reducible refine gate_dst (N:=3) rfl ?_);refine box_event rfl (N:=3) rfl (t:=27) (by go_simp<;>rfl) ?_;intro gs hg w3 hbox hb;have BS:=am hbox;replace HB:=am (below_step HB.out hb);replace BT:=am (zb8 BT.out hb);clear BTc hbox hb hg;have BTc:=zc8 BT.out;have BSc:=zc8 BS.out)
  |(go_at_call 50;refine (l6In_calls _ _ _ _).mono ?_;(first|rw [H1.out]);rintro e w9 ⟨rfl,rfl⟩))
  go_ret
  have hr:timesOk t s=false:=by
   unfold timesOk;rw [show inB t.since 0 s.clock=false from H1.out,Bool.false_and,Bool.false_and]
  rw [hr]
  exact ⟨rfl,HB.out⟩
 | true=>
  subst hx1;have hs01:=inB_iff.1 (show inB t.since 0 s.clock=true from H1.out);have hsA:=hs01.1;have hsB:=hs01.2;clear hs01;obtain ⟨bH2,hbH2⟩:∃ b,inB t.from_ 0 (s.log.length:Int)=b:=⟨_,rfl⟩;have H2:Aside0 ((decide ((0:Int)<=t.from_) && decide (t.from_<=(s.log.length:Int)))=bH2):=⟨hbH2⟩;clear hbH2
  cases hx2:bH2 with
  | false=>
   subst hx2
   go_wp2_with (first
   |((with_reducible refine gate_dst (N:=2) rfl ?_);refine box_event rfl (N:=2) rfl (t:=38) (by go_simp<;>rfl) ?_;intro gt hg w2 hbox hb;have BT:=am hbox;have HB:=am hb;have BTc:=zc8 BT.out;clear hbox hb hg)
   |((with_reducible refine gate_dst (N:=3) rfl ?_);refine box_event rfl (N:=3) rfl (t:=27) (by go_simp<;>rfl) ?_;intro gs hg w3 hbox hb;have BS:=am hbox;replace HB:=am (below_step HB.out hb);replace BT:=am (zb8 BT.out hb);clear BTc hbox hb hg;have BTc:=zc8 BT.out;have BSc:=zc8 BS.out)
   |(go_at_call 50;refine (l6In_calls _ _ _ _).mono ?_;(first|rw [H1.out] | rw [H2.out]);rintro e w9 ⟨rfl,rfl⟩))
   go_ret
   have hr:timesOk t s=false:=by
    unfold timesOk;rw [show inB t.from_ 0 (s.log.length:Int)=false from H2.out,Bool.and_false,Bool.false_and]
   rw [hr]
   exact ⟨rfl,HB.out⟩
  | true=>
   subst hx2;by_cases s0:t.stage=0
   ·have y0:(t.stage == 0)=true:=by simp [s0]
    have S0:=am s0;clear s0;obtain ⟨bHI,hbHI⟩:∃ b,inB t.when_ 0 (s.clock+1)=b:=⟨_,rfl⟩;have HI:Aside0 ((decide ((0:Int)<=t.when_) && decide (t.when_<=(s.clock+1)))=bHI):=⟨hbHI⟩;clear hbHI
    go_wp2_with (first
    |((with_reducible refine gate_dst (N:=2) rfl ?_);refine box_event rfl (N:=2) rfl (t:=38) (by go_simp<;>rfl) ?_;intro gt hg w2 hbox hb;have BT:=am hbox;have HB:=am hb;have BTc:=zc8 BT.out;clear hbox hb hg)
    |((with_reducible refine gate_dst (N:=3) rfl ?_);refine box_event rfl (N:=3) rfl (t:=27) (by go_simp<;>rfl) ?_;intro gs hg w3 hbox hb;have BS:=am hbox;replace HB:=am (below_step HB.out hb);replace BT:=am (zb8 BT.out hb);clear BTc hbox hb hg;have BTc:=zc8 BT.out;have BSc:=zc8 BS.out)
    |(go_at_call 50;refine (l6In_calls _ _ _ _).mono ?_;(first|rw [H1.out] | rw [H2.out] | rw [HI.out]);rintro e w9 ⟨rfl,rfl⟩))
    go_ret
    have hr:timesOk t s=bHI:=by
     unfold timesOk;rw [show inB t.since 0 s.clock=true from H1.out,show inB t.from_ 0 (s.log.length:Int)=true from H2.out,Bool.true_and,Bool.true_and];rw [if_pos S0.out];exact HI.out
    rw [hr];exact ⟨rfl,HB.out⟩
   ·have y0:(t.stage == 0)=false:=by simp [s0]
    have S0:=am s0;clear s0;by_cases s4:t.stage=4
    ·have y4:(t.stage == 4)=true:=by simp [s4]
     have S4:=am s4;clear s4;obtain ⟨bHI,hbHI⟩:∃ b,inB t.when_ (t.since+1) s.clock=b:=⟨_,rfl⟩;have HI:Aside0 ((decide (((t.since+1):Int)<=t.when_) && decide (t.when_<=s.clock))=bHI):=⟨hbHI⟩;clear hbHI
     go_wp2_with (first
     |((with_reducible refine gate_dst (N:=2) rfl ?_);refine box_event rfl (N:=2) rfl (t:=38) (by go_simp<;>rfl) ?_;intro gt hg w2 hbox hb;have BT:=am hbox;have HB:=am hb;have BTc:=zc8 BT.out;clear hbox hb hg)
     |((with_reducible refine gate_dst (N:=3) rfl ?_);refine box_event rfl (N:=3) rfl (t:=27) (by go_simp<;>rfl) ?_;intro gs hg w3 hbox hb;have BS:=am hbox;replace HB:=am (below_step HB.out hb);replace BT:=am (zb8 BT.out hb);clear BTc hbox hb hg;have BTc:=zc8 BT.out;have BSc:=zc8 BS.out)
     |(go_at_call 50;refine (l6In_calls _ _ _ _).mono ?_;(first|rw [H1.out] | rw [H2.out] | rw [HI.out]);rintro e w9 ⟨rfl,rfl⟩))
     go_ret
     have hr:timesOk t s=bHI:=by
      unfold timesOk;rw [show inB t.since 0 s.clock=true from H1.out,show inB t.from_ 0 (s.log.length:Int)=true from H2.out,Bool.true_and,Bool.true_and];rw [if_neg S0.out,if_pos (.inl S4.out)];exact HI.out
     rw [hr];exact ⟨rfl,HB.out⟩
    ·have y4:(t.stage == 4)=false:=by simp [s4]
     have S4:=am s4;clear s4;by_cases s5:t.stage=5
     ·have y5:(t.stage == 5)=true:=by simp [s5]
      have S5:=am s5;clear s5;obtain ⟨bHI,hbHI⟩:∃ b,inB t.when_ (t.since+1) s.clock=b:=⟨_,rfl⟩;have HI:Aside0 ((decide (((t.since+1):Int)<=t.when_) && decide (t.when_<=s.clock))=bHI):=⟨hbHI⟩;clear hbHI
      go_wp2_with (first
      |((with_reducible refine gate_dst (N:=2) rfl ?_);refine box_event rfl (N:=2) rfl (t:=38) (by go_simp<;>rfl) ?_;intro gt hg w2 hbox hb;have BT:=am hbox;have HB:=am hb;have BTc:=zc8 BT.out;clear hbox hb hg)
      |((with_reducible refine gate_dst (N:=3) rfl ?_);refine box_event rfl (N:=3) rfl (t:=27) (by go_simp<;>rfl) ?_;intro gs hg w3 hbox hb;have BS:=am hbox;replace HB:=am (below_step HB.out hb);replace BT:=am (zb8 BT.out hb);clear BTc hbox hb hg;have BTc:=zc8 BT.out;have BSc:=zc8 BS.out)
      |(go_at_call 50;refine (l6In_calls _ _ _ _).mono ?_;(first|rw [H1.out] | rw [H2.out] | rw [HI.out]);rintro e w9 ⟨rfl,rfl⟩))
      go_ret
      have hr:timesOk t s=bHI:=by
       unfold timesOk;rw [show inB t.since 0 s.clock=true from H1.out,show inB t.from_ 0 (s.log.length:Int)=true from H2.out,Bool.true_and,Bool.true_and];rw [if_neg S0.out,if_pos (.inr S5.out)];exact HI.out
      rw [hr];exact ⟨rfl,HB.out⟩
     ·have y5:(t.stage == 5)=false:=by simp [s5]
      have S5:=am s5;clear s5;have HI:=H1
      go_wp2_with (first
      |((with_reducible refine gate_dst (N:=2) rfl ?_);refine box_event rfl (N:=2) rfl (t:=38) (by go_simp<;>rfl) ?_;intro gt hg w2 hbox hb;have BT:=am hbox;have HB:=am hb;have BTc:=zc8 BT.out;clear hbox hb hg)
      |((with_reducible refine gate_dst (N:=3) rfl ?_);refine box_event rfl (N:=3) rfl (t:=27) (by go_simp<;>rfl) ?_;intro gs hg w3 hbox hb;have BS:=am hbox;replace HB:=am (below_step HB.out hb);replace BT:=am (zb8 BT.out hb);clear BTc hbox hb hg;have BTc:=zc8 BT.out;have BSc:=zc8 BS.out)
      |(go_at_call 50;refine (l6In_calls _ _ _ _).mono ?_;(first|rw [H1.out] | rw [H2.out] | rw [HI.out]);rintro e w9 ⟨rfl,rfl⟩))
      go_ret
      have hr:timesOk t s=(t.when_ == 0):=by
       unfold timesOk;rw [show inB t.since 0 s.clock=true from H1.out,show inB t.from_ 0 (s.log.length:Int)=true from H2.out,Bool.true_and,Bool.true_and];rw [if_neg S0.out,if_neg (fun h=>h.elim S4.out S5.out),Bool.eq_iff_iff,decide_eq_true_eq,beq_iff_eq]
      rw [hr];exact ⟨rfl,HB.out⟩
theorem l12Up_calls (s:Sys) (ss:List Value) (i:Nat) (w:World) (hs:kSys.K w s ss) (hi:i < s.tasks.length) (hn:s.tasks.length<=1048576):
  Calls Try.prog 94 #[.agg ss.toArray,.int .i64 i] w fun e w'=>e= .returned (.bool (upsOk s i))/\Below w.heap.size w w':=by
 obtain ⟨A0,c0,A1,c1,A3,c3,rfl,-,-,-,g1,-⟩:=kSys_open hs;have G1:=am g1;obtain ⟨b,o,cs,rfl,hcl,hK,hcc,-⟩:=C_field g1 zTask i hi (by decide);obtain ⟨t,ht⟩:∃ x,x=taskAt s.tasks i:=⟨_,rfl⟩;rw [show s.tasks.getD i zTask=t from ht.symm] at hK;obtain ⟨B3,d3,B8,d8,B9,d9,B10,d10,rfl,-⟩:=kTask_open hK;have HCC:=am hcc;have q0:(0:Int)<=(i:Int):=by omega
 have q1:(i:Int) < (s.tasks.length:Int):=by omega
 have HU:Aside0 (upsOk s i=if i=0 then decide (t.up= -1) else inB t.up 0 (i - 1) && (!isLive t || decide ((taskAt s.tasks t.up.toNat).way=1))):=⟨by rw [ht];rfl⟩;clear hs g1 hcl hK hcc ht;go_enter Try.func94,Try.ntmps94;by_cases h0:i=0
 ·have y0:((i:Int) == 0)=true:=by simp [h0]
  have y0':(i == 0)=true:=by simp [h0]
  have H0:=am h0;clear h0
  go_wp2_with (first
  |((with_reducible refine gate_dst (N:=2) rfl ?_);refine box_event rfl (N:=2) rfl (t:=27) (by go_simp<;>rfl) ?_;intro gs hg w2 hbox hb;have BS:=am hbox;have HB:=am hb;have BSc:=zc8 BS.out;clear hbox hb hg)
  |((with_reducible refine gate_dst (N:=11) rfl ?_);refine wpList_load_mid rfl 38 (.tmp 10) rfl b (o+i*13) rfl _ _ (fun j u hu=>cellB HB.out (HCC.out j u hu)) Try.underlying38 rfl (by kernel_rfl) ?_)|((with_reducible refine gate_dst (N:=5) rfl ?_);refine box_event rfl (N:=5) rfl (t:=38) (by go_simp<;>rfl) ?_;intro gt hg wt hbox hb;have BT0:=am hbox;have GT:=am hg;have HBT:=am hb;clear hbox hb hg)|((with_reducible refine gate_store (t:=38) (p:=5) rfl ?_);refine store_block rfl rfl 38 (.tmp 5) (.tmp 11) rfl rfl rfl BT0.out rfl (by kernel_rfl) (aB rfl) ?_;intro wn hbox hg;have BT:=am hbox;have hbx:=pw_below_grown HBT.out _ HBT.out.size hg (fun z hz=>by cases hz;exact Nat.le_of_eq GT.out.symm);replace BS:=am (zb8 BS.out hbx);replace HB:=am (below_step HB.out hbx);clear BSc BT0 HBT hbx hbox hg;have BSc:=zc8 BS.out;have BTc:=zc8 BT.out))
  go_ret
  have hr:upsOk s i=(t.up == -1):=by
   rw [HU.out];rw [if_pos H0.out,Bool.eq_iff_iff,decide_eq_true_eq,beq_iff_eq]
  rw [hr];exact ⟨rfl,HB.out⟩
 ·have y0:((i:Int) == 0)=false:=by simp [h0]
  have y0':(i == 0)=false:=by simp [h0]
  have H0:=am h0;clear h0
  cases hb1:inB t.up 0 ((i:Int) - 1) with
  | false=>
   have H1:Aside0 ((decide ((0:Int)<=t.up) && decide (t.up<=(i:Int) - 1))=false):=⟨hb1⟩;clear hb1
   go_wp2_with (first
   |((with_reducible refine gate_dst (N:=2) rfl ?_);refine box_event rfl (N:=2) rfl (t:=27) (by go_simp<;>rfl) ?_;intro gs hg w2 hbox hb;have BS:=am hbox;have HB:=am hb;have BSc:=zc8 BS.out;clear hbox hb hg)
   |((with_reducible refine gate_dst (N:=11) rfl ?_);refine wpList_load_mid rfl 38 (.tmp 10) rfl b (o+i*13) rfl _ _ (fun j u hu=>cellB HB.out (HCC.out j u hu)) Try.underlying38 rfl (by kernel_rfl) ?_)|((with_reducible refine gate_dst (N:=5) rfl ?_);refine box_event rfl (N:=5) rfl (t:=38) (by go_simp<;>rfl) ?_;intro gt hg wt hbox hb;have BT0:=am hbox;have GT:=am hg;have HBT:=am hb;clear hbox hb hg)|((with_reducible refine gate_store (t:=38) (p:=5) rfl ?_);refine store_block rfl rfl 38 (.tmp 5) (.tmp 11) rfl rfl rfl BT0.out rfl (by kernel_rfl) (aB rfl) ?_;intro wn hbox hg;have BT:=am hbox;have hbx:=pw_below_grown HBT.out _ HBT.out.size hg (fun z hz=>by cases hz;exact Nat.le_of_eq GT.out.symm);replace BS:=am (zb8 BS.out hbx);replace HB:=am (below_step HB.out hbx);clear BSc BT0 HBT hbx hbox hg;have BSc:=zc8 BS.out;have BTc:=zc8 BT.out)
   |(go_at_call 50;refine (l6In_calls _ _ _ _).mono ?_;(first|rw [H1.out]);rintro e w9 ⟨rfl,rfl⟩))
   go_ret
   have hr:upsOk s i=false:=by
    rw [HU.out];rw [if_neg H0.out,show inB t.up 0 ((i:Int) - 1)=false from H1.out,Bool.false_and]
   rw [hr]
   exact ⟨rfl,HB.out⟩
  | true=>
   have H1:Aside0 ((decide ((0:Int)<=t.up) && decide (t.up<=(i:Int) - 1))=true):=⟨hb1⟩;have hu:=inB_iff.1 hb1;clear hb1;obtain ⟨u,hu0⟩:=Int.eq_ofNat_of_zero_le hu.1;have hul:u < s.tasks.length:=by omega
   have r0:(0:Int)<=t.up:=hu.1;have r1:t.up < (s.tasks.length:Int):=by omega
   have r4:t.up.toNat=u:=by omega
   obtain ⟨b',o',cs',he,hcl,hK,hcc,-⟩:=C_field G1.out zTask u hul (by decide);cases he;obtain ⟨wy,hwy⟩:∃ x,x=(taskAt s.tasks u).way:=⟨_,rfl⟩;rw [show s.tasks.getD u zTask=taskAt s.tasks u from rfl] at hK;obtain ⟨E3,f3,E8,f8,E9,f9,E10,f10,rfl,-⟩:=kTask_open hK;have pw:=hcc 4 _ rfl;simp only [show kTask.sz=13 from rfl] at pw;rw [<-hwy] at pw;have PW:=am pw;have HWY:=am hwy;clear hcl hK hcc pw hwy hu hu0;by_cases w0:t.way=0
   ·have z0:(t.way == 0)=true:=by simp [w0]
    have W0:=am w0;clear w0
    go_wp2_with (first
    |((with_reducible refine gate_dst (N:=2) rfl ?_);refine box_event rfl (N:=2) rfl (t:=27) (by go_simp<;>rfl) ?_;intro gs hg w2 hbox hb;have BS:=am hbox;have HB:=am hb;have BSc:=zc8 BS.out;clear hbox hb hg)
    |((with_reducible refine gate_dst (N:=11) rfl ?_);refine wpList_load_mid rfl 38 (.tmp 10) rfl b (o+i*13) rfl _ _ (fun j u hu=>cellB HB.out (HCC.out j u hu)) Try.underlying38 rfl (by kernel_rfl) ?_)|((with_reducible refine gate_dst (N:=5) rfl ?_);refine box_event rfl (N:=5) rfl (t:=38) (by go_simp<;>rfl) ?_;intro gt hg wt hbox hb;have BT0:=am hbox;have GT:=am hg;have HBT:=am hb;clear hbox hb hg)|((with_reducible refine gate_store (t:=38) (p:=5) rfl ?_);refine store_block rfl rfl 38 (.tmp 5) (.tmp 11) rfl rfl rfl BT0.out rfl (by kernel_rfl) (aB rfl) ?_;intro wn hbox hg;have BT:=am hbox;have hbx:=pw_below_grown HBT.out _ HBT.out.size hg (fun z hz=>by cases hz;exact Nat.le_of_eq GT.out.symm);replace BS:=am (zb8 BS.out hbx);replace HB:=am (below_step HB.out hbx);clear BSc BT0 HBT hbx hbox hg;have BSc:=zc8 BS.out;have BTc:=zc8 BT.out;have pww:=cellB HB.out PW.out)
    |(go_at_call 50;refine (l6In_calls _ _ _ _).mono ?_;(first|rw [H1.out]);rintro e w9 ⟨rfl,rfl⟩))
    go_ret
    have hr:upsOk s i=(wy == 1):=by
     rw [HU.out];rw [if_neg H0.out,show inB t.up 0 ((i:Int) - 1)=true from H1.out,r4,<-HWY.out,show isLive t=true by simp [isLive,W0.out]];rw [Bool.true_and,Bool.not_true,Bool.false_or,Bool.eq_iff_iff,decide_eq_true_eq,beq_iff_eq]
    rw [hr];exact ⟨rfl,HB.out⟩
   ·have z0:(t.way == 0)=false:=by simp [w0]
    by_cases w1:t.way=1
    ·have z1:(t.way == 1)=true:=by simp [w1]
     have W1:=am w1;clear w0 w1
     go_wp2_with (first
     |((with_reducible refine gate_dst (N:=2) rfl ?_);refine box_event rfl (N:=2) rfl (t:=27) (by go_simp<;>rfl) ?_;intro gs hg w2 hbox hb;have BS:=am hbox;have HB:=am hb;have BSc:=zc8 BS.out;clear hbox hb hg)
     |((with_reducible refine gate_dst (N:=11) rfl ?_);refine wpList_load_mid rfl 38 (.tmp 10) rfl b (o+i*13) rfl _ _ (fun j u hu=>cellB HB.out (HCC.out j u hu)) Try.underlying38 rfl (by kernel_rfl) ?_)|((with_reducible refine gate_dst (N:=5) rfl ?_);refine box_event rfl (N:=5) rfl (t:=38) (by go_simp<;>rfl) ?_;intro gt hg wt hbox hb;have BT0:=am hbox;have GT:=am hg;have HBT:=am hb;clear hbox hb hg)|((with_reducible refine gate_store (t:=38) (p:=5) rfl ?_);refine store_block rfl rfl 38 (.tmp 5) (.tmp 11) rfl rfl rfl BT0.out rfl (by kernel_rfl) (aB rfl) ?_;intro wn hbox hg;have BT:=am hbox;have hbx:=pw_below_grown HBT.out _ HBT.out.size hg (fun z hz=>by cases hz;exact Nat.le_of_eq GT.out.symm);replace BS:=am (zb8 BS.out hbx);replace HB:=am (below_step HB.out hbx);clear BSc BT0 HBT hbx hbox hg;have BSc:=zc8 BS.out;have BTc:=zc8 BT.out;have pww:=cellB HB.out PW.out)
     |(go_at_call 50;refine (l6In_calls _ _ _ _).mono ?_;(first|rw [H1.out]);rintro e w9 ⟨rfl,rfl⟩))
     go_ret
     have hr:upsOk s i=(wy == 1):=by
      rw [HU.out];rw [if_neg H0.out,show inB t.up 0 ((i:Int) - 1)=true from H1.out,r4,<-HWY.out,show isLive t=true by simp [isLive,W1.out]];rw [Bool.true_and,Bool.not_true,Bool.false_or,Bool.eq_iff_iff,decide_eq_true_eq,beq_iff_eq]
     rw [hr];exact ⟨rfl,HB.out⟩
    ·have z1:(t.way == 1)=false:=by simp [w1]
     have WN:Aside0 (isLive t=false):=⟨by simp [isLive,w0,w1]⟩;clear w0 w1
     go_wp2_with (first
     |((with_reducible refine gate_dst (N:=2) rfl ?_);refine box_event rfl (N:=2) rfl (t:=27) (by go_simp<;>rfl) ?_;intro gs hg w2 hbox hb;have BS:=am hbox;have HB:=am hb;have BSc:=zc8 BS.out;clear hbox hb hg)
     |((with_reducible refine gate_dst (N:=11) rfl ?_);refine wpList_load_mid rfl 38 (.tmp 10) rfl b (o+i*13) rfl _ _ (fun j u hu=>cellB HB.out (HCC.out j u hu)) Try.underlying38 rfl (by kernel_rfl) ?_)|((with_reducible refine gate_dst (N:=5) rfl ?_);refine box_event rfl (N:=5) rfl (t:=38) (by go_simp<;>rfl) ?_;intro gt hg wt hbox hb;have BT0:=am hbox;have GT:=am hg;have HBT:=am hb;clear hbox hb hg)|((with_reducible refine gate_store (t:=38) (p:=5) rfl ?_);refine store_block rfl rfl 38 (.tmp 5) (.tmp 11) rfl rfl rfl BT0.out rfl (by kernel_rfl) (aB rfl) ?_;intro wn hbox hg;have BT:=am hbox;have hbx:=pw_below_grown HBT.out _ HBT.out.size hg (fun z hz=>by cases hz;exact Nat.le_of_eq GT.out.symm);replace BS:=am (zb8 BS.out hbx);replace HB:=am (below_step HB.out hbx);clear BSc BT0 HBT hbx hbox hg;have BSc:=zc8 BS.out;have BTc:=zc8 BT.out;have pww:=cellB HB.out PW.out)
     |(go_at_call 50;refine (l6In_calls _ _ _ _).mono ?_;(first|rw [H1.out]);rintro e w9 ⟨rfl,rfl⟩))
     go_ret
     have hr:upsOk s i=true:=by
      rw [HU.out];rw [if_neg H0.out,show inB t.up 0 ((i:Int) - 1)=true from H1.out,WN.out];rfl
     rw [hr];exact ⟨rfl,HB.out⟩
theorem l12Cells_calls (s:Sys) (ss:List Value) (w:World) (hs:kSys.K w s ss) (hm:s.cells.length<=1048576) (hn:s.tasks.length<=1048576) (hz:∀ i,i < s.tasks.length->(taskAt s.tasks i).puts.length<=1048576):
  Calls Try.prog 58 #[.agg ss.toArray] w fun e w'=>e= .returned (.bool (cellsOk s))/\Below w.heap.size w w':=by
 obtain ⟨A0,c0,A1,c1,A3,c3,rfl,-,g0,-,g1,-⟩:=kSys_open hs;have G0:=am g0;have G1:=am g1;have HZ:=am hz;clear hs g0 g1 hz;go_enter Try.func58,Try.ntmps58
 go_wp2_with (first
 |((with_reducible refine gate_dst (N:=1) rfl ?_);refine box_event rfl (N:=1) rfl (t:=27) (by go_simp<;>rfl) ?_;intro gs hg w2 hbox hb;have BS:=am hbox;have HB:=am hb;have BSc:=zc8 BS.out;clear hbox hb hg))
 go_loopw [3] (fun j w'=>∃ k:Nat,k<=s.cells.length/\j= .int .i64 k/\Aside0 (∀ i,i < k->(inB (cellAt s.cells i).num 0 99 && inB (cellAt s.cells i).time 0 s.clock && inB (cellAt s.cells i).lock (-1) (s.tasks.length - 1) && allB s.tasks.length fun k=>decide (holds (taskAt s.tasks k) i=decide ((cellAt s.cells i).lock=k)))=true)/\Aside0 (w'.heap[gs]? = some (.cells #[.slice A0 s.cells.length c0,.slice A1 s.tasks.length c1,.int .i64 s.clock,.slice A3 s.log.length c3] 27 (0,0)))/\Aside0 (Below w.heap.size w w')) (fun j _=>s.cells.length - (intOf j).toNat)
 case atStart=>exact ⟨0,Nat.zero_le _,rfl,⟨fun i hi=>by omega⟩,BS,HB⟩
 case round=>
  clear BS HB BSc;obtain ⟨k,hk,rfl,HJ,BS,HB⟩:=hrel;have BSc:=zc8 BS.out;by_cases hlt:k < s.cells.length
  ·obtain ⟨bc,oc,cs,rfl,hcl,hK,hcc,-⟩:=C_field G0.out zCell k hlt (by decide)
   obtain ⟨c,hcx⟩:∃ x,x=cellAt s.cells k:=⟨_,rfl⟩;rw [show s.cells.getD k zCell=c from hcx.symm] at hK;have e:=kCell_open hK;subst e;have HC:=am hcc;have CX:=am hcx;have q0:(0:Int)<=(k:Int):=by omega
   have q1:(k:Int) < (s.cells.length:Int):=by omega
   clear hcl hK hcc hcx;obtain ⟨bH1,hbH1⟩:∃ b,inB c.num 0 99=b:=⟨_,rfl⟩;have H1:Aside0 ((decide ((0:Int)<=c.num) && decide (c.num<=99))=bH1):=⟨hbH1⟩;clear hbH1;obtain ⟨bH2,hbH2⟩:∃ b,inB c.time 0 s.clock=b:=⟨_,rfl⟩;have H2:Aside0 ((decide ((0:Int)<=c.time) && decide (c.time<=s.clock))=bH2):=⟨hbH2⟩;clear hbH2;obtain ⟨bH3,hbH3⟩:∃ b,inB c.lock (-1) ((s.tasks.length:Int) - 1)=b:=⟨_,rfl⟩;have H3:Aside0 ((decide ((-1:Int)<=c.lock) && decide (c.lock<=(s.tasks.length:Int) - 1))=bH3):=⟨hbH3⟩;clear hbH3
   cases bH1 with
   | false=>
    go_wp2_with (first
    |((with_reducible refine gate_dst (N:=17) rfl ?_);refine wpList_load_mid rfl 53 (.tmp 16) rfl bc (oc+k*3) rfl _ _ (fun j u hu=>cellB HB.out (HC.out j u hu)) Try.underlying53 rfl (by kernel_rfl) ?_)|((with_reducible refine gate_dst (N:=4) rfl ?_);refine box_event rfl (N:=4) rfl (t:=53) (by go_simp<;>rfl) ?_;intro gc hg wt hbox hb;have BC0:=am hbox;have GC:=am hg;have HBT:=am hb;clear hbox hb hg)|((with_reducible refine gate_store (t:=53) (p:=4) rfl ?_);refine store_block rfl rfl 53 (.tmp 4) (.tmp 17) rfl rfl rfl BC0.out rfl (by kernel_rfl) (aB rfl) ?_;intro wn hbox hg;have BC:=am hbox;have hbx:=pw_below_grown HBT.out _ HBT.out.size hg (fun z hz=>by cases hz;exact Nat.le_of_eq GC.out.symm);replace BS:=am (zb8 BS.out hbx);replace HB:=am (below_step HB.out hbx);clear BSc BC0 HBT hbx hbox hg;have BSc:=zc8 BS.out;have BCc:=zc8 BC.out)
    |(go_at_call 50;refine (l6In_calls _ _ _ _).mono ?_;(first|rw [H1.out] | rw [H2.out] | rw [H3.out]);rintro e w9 ⟨rfl,rfl⟩))
    go_ret
    have hr:cellsOk s=false:=by
     unfold cellsOk;exact allB_no hlt (by rw [<-CX.out];simp only [];rw [show inB c.num 0 99=false from H1.out,Bool.false_and,Bool.false_and,Bool.false_and])
    rw [hr]
    exact ⟨rfl,HB.out⟩
   | true=>
    cases bH2 with
    | false=>
     go_wp2_with (first
     |((with_reducible refine gate_dst (N:=17) rfl ?_);refine wpList_load_mid rfl 53 (.tmp 16) rfl bc (oc+k*3) rfl _ _ (fun j u hu=>cellB HB.out (HC.out j u hu)) Try.underlying53 rfl (by kernel_rfl) ?_)|((with_reducible refine gate_dst (N:=4) rfl ?_);refine box_event rfl (N:=4) rfl (t:=53) (by go_simp<;>rfl) ?_;intro gc hg wt hbox hb;have BC0:=am hbox;have GC:=am hg;have HBT:=am hb;clear hbox hb hg)|((with_reducible refine gate_store (t:=53) (p:=4) rfl ?_);refine store_block rfl rfl 53 (.tmp 4) (.tmp 17) rfl rfl rfl BC0.out rfl (by kernel_rfl) (aB rfl) ?_;intro wn hbox hg;have BC:=am hbox;have hbx:=pw_below_grown HBT.out _ HBT.out.size hg (fun z hz=>by cases hz;exact Nat.le_of_eq GC.out.symm);replace BS:=am (zb8 BS.out hbx);replace HB:=am (below_step HB.out hbx);clear BSc BC0 HBT hbx hbox hg;have BSc:=zc8 BS.out;have BCc:=zc8 BC.out)
     |(go_at_call 50;refine (l6In_calls _ _ _ _).mono ?_;(first|rw [H1.out] | rw [H2.out] | rw [H3.out]);rintro e w9 ⟨rfl,rfl⟩))
     go_ret
     have hr:cellsOk s=false:=by
      unfold cellsOk;exact allB_no hlt (by rw [<-CX.out];simp only [];rw [show inB c.time 0 s.clock=false from H2.out,Bool.and_false,Bool.false_and,Bool.false_and])
     rw [hr]
     exact ⟨rfl,HB.out⟩
    | true=>
     cases bH3 with
     | false=>
      go_wp2_with (first
      |((with_reducible refine gate_dst (N:=17) rfl ?_);refine wpList_load_mid rfl 53 (.tmp 16) rfl bc (oc+k*3) rfl _ _ (fun j u hu=>cellB HB.out (HC.out j u hu)) Try.underlying53 rfl (by kernel_rfl) ?_)|((with_reducible refine gate_dst (N:=4) rfl ?_);refine box_event rfl (N:=4) rfl (t:=53) (by go_simp<;>rfl) ?_;intro gc hg wt hbox hb;have BC0:=am hbox;have GC:=am hg;have HBT:=am hb;clear hbox hb hg)|((with_reducible refine gate_store (t:=53) (p:=4) rfl ?_);refine store_block rfl rfl 53 (.tmp 4) (.tmp 17) rfl rfl rfl BC0.out rfl (by kernel_rfl) (aB rfl) ?_;intro wn hbox hg;have BC:=am hbox;have hbx:=pw_below_grown HBT.out _ HBT.out.size hg (fun z hz=>by cases hz;exact Nat.le_of_eq GC.out.symm);replace BS:=am (zb8 BS.out hbx);replace HB:=am (below_step HB.out hbx);clear BSc BC0 HBT hbx hbox hg;have BSc:=zc8 BS.out;have BCc:=zc8 BC.out)
      |(go_at_call 50;refine (l6In_calls _ _ _ _).mono ?_;(first|rw [H1.out] | rw [H2.out] | rw [H3.out]);rintro e w9 ⟨rfl,rfl⟩))
      go_ret
      have hr:cellsOk s=false:=by
       unfold cellsOk;exact allB_no hlt (by rw [<-CX.out];simp only [];rw [show inB c.lock (-1) ((s.tasks.length:Int) - 1)=false from H3.out,Bool.and_false,Bool.false_and])
      rw [hr]
      exact ⟨rfl,HB.out⟩
     | true=>
      go_wp2_with (first
      |((with_reducible refine gate_dst (N:=17) rfl ?_);refine wpList_load_mid rfl 53 (.tmp 16) rfl bc (oc+k*3) rfl _ _ (fun j u hu=>cellB HB.out (HC.out j u hu)) Try.underlying53 rfl (by kernel_rfl) ?_)|((with_reducible refine gate_dst (N:=4) rfl ?_);refine box_event rfl (N:=4) rfl (t:=53) (by go_simp<;>rfl) ?_;intro gc hg wt hbox hb;have BC0:=am hbox;have GC:=am hg;have HBT:=am hb;clear hbox hb hg)|((with_reducible refine gate_store (t:=53) (p:=4) rfl ?_);refine store_block rfl rfl 53 (.tmp 4) (.tmp 17) rfl rfl rfl BC0.out rfl (by kernel_rfl) (aB rfl) ?_;intro wn hbox hg;have BC:=am hbox;have hbx:=pw_below_grown HBT.out _ HBT.out.size hg (fun z hz=>by cases hz;exact Nat.le_of_eq GC.out.symm);replace BS:=am (zb8 BS.out hbx);replace HB:=am (below_step HB.out hbx);clear BSc BC0 HBT hbx hbox hg;have BSc:=zc8 BS.out;have BCc:=zc8 BC.out)
      |(go_at_call 50;refine (l6In_calls _ _ _ _).mono ?_;(first|rw [H1.out] | rw [H2.out] | rw [H3.out]);rintro e w9 ⟨rfl,rfl⟩))
      go_loopw [5] (fun j w'=>∃ m:Nat,m<=s.tasks.length/\j= .int .i64 m/\Aside0 (∀ i,i < m->decide (holds (taskAt s.tasks i) k=decide (c.lock=i))=true)/\Aside0 (w'.heap[gs]? = some (.cells #[.slice (some ⟨bc,oc,none⟩) s.cells.length c0,.slice A1 s.tasks.length c1,.int .i64 s.clock,.slice A3 s.log.length c3] 27 (0,0)))/\Aside0 (w'.heap[gc]? = some (.cells #[.int .i64 c.num,.int .i64 c.time,.int .i64 c.lock] 53 (0,0)))/\Aside0 (Below w.heap.size w w')) (fun j _=>s.tasks.length - (intOf j).toNat)
      case atStart=>exact ⟨0,Nat.zero_le _,rfl,⟨fun i hi=>by omega⟩,BS,BC,HB⟩
      case round=>
       clear BS BC HB BSc BCc;obtain ⟨m,hm',rfl,HM,BS,BC,HB⟩:=hrel;have BSc:=zc8 BS.out;have BCc:=zc8 BC.out;by_cases hmt:m < s.tasks.length
       ·obtain ⟨b,o,cs,rfl,hcl,hK,hcc,-⟩:=C_field G1.out zTask m hmt (by decide)
        have HPN:=am (HZ.out m hmt);obtain ⟨t,htx⟩:∃ x,x=taskAt s.tasks m:=⟨_,rfl⟩;rw [<-htx] at HPN;rw [show s.tasks.getD m zTask=t from htx.symm] at hK;have HK:=am hK;have TX:=am htx;obtain ⟨B3,d3,B8,d8,B9,d9,B10,d10,rfl,-⟩:=kTask_open hK;have HT:=am hcc;have r0:(0:Int)<=(m:Int):=by omega
        have r1:(m:Int) < (s.tasks.length:Int):=by omega
        clear hcl hK hcc htx
        cases hbh:holds t (k:Int) with
        | true=>
         have HH:=am hbh;clear hbh;by_cases hl:c.lock=(m:Int)
         ·have yl:(c.lock == (m:Int))=true:=by simp [hl]
          have HL:Aside0 (decide (c.lock=(m:Int))=true):=⟨decide_eq_true hl⟩;clear hl;go_wp2;refine st9 (n:=12) (S:=fun W=>W.heap[gs]? = some (.cells #[.slice (some ⟨bc,oc,none⟩) s.cells.length c0,.slice (some ⟨b,o,none⟩) s.tasks.length c1,.int .i64 s.clock,.slice A3 s.log.length c3] 27 (0,0))/\W.heap[gc]? = some (.cells #[.int .i64 c.num,.int .i64 c.time,.int .i64 c.lock] 53 (0,0))/\∀ j u, [.int .i64 t.body,.int .i64 t.pc,.int .i64 t.up,.slice B3 t.regs.length d3,.int .i64 t.way,.int .i64 t.stage,.int .i64 t.at_,.int .i64 t.since,.slice B8 t.old.length d8,.slice B9 t.reads.length d9,.slice B10 t.puts.length d10,.int .i64 t.when_,.int .i64 t.from_][j]? = some u->W.cell? ⟨b,o+m*13+j,none⟩=some u) (ds:= []) (by kernel_rfl) rfl ⟨blk_drew BS.out,blk_drew BC.out,fun j u hu=>(show wr.cell? ⟨b,o+m*13+j,none⟩=_ from cellB HB.out (HT.out j u hu))⟩ (fun hHeld=> ?_);have hb:=below_drew (Below.refl wr.heap.size wr);generalize wr.drew=w7 at hb hHeld ⊢;have HB7:=am (below_step HB.out hb);clear hb HB BS BC BSc BCc;refine ba9 (fuel:=2) (n:=10) [0,1,2,3,4,5,7,8,9,10] (by kernel_rfl) (fun N _ _ _ _ h=>by cases N <;> exact h) hHeld ?_
          iterate 10 (
           refine stillS_step (v:= ?_) (a':= ?_) rfl (Or.inl ⟨by rfl, ?_⟩) ?_ ?_;rotate_left
           ·rintro W ⟨s0,s2,s3⟩
            have t0:=zc8 s0;have t2:=zc8 s2;have u0:=s3 0 _ rfl;have u1:=s3 1 _ rfl;have u2:=s3 2 _ rfl;have u3:=s3 3 _ rfl;have u4:=s3 4 _ rfl;have u5:=s3 5 _ rfl;have u6:=s3 6 _ rfl;have u7:=s3 7 _ rfl;have u8:=s3 8 _ rfl;have u9:=s3 9 _ rfl;have u10:=s3 10 _ rfl;have u11:=s3 11 _ rfl;have u12:=s3 12 _ rfl;rw [Nat.add_zero] at u0;clear s0 s2 s3;go_simp;with_reducible rfl
           rotate_left
           ·simp only [Act.put,sA,sZ,sS,i64_w]
            rfl)
          refine stillS_nil ?_;refine on9 (i:=6) (N:=some 53) rfl rfl (by kernel_rfl) (by decide) (fun K hK=> ?_);refine goes_ Try.func96 (by kernel_rfl) rfl #[.agg #[.int .i64 t.body,.int .i64 t.pc,.int .i64 t.up,.slice B3 t.regs.length d3,.int .i64 t.way,.int .i64 t.stage,.int .i64 t.at_,.int .i64 t.since,.slice B8 t.old.length d8,.slice B9 t.reads.length d9,.slice B10 t.puts.length d10,.int .i64 t.when_,.int .i64 t.from_],.int .i64 k] (by rfl) rfl rfl (by (try simp only [List.map_toArray,List.map_cons,List.map_nil]);first | done | rfl) ?_;refine (l12Holds_calls t _ (k:Int) _ (kTask.K_below HB7.out HK.out) HPN.out).mono ?_;rw [HH.out];rintro e wn ⟨rfl,hb⟩;refine ⟨_,rfl, ?_⟩;refine hK.out _ _ ⟨zb8 hHeld.1 hb,zb8 hHeld.2.1 hb,fun j u hu=>cellB hb (hHeld.2.2 j u hu)⟩ (fun hHeld=> ?_);clear hK K;refine norm_ (a':= ?_) ?_ ?_;rotate_left
          ·show Act.put _ (some 53) _=_
           simp only [Act.put,sA,sZ,sS,i64_w];rfl
          have HB:=am (below_step HB7.out hb);refine ba9 (fuel:=0) (n:=1) [11] (by kernel_rfl) (fun N _ _ _ _ h=>by cases N <;> exact h) hHeld ?_
          iterate 1 (
           refine stillS_step (v:= ?_) (a':= ?_) rfl (Or.inl ⟨by rfl, ?_⟩) ?_ ?_;rotate_left
           ·intro W hW
            go_simp
            with_reducible rfl
           rotate_left
           ·simp only [Act.put,sA,sZ,sS,i64_w]
            rfl)
          refine stillS_nil ?_;have BS:=am hHeld.1;have BC:=am hHeld.2.1;clear hHeld HB7 hb;have BSc:=zc8 BS.out;have BCc:=zc8 BC.out;refine done_ (by kernel_rfl) ?_;go_wp2;go_roundw
          case rel=>exact ⟨m+1,by omega,by go_num,⟨fun i hi=>by rcases Nat.lt_or_ge i m with h | h;exact HM.out i h;obtain rfl:i=m:=(by omega);rw [<-TX.out,HH.out,HL.out];rfl⟩,BS,BC,HB⟩
          case measure=>simp [intOf];omega
         ·have yl:(c.lock == (m:Int))=false:=by simp [hl]
          have HL:Aside0 (decide (c.lock=(m:Int))=false):=⟨decide_eq_false hl⟩;clear hl;go_wp2;refine st9 (n:=12) (S:=fun W=>W.heap[gs]? = some (.cells #[.slice (some ⟨bc,oc,none⟩) s.cells.length c0,.slice (some ⟨b,o,none⟩) s.tasks.length c1,.int .i64 s.clock,.slice A3 s.log.length c3] 27 (0,0))/\W.heap[gc]? = some (.cells #[.int .i64 c.num,.int .i64 c.time,.int .i64 c.lock] 53 (0,0))/\∀ j u, [.int .i64 t.body,.int .i64 t.pc,.int .i64 t.up,.slice B3 t.regs.length d3,.int .i64 t.way,.int .i64 t.stage,.int .i64 t.at_,.int .i64 t.since,.slice B8 t.old.length d8,.slice B9 t.reads.length d9,.slice B10 t.puts.length d10,.int .i64 t.when_,.int .i64 t.from_][j]? = some u->W.cell? ⟨b,o+m*13+j,none⟩=some u) (ds:= []) (by kernel_rfl) rfl ⟨blk_drew BS.out,blk_drew BC.out,fun j u hu=>(show wr.cell? ⟨b,o+m*13+j,none⟩=_ from cellB HB.out (HT.out j u hu))⟩ (fun hHeld=> ?_);have hb:=below_drew (Below.refl wr.heap.size wr);generalize wr.drew=w7 at hb hHeld ⊢;have HB7:=am (below_step HB.out hb);clear hb HB BS BC BSc BCc;refine ba9 (fuel:=2) (n:=10) [0,1,2,3,4,5,7,8,9,10] (by kernel_rfl) (fun N _ _ _ _ h=>by cases N <;> exact h) hHeld ?_
          iterate 10 (
           refine stillS_step (v:= ?_) (a':= ?_) rfl (Or.inl ⟨by rfl, ?_⟩) ?_ ?_;rotate_left
           ·rintro W ⟨s0,s2,s3⟩
            have t0:=zc8 s0;have t2:=zc8 s2;have u0:=s3 0 _ rfl;have u1:=s3 1 _ rfl;have u2:=s3 2 _ rfl;have u3:=s3 3 _ rfl;have u4:=s3 4 _ rfl;have u5:=s3 5 _ rfl;have u6:=s3 6 _ rfl;have u7:=s3 7 _ rfl;have u8:=s3 8 _ rfl;have u9:=s3 9 _ rfl;have u10:=s3 10 _ rfl;have u11:=s3 11 _ rfl;have u12:=s3 12 _ rfl;rw [Nat.add_zero] at u0;clear s0 s2 s3;go_simp;with_reducible rfl
           rotate_left
           ·simp only [Act.put,sA,sZ,sS,i64_w]
            rfl)
          refine stillS_nil ?_;refine on9 (i:=6) (N:=some 53) rfl rfl (by kernel_rfl) (by decide) (fun K hK=> ?_);refine goes_ Try.func96 (by kernel_rfl) rfl #[.agg #[.int .i64 t.body,.int .i64 t.pc,.int .i64 t.up,.slice B3 t.regs.length d3,.int .i64 t.way,.int .i64 t.stage,.int .i64 t.at_,.int .i64 t.since,.slice B8 t.old.length d8,.slice B9 t.reads.length d9,.slice B10 t.puts.length d10,.int .i64 t.when_,.int .i64 t.from_],.int .i64 k] (by rfl) rfl rfl (by (try simp only [List.map_toArray,List.map_cons,List.map_nil]);first | done | rfl) ?_;refine (l12Holds_calls t _ (k:Int) _ (kTask.K_below HB7.out HK.out) HPN.out).mono ?_;rw [HH.out];rintro e wn ⟨rfl,hb⟩;refine ⟨_,rfl, ?_⟩;refine hK.out _ _ ⟨zb8 hHeld.1 hb,zb8 hHeld.2.1 hb,fun j u hu=>cellB hb (hHeld.2.2 j u hu)⟩ (fun hHeld=> ?_);clear hK K;refine norm_ (a':= ?_) ?_ ?_;rotate_left
          ·show Act.put _ (some 53) _=_
           simp only [Act.put,sA,sZ,sS,i64_w];rfl
          have HB:=am (below_step HB7.out hb);refine ba9 (fuel:=0) (n:=1) [11] (by kernel_rfl) (fun N _ _ _ _ h=>by cases N <;> exact h) hHeld ?_
          iterate 1 (
           refine stillS_step (v:= ?_) (a':= ?_) rfl (Or.inl ⟨by rfl, ?_⟩) ?_ ?_;rotate_left
           ·intro W hW
            go_simp
            with_reducible rfl
           rotate_left
           ·simp only [Act.put,sA,sZ,sS,i64_w]
            rfl)
          refine stillS_nil ?_;have BS:=am hHeld.1;have BC:=am hHeld.2.1;clear hHeld HB7 hb;have BSc:=zc8 BS.out;have BCc:=zc8 BC.out;refine done_ (by kernel_rfl) ?_;go_wp2;go_ret
          have hr:cellsOk s=false:=by
           unfold cellsOk;exact allB_no hlt (by rw [<-CX.out];simp only [];rw [allB_no hmt (by rw [<-TX.out,HH.out,HL.out];rfl),Bool.and_false])
          rw [hr]
          exact ⟨rfl,HB.out⟩
        | false=>
         have HH:=am hbh;clear hbh;by_cases hl:c.lock=(m:Int)
         ·have yl:(c.lock == (m:Int))=true:=by simp [hl]
          have HL:Aside0 (decide (c.lock=(m:Int))=true):=⟨decide_eq_true hl⟩;clear hl;go_wp2;refine st9 (n:=12) (S:=fun W=>W.heap[gs]? = some (.cells #[.slice (some ⟨bc,oc,none⟩) s.cells.length c0,.slice (some ⟨b,o,none⟩) s.tasks.length c1,.int .i64 s.clock,.slice A3 s.log.length c3] 27 (0,0))/\W.heap[gc]? = some (.cells #[.int .i64 c.num,.int .i64 c.time,.int .i64 c.lock] 53 (0,0))/\∀ j u, [.int .i64 t.body,.int .i64 t.pc,.int .i64 t.up,.slice B3 t.regs.length d3,.int .i64 t.way,.int .i64 t.stage,.int .i64 t.at_,.int .i64 t.since,.slice B8 t.old.length d8,.slice B9 t.reads.length d9,.slice B10 t.puts.length d10,.int .i64 t.when_,.int .i64 t.from_][j]? = some u->W.cell? ⟨b,o+m*13+j,none⟩=some u) (ds:= []) (by kernel_rfl) rfl ⟨blk_drew BS.out,blk_drew BC.out,fun j u hu=>(show wr.cell? ⟨b,o+m*13+j,none⟩=_ from cellB HB.out (HT.out j u hu))⟩ (fun hHeld=> ?_);have hb:=below_drew (Below.refl wr.heap.size wr);generalize wr.drew=w7 at hb hHeld ⊢;have HB7:=am (below_step HB.out hb);clear hb HB BS BC BSc BCc;refine ba9 (fuel:=2) (n:=10) [0,1,2,3,4,5,7,8,9,10] (by kernel_rfl) (fun N _ _ _ _ h=>by cases N <;> exact h) hHeld ?_
          iterate 10 (
           refine stillS_step (v:= ?_) (a':= ?_) rfl (Or.inl ⟨by rfl, ?_⟩) ?_ ?_;rotate_left
           ·rintro W ⟨s0,s2,s3⟩
            have t0:=zc8 s0;have t2:=zc8 s2;have u0:=s3 0 _ rfl;have u1:=s3 1 _ rfl;have u2:=s3 2 _ rfl;have u3:=s3 3 _ rfl;have u4:=s3 4 _ rfl;have u5:=s3 5 _ rfl;have u6:=s3 6 _ rfl;have u7:=s3 7 _ rfl;have u8:=s3 8 _ rfl;have u9:=s3 9 _ rfl;have u10:=s3 10 _ rfl;have u11:=s3 11 _ rfl;have u12:=s3 12 _ rfl;rw [Nat.add_zero] at u0;clear s0 s2 s3;go_simp;with_reducible rfl
           rotate_left
           ·simp only [Act.put,sA,sZ,sS,i64_w]
            rfl)
          refine stillS_nil ?_;refine on9 (i:=6) (N:=some 53) rfl rfl (by kernel_rfl) (by decide) (fun K hK=> ?_);refine goes_ Try.func96 (by kernel_rfl) rfl #[.agg #[.int .i64 t.body,.int .i64 t.pc,.int .i64 t.up,.slice B3 t.regs.length d3,.int .i64 t.way,.int .i64 t.stage,.int .i64 t.at_,.int .i64 t.since,.slice B8 t.old.length d8,.slice B9 t.reads.length d9,.slice B10 t.puts.length d10,.int .i64 t.when_,.int .i64 t.from_],.int .i64 k] (by rfl) rfl rfl (by (try simp only [List.map_toArray,List.map_cons,List.map_nil]);first | done | rfl) ?_;refine (l12Holds_calls t _ (k:Int) _ (kTask.K_below HB7.out HK.out) HPN.out).mono ?_;rw [HH.out];rintro e wn ⟨rfl,hb⟩;refine ⟨_,rfl, ?_⟩;refine hK.out _ _ ⟨zb8 hHeld.1 hb,zb8 hHeld.2.1 hb,fun j u hu=>cellB hb (hHeld.2.2 j u hu)⟩ (fun hHeld=> ?_);clear hK K;refine norm_ (a':= ?_) ?_ ?_;rotate_left
          ·show Act.put _ (some 53) _=_
           simp only [Act.put,sA,sZ,sS,i64_w];rfl
          have HB:=am (below_step HB7.out hb);refine ba9 (fuel:=0) (n:=1) [11] (by kernel_rfl) (fun N _ _ _ _ h=>by cases N <;> exact h) hHeld ?_
          iterate 1 (
           refine stillS_step (v:= ?_) (a':= ?_) rfl (Or.inl ⟨by rfl, ?_⟩) ?_ ?_;rotate_left
           ·intro W hW
            go_simp
            with_reducible rfl
           rotate_left
           ·simp only [Act.put,sA,sZ,sS,i64_w]
            rfl)
          refine stillS_nil ?_;have BS:=am hHeld.1;have BC:=am hHeld.2.1;clear hHeld HB7 hb;have BSc:=zc8 BS.out;have BCc:=zc8 BC.out;refine done_ (by kernel_rfl) ?_;go_wp2;go_ret
          have hr:cellsOk s=false:=by
           unfold cellsOk;exact allB_no hlt (by rw [<-CX.out];simp only [];rw [allB_no hmt (by rw [<-TX.out,HH.out,HL.out];rfl),Bool.and_false])
          rw [hr];exact ⟨rfl,HB.out⟩
         ·have yl:(c.lock == (m:Int))=false:=by simp [hl]
          have HL:Aside0 (decide (c.lock=(m:Int))=false):=⟨decide_eq_false hl⟩;clear hl;go_wp2;refine st9 (n:=12) (S:=fun W=>W.heap[gs]? = some (.cells #[.slice (some ⟨bc,oc,none⟩) s.cells.length c0,.slice (some ⟨b,o,none⟩) s.tasks.length c1,.int .i64 s.clock,.slice A3 s.log.length c3] 27 (0,0))/\W.heap[gc]? = some (.cells #[.int .i64 c.num,.int .i64 c.time,.int .i64 c.lock] 53 (0,0))/\∀ j u, [.int .i64 t.body,.int .i64 t.pc,.int .i64 t.up,.slice B3 t.regs.length d3,.int .i64 t.way,.int .i64 t.stage,.int .i64 t.at_,.int .i64 t.since,.slice B8 t.old.length d8,.slice B9 t.reads.length d9,.slice B10 t.puts.length d10,.int .i64 t.when_,.int .i64 t.from_][j]? = some u->W.cell? ⟨b,o+m*13+j,none⟩=some u) (ds:= []) (by kernel_rfl) rfl ⟨blk_drew BS.out,blk_drew BC.out,fun j u hu=>(show wr.cell? ⟨b,o+m*13+j,none⟩=_ from cellB HB.out (HT.out j u hu))⟩ (fun hHeld=> ?_);have hb:=below_drew (Below.refl wr.heap.size wr);generalize wr.drew=w7 at hb hHeld ⊢;have HB7:=am (below_step HB.out hb);clear hb HB BS BC BSc BCc;refine ba9 (fuel:=2) (n:=10) [0,1,2,3,4,5,7,8,9,10] (by kernel_rfl) (fun N _ _ _ _ h=>by cases N <;> exact h) hHeld ?_
          iterate 10 (
           refine stillS_step (v:= ?_) (a':= ?_) rfl (Or.inl ⟨by rfl, ?_⟩) ?_ ?_;rotate_left
           ·rintro W ⟨s0,s2,s3⟩
            have t0:=zc8 s0;have t2:=zc8 s2;have u0:=s3 0 _ rfl;have u1:=s3 1 _ rfl;have u2:=s3 2 _ rfl;have u3:=s3 3 _ rfl;have u4:=s3 4 _ rfl;have u5:=s3 5 _ rfl;have u6:=s3 6 _ rfl;have u7:=s3 7 _ rfl;have u8:=s3 8 _ rfl;have u9:=s3 9 _ rfl;have u10:=s3 10 _ rfl;have u11:=s3 11 _ rfl;have u12:=s3 12 _ rfl;rw [Nat.add_zero] at u0;clear s0 s2 s3;go_simp;with_reducible rfl
           rotate_left
           ·simp only [Act.put,sA,sZ,sS,i64_w]
            rfl)
          refine stillS_nil ?_;refine on9 (i:=6) (N:=some 53) rfl rfl (by kernel_rfl) (by decide) (fun K hK=> ?_);refine goes_ Try.func96 (by kernel_rfl) rfl #[.agg #[.int .i64 t.body,.int .i64 t.pc,.int .i64 t.up,.slice B3 t.regs.length d3,.int .i64 t.way,.int .i64 t.stage,.int .i64 t.at_,.int .i64 t.since,.slice B8 t.old.length d8,.slice B9 t.reads.length d9,.slice B10 t.puts.length d10,.int .i64 t.when_,.int .i64 t.from_],.int .i64 k] (by rfl) rfl rfl (by (try simp only [List.map_toArray,List.map_cons,List.map_nil]);first | done | rfl) ?_;refine (l12Holds_calls t _ (k:Int) _ (kTask.K_below HB7.out HK.out) HPN.out).mono ?_;rw [HH.out];rintro e wn ⟨rfl,hb⟩;refine ⟨_,rfl, ?_⟩;refine hK.out _ _ ⟨zb8 hHeld.1 hb,zb8 hHeld.2.1 hb,fun j u hu=>cellB hb (hHeld.2.2 j u hu)⟩ (fun hHeld=> ?_);clear hK K;refine norm_ (a':= ?_) ?_ ?_;rotate_left
          ·show Act.put _ (some 53) _=_
           simp only [Act.put,sA,sZ,sS,i64_w];rfl
          have HB:=am (below_step HB7.out hb);refine ba9 (fuel:=0) (n:=1) [11] (by kernel_rfl) (fun N _ _ _ _ h=>by cases N <;> exact h) hHeld ?_
          iterate 1 (
           refine stillS_step (v:= ?_) (a':= ?_) rfl (Or.inl ⟨by rfl, ?_⟩) ?_ ?_;rotate_left
           ·intro W hW
            go_simp
            with_reducible rfl
           rotate_left
           ·simp only [Act.put,sA,sZ,sS,i64_w]
            rfl)
          refine stillS_nil ?_;have BS:=am hHeld.1;have BC:=am hHeld.2.1;clear hHeld HB7 hb;have BSc:=zc8 BS.out;have BCc:=zc8 BC.out;refine done_ (by kernel_rfl) ?_;go_wp2;go_roundw
          case rel=>exact ⟨m+1,by omega,by go_num,⟨fun i hi=>by rcases Nat.lt_or_ge i m with h | h;exact HM.out i h;obtain rfl:i=m:=(by omega);rw [<-TX.out,HH.out,HL.out];rfl⟩,BS,BC,HB⟩
          case measure=>simp [intOf];omega
       ·obtain rfl:m=s.tasks.length:=by omega
        go_wp2;go_roundw
        case rel=>exact ⟨k+1,by omega,by go_num,⟨fun i hi=>by rcases Nat.lt_or_ge i k with h | h;exact HJ.out i h;obtain rfl:i=k:=(by omega);rw [<-CX.out,show inB c.num 0 99=true from H1.out,show inB c.time 0 s.clock=true from H2.out,show inB c.lock (-1) ((s.tasks.length:Int) - 1)=true from H3.out,allB_iff.2 HM.out];rfl⟩,BS,HB⟩
        case measure=>simp [intOf];omega
  ·obtain rfl:k=s.cells.length:=by omega
   go_wp2;go_ret
   have hr:cellsOk s=true:=by
    unfold cellsOk;exact allB_iff.2 HJ.out
   rw [hr];exact ⟨rfl,HB.out⟩
theorem l12Log_calls (p:Prog) (ps:List Value) (s:Sys) (ss:List Value) (w:World) (hp:kProg.K w p ps) (hs:kSys.K w s ss) (hz:ProgSz p) (hm:s.cells.length<=1048576) (hn:s.tasks.length<=1048576) (hl:s.log.length<=1048576) (hsz:∀ i,i < s.log.length->(entryAt s.log i).reads.length<=1048576/\(entryAt s.log i).puts.length<=1048576) (hbd:∀ i,i < s.tasks.length->0<=(taskAt s.tasks i).body/\(taskAt s.tasks i).body < p.bodies.length):
  Calls Try.prog 59 #[.agg ps.toArray,.agg ss.toArray] w fun e w'=>e= .returned (.bool (logOk p s))/\Below w.heap.size w w':=by
 obtain ⟨Ac,cc,Ab,cb,rfl,-,-,-,gb⟩:=kProg_open hp;obtain ⟨A0,c0,A1,c1,A3,c3,rfl,-,-,-,g1,-,g3⟩:=kSys_open hs;have GB:=am gb;have G1:=am g1;have G3:=am g3;have HZ:=am hsz;have HBD:=am hbd;have HSZ:Aside0 (∀ k,k < p.bodies.length->(actsAt p.bodies k).length<=1048576):=⟨fun k hk=>by rw [actsAt_eq hk];exact (hz.acts _ (List.getElem_mem hk)).1⟩;have hpb:=hz.bodies;clear hp hs gb g1 g3 hsz hbd hz;go_enter Try.func59,Try.ntmps59
 go_wp2_with (first
 |((with_reducible refine gate_dst (N:=2) rfl ?_);refine box_event rfl (N:=2) rfl (t:=48) (by go_simp<;>rfl) ?_;intro gp hg w2 hbox hb;have BP:=am hbox;clear hbox hg;have HB2:=am hb;clear hb;have HB:=HB2;clear HB2;have BPc:=zc8 BP.out)
 |((with_reducible refine gate_dst (N:=3) rfl ?_);refine box_event rfl (N:=3) rfl (t:=27) (by go_simp<;>rfl) ?_;intro gs hg w3 hbox hb;have BS:=am hbox;clear hbox hg;replace BP:=am (zb8 BP.out hb);replace HB:=am (below_step HB.out hb);clear hb BPc;have BPc:=zc8 BP.out;have BSc:=zc8 BS.out))
 go_loopw [5] (fun j w'=>∃ k:Nat,k<=s.log.length/\j= .int .i64 k/\Aside0 (∀ i,i < k->(inB (entryAt s.log i).task 0 (s.tasks.length - 1) && inB (entryAt s.log i).when_ 0 s.clock && inB (entryAt s.log i).from_ 0 i && listOk (entryAt s.log i).reads s.cells.length && listOk (entryAt s.log i).puts s.cells.length && inB (entryAt s.log i).act 0 ((actsAt p.bodies (taskAt s.tasks (entryAt s.log i).task.toNat).body.toNat).length - 1))=true)/\Aside0 (w'.heap[gp]? = some (.cells #[.slice Ac p.cells.length cc,.slice Ab p.bodies.length cb] 48 (0,0)))/\Aside0 (w'.heap[gs]? = some (.cells #[.slice A0 s.cells.length c0,.slice A1 s.tasks.length c1,.int .i64 s.clock,.slice A3 s.log.length c3] 27 (0,0)))/\Aside0 (Below w.heap.size w w')) (fun j _=>s.log.length - (intOf j).toNat)
 case atStart=>exact ⟨0,Nat.zero_le _,rfl,⟨fun i hi=>by omega⟩,BP,BS,HB⟩
 case round=>
  clear BP BS HB BPc BSc;obtain ⟨k,hk,rfl,HJ,BP,BS,HB⟩:=hrel;have BPc:=zc8 BP.out;have BSc:=zc8 BS.out;by_cases hlt:k < s.log.length
  ·obtain ⟨be,oe,cs,rfl,hcl,hK,hcc,-⟩:=C_field G3.out zEntry k hlt (by decide)
   obtain ⟨e,hex⟩:∃ x,x=entryAt s.log k:=⟨_,rfl⟩;have hz2:=HZ.out k hlt;rw [<-hex] at hz2;rw [show s.log.getD k zEntry=e from hex.symm] at hK;obtain ⟨E3,f3,E4,f4,rfl,-,g3,-,g4⟩:=kEntry_open hK;have R3:=am g3;have R4:=am g4;have HZ1:=am hz2.1;have HZ2:=am hz2.2;have HC:=am hcc;have EX:=am hex;have q0:(0:Int)<=(k:Int):=by omega
   have q1:(k:Int) < (s.log.length:Int):=by omega
   clear hcl hK hcc hex g3 g4 hz2;obtain ⟨bH1,hbH1⟩:∃ b,inB e.task 0 ((s.tasks.length:Int) - 1)=b:=⟨_,rfl⟩;have H1:Aside0 ((decide ((0:Int)<=e.task) && decide (e.task<=((s.tasks.length:Int) - 1)))=bH1):=⟨hbH1⟩;clear hbH1;obtain ⟨bH2,hbH2⟩:∃ b,inB e.when_ 0 s.clock=b:=⟨_,rfl⟩;have H2:Aside0 ((decide ((0:Int)<=e.when_) && decide (e.when_<=s.clock))=bH2):=⟨hbH2⟩;clear hbH2;obtain ⟨bH3,hbH3⟩:∃ b,inB e.from_ 0 (k:Int)=b:=⟨_,rfl⟩;have H3:Aside0 ((decide ((0:Int)<=e.from_) && decide (e.from_<=(k:Int)))=bH3):=⟨hbH3⟩;clear hbH3;obtain ⟨bH4,hbH4⟩:∃ b,listOk e.reads s.cells.length=b:=⟨_,rfl⟩;have H4:=am hbH4;clear hbH4;obtain ⟨bH5,hbH5⟩:∃ b,listOk e.puts s.cells.length=b:=⟨_,rfl⟩;have H5:=am hbH5;clear hbH5
   cases bH1 with
   | false=>
    go_wp2_with (first
    |((with_reducible refine gate_dst (N:=18) rfl ?_);refine wpList_load_mid rfl 119 (.tmp 17) rfl be (oe+k*6) rfl _ _ (fun j u hu=>cellB HB.out (HC.out j u hu)) Try.underlying119 rfl (by kernel_rfl) ?_)|((with_reducible refine gate_dst (N:=6) rfl ?_);refine box_event rfl (N:=6) rfl (t:=119) (by go_simp<;>rfl) ?_;intro ge hg wt hbox hb;have BE0:=am hbox;have GBE:=am hg;have HBT:=am hb;clear hbox hb hg)|((with_reducible refine gate_store (t:=119) (p:=6) rfl ?_);refine store_block rfl rfl 119 (.tmp 6) (.tmp 18) rfl rfl rfl BE0.out rfl (by kernel_rfl) (aB rfl) ?_;intro wn hbox hg;have BE:=am hbox;have hbx:=pw_below_grown HBT.out _ HBT.out.size hg (fun z hz=>by cases hz;exact Nat.le_of_eq GBE.out.symm);clear BE0 HBT hbox hg;replace BP:=am (zb8 BP.out hbx);replace BS:=am (zb8 BS.out hbx);replace HB:=am (below_step HB.out hbx);clear hbx BPc BSc;have BPc:=zc8 BP.out;have BSc:=zc8 BS.out;have BEc:=zc8 BE.out)
    |(go_at_call 50;refine (l6In_calls _ _ _ _).mono ?_;(first|rw [H1.out]);rintro e w9 ⟨rfl,rfl⟩))
    go_ret
    have hr:logOk p s=false:=by
     unfold logOk;exact allB_no hlt (by rw [<-EX.out];simp only [];rw [show inB e.task 0 ((s.tasks.length:Int) - 1)=false from H1.out];simp only [Bool.true_and,Bool.false_and,Bool.and_false])
    rw [hr]
    exact ⟨rfl,HB.out⟩
   | true=>
    cases bH2 with
    | false=>
     go_wp2_with (first
     |((with_reducible refine gate_dst (N:=18) rfl ?_);refine wpList_load_mid rfl 119 (.tmp 17) rfl be (oe+k*6) rfl _ _ (fun j u hu=>cellB HB.out (HC.out j u hu)) Try.underlying119 rfl (by kernel_rfl) ?_)|((with_reducible refine gate_dst (N:=6) rfl ?_);refine box_event rfl (N:=6) rfl (t:=119) (by go_simp<;>rfl) ?_;intro ge hg wt hbox hb;have BE0:=am hbox;have GBE:=am hg;have HBT:=am hb;clear hbox hb hg)|((with_reducible refine gate_store (t:=119) (p:=6) rfl ?_);refine store_block rfl rfl 119 (.tmp 6) (.tmp 18) rfl rfl rfl BE0.out rfl (by kernel_rfl) (aB rfl) ?_;intro wn hbox hg;have BE:=am hbox;have hbx:=pw_below_grown HBT.out _ HBT.out.size hg (fun z hz=>by cases hz;exact Nat.le_of_eq GBE.out.symm);clear BE0 HBT hbox hg;replace BP:=am (zb8 BP.out hbx);replace BS:=am (zb8 BS.out hbx);replace HB:=am (below_step HB.out hbx);clear hbx BPc BSc;have BPc:=zc8 BP.out;have BSc:=zc8 BS.out;have BEc:=zc8 BE.out)
     |(go_at_call 50;refine (l6In_calls _ _ _ _).mono ?_;(first|rw [H1.out] | rw [H2.out]);rintro e w9 ⟨rfl,rfl⟩))
     go_ret
     have hr:logOk p s=false:=by
      unfold logOk;exact allB_no hlt (by rw [<-EX.out];simp only [];rw [show inB e.task 0 ((s.tasks.length:Int) - 1)=true from H1.out,show inB e.when_ 0 s.clock=false from H2.out];simp only [Bool.true_and,Bool.false_and,Bool.and_false])
     rw [hr]
     exact ⟨rfl,HB.out⟩
    | true=>
     cases bH3 with
     | false=>
      go_wp2_with (first
      |((with_reducible refine gate_dst (N:=18) rfl ?_);refine wpList_load_mid rfl 119 (.tmp 17) rfl be (oe+k*6) rfl _ _ (fun j u hu=>cellB HB.out (HC.out j u hu)) Try.underlying119 rfl (by kernel_rfl) ?_)|((with_reducible refine gate_dst (N:=6) rfl ?_);refine box_event rfl (N:=6) rfl (t:=119) (by go_simp<;>rfl) ?_;intro ge hg wt hbox hb;have BE0:=am hbox;have GBE:=am hg;have HBT:=am hb;clear hbox hb hg)|((with_reducible refine gate_store (t:=119) (p:=6) rfl ?_);refine store_block rfl rfl 119 (.tmp 6) (.tmp 18) rfl rfl rfl BE0.out rfl (by kernel_rfl) (aB rfl) ?_;intro wn hbox hg;have BE:=am hbox;have hbx:=pw_below_grown HBT.out _ HBT.out.size hg (fun z hz=>by cases hz;exact Nat.le_of_eq GBE.out.symm);clear BE0 HBT hbox hg;replace BP:=am (zb8 BP.out hbx);replace BS:=am (zb8 BS.out hbx);replace HB:=am (below_step HB.out hbx);clear hbx BPc BSc;have BPc:=zc8 BP.out;have BSc:=zc8 BS.out;have BEc:=zc8 BE.out)
      |(go_at_call 50;refine (l6In_calls _ _ _ _).mono ?_;(first|rw [H1.out] | rw [H2.out] | rw [H3.out]);rintro e w9 ⟨rfl,rfl⟩))
      go_ret
      have hr:logOk p s=false:=by
       unfold logOk;exact allB_no hlt (by rw [<-EX.out];simp only [];rw [show inB e.task 0 ((s.tasks.length:Int) - 1)=true from H1.out,show inB e.when_ 0 s.clock=true from H2.out,show inB e.from_ 0 (k:Int)=false from H3.out];simp only [Bool.true_and,Bool.false_and,Bool.and_false])
      rw [hr]
      exact ⟨rfl,HB.out⟩
     | true=>
      cases bH4 with
      | false=>
       go_wp2_with (first
       |((with_reducible refine gate_dst (N:=18) rfl ?_);refine wpList_load_mid rfl 119 (.tmp 17) rfl be (oe+k*6) rfl _ _ (fun j u hu=>cellB HB.out (HC.out j u hu)) Try.underlying119 rfl (by kernel_rfl) ?_)|((with_reducible refine gate_dst (N:=6) rfl ?_);refine box_event rfl (N:=6) rfl (t:=119) (by go_simp<;>rfl) ?_;intro ge hg wt hbox hb;have BE0:=am hbox;have GBE:=am hg;have HBT:=am hb;clear hbox hb hg)|((with_reducible refine gate_store (t:=119) (p:=6) rfl ?_);refine store_block rfl rfl 119 (.tmp 6) (.tmp 18) rfl rfl rfl BE0.out rfl (by kernel_rfl) (aB rfl) ?_;intro wn hbox hg;have BE:=am hbox;have hbx:=pw_below_grown HBT.out _ HBT.out.size hg (fun z hz=>by cases hz;exact Nat.le_of_eq GBE.out.symm);clear BE0 HBT hbox hg;replace BP:=am (zb8 BP.out hbx);replace BS:=am (zb8 BS.out hbx);replace HB:=am (below_step HB.out hbx);clear hbx BPc BSc;have BPc:=zc8 BP.out;have BSc:=zc8 BS.out;have BEc:=zc8 BE.out)
       |(go_at_call 50;refine (l6In_calls _ _ _ _).mono ?_;(first|rw [H1.out] | rw [H2.out] | rw [H3.out]);rintro e w9 ⟨rfl,rfl⟩)
       |(go_at_call 92;refine (l12List_calls _ _ _ _ _ (by first|exact Kd.C_below R3.out HB.out | exact Kd.C_below R4.out HB.out) (by first|exact HZ1.out | exact HZ2.out) (by omega) (by omega)).mono ?_;(first|rw [H4.out]);rintro e w9 ⟨rfl,hb⟩;replace BP:=am (zb8 BP.out hb);replace BS:=am (zb8 BS.out hb);replace BE:=am (zb8 BE.out hb);replace HB:=am (below_step HB.out hb);clear hb BPc BSc BEc;have BPc:=zc8 BP.out;have BSc:=zc8 BS.out;have BEc:=zc8 BE.out))
       go_ret
       have hr:logOk p s=false:=by
        unfold logOk;exact allB_no hlt (by rw [<-EX.out];simp only [];rw [show inB e.task 0 ((s.tasks.length:Int) - 1)=true from H1.out,show inB e.when_ 0 s.clock=true from H2.out,show inB e.from_ 0 (k:Int)=true from H3.out,show listOk e.reads s.cells.length=false from H4.out];simp only [Bool.true_and,Bool.false_and,Bool.and_false])
       rw [hr]
       exact ⟨rfl,HB.out⟩
      | true=>
       cases bH5 with
       | false=>
        go_wp2_with (first
        |((with_reducible refine gate_dst (N:=18) rfl ?_);refine wpList_load_mid rfl 119 (.tmp 17) rfl be (oe+k*6) rfl _ _ (fun j u hu=>cellB HB.out (HC.out j u hu)) Try.underlying119 rfl (by kernel_rfl) ?_)|((with_reducible refine gate_dst (N:=6) rfl ?_);refine box_event rfl (N:=6) rfl (t:=119) (by go_simp<;>rfl) ?_;intro ge hg wt hbox hb;have BE0:=am hbox;have GBE:=am hg;have HBT:=am hb;clear hbox hb hg)|((with_reducible refine gate_store (t:=119) (p:=6) rfl ?_);refine store_block rfl rfl 119 (.tmp 6) (.tmp 18) rfl rfl rfl BE0.out rfl (by kernel_rfl) (aB rfl) ?_;intro wn hbox hg;have BE:=am hbox;have hbx:=pw_below_grown HBT.out _ HBT.out.size hg (fun z hz=>by cases hz;exact Nat.le_of_eq GBE.out.symm);clear BE0 HBT hbox hg;replace BP:=am (zb8 BP.out hbx);replace BS:=am (zb8 BS.out hbx);replace HB:=am (below_step HB.out hbx);clear hbx BPc BSc;have BPc:=zc8 BP.out;have BSc:=zc8 BS.out;have BEc:=zc8 BE.out)
        |(go_at_call 50;refine (l6In_calls _ _ _ _).mono ?_;(first|rw [H1.out] | rw [H2.out] | rw [H3.out]);rintro e w9 ⟨rfl,rfl⟩)
        |(go_at_call 92;refine (l12List_calls _ _ _ _ _ (by first|exact Kd.C_below R3.out HB.out | exact Kd.C_below R4.out HB.out) (by first|exact HZ1.out | exact HZ2.out) (by omega) (by omega)).mono ?_;(first|rw [H4.out] | rw [H5.out]);rintro e w9 ⟨rfl,hb⟩;replace BP:=am (zb8 BP.out hb);replace BS:=am (zb8 BS.out hb);replace BE:=am (zb8 BE.out hb);replace HB:=am (below_step HB.out hb);clear hb BPc BSc BEc;have BPc:=zc8 BP.out;have BSc:=zc8 BS.out;have BEc:=zc8 BE.out))
        go_ret
        have hr:logOk p s=false:=by
         unfold logOk;exact allB_no hlt (by rw [<-EX.out];simp only [];rw [show inB e.task 0 ((s.tasks.length:Int) - 1)=true from H1.out,show inB e.when_ 0 s.clock=true from H2.out,show inB e.from_ 0 (k:Int)=true from H3.out,show listOk e.reads s.cells.length=true from H4.out,show listOk e.puts s.cells.length=false from H5.out];simp only [Bool.true_and,Bool.false_and,Bool.and_false])
        rw [hr]
        exact ⟨rfl,HB.out⟩
       | true=>
        go_wp2_with (first
        |((with_reducible refine gate_dst (N:=18) rfl ?_);refine wpList_load_mid rfl 119 (.tmp 17) rfl be (oe+k*6) rfl _ _ (fun j u hu=>cellB HB.out (HC.out j u hu)) Try.underlying119 rfl (by kernel_rfl) ?_)|((with_reducible refine gate_dst (N:=6) rfl ?_);refine box_event rfl (N:=6) rfl (t:=119) (by go_simp<;>rfl) ?_;intro ge hg wt hbox hb;have BE0:=am hbox;have GBE:=am hg;have HBT:=am hb;clear hbox hb hg)|((with_reducible refine gate_store (t:=119) (p:=6) rfl ?_);refine store_block rfl rfl 119 (.tmp 6) (.tmp 18) rfl rfl rfl BE0.out rfl (by kernel_rfl) (aB rfl) ?_;intro wn hbox hg;have BE:=am hbox;have hbx:=pw_below_grown HBT.out _ HBT.out.size hg (fun z hz=>by cases hz;exact Nat.le_of_eq GBE.out.symm);clear BE0 HBT hbox hg;replace BP:=am (zb8 BP.out hbx);replace BS:=am (zb8 BS.out hbx);replace HB:=am (below_step HB.out hbx);clear hbx BPc BSc;have BPc:=zc8 BP.out;have BSc:=zc8 BS.out;have BEc:=zc8 BE.out)
        |(go_at_call 50;refine (l6In_calls _ _ _ _).mono ?_;(first|rw [H1.out] | rw [H2.out] | rw [H3.out]);rintro e w9 ⟨rfl,rfl⟩)
        |(go_at_call 92;refine (l12List_calls _ _ _ _ _ (by first|exact Kd.C_below R3.out HB.out | exact Kd.C_below R4.out HB.out) (by first|exact HZ1.out | exact HZ2.out) (by omega) (by omega)).mono ?_;(first|rw [H4.out] | rw [H5.out]);rintro e w9 ⟨rfl,hb⟩;replace BP:=am (zb8 BP.out hb);replace BS:=am (zb8 BS.out hb);replace BE:=am (zb8 BE.out hb);replace HB:=am (below_step HB.out hb);clear hb BPc BSc BEc;have BPc:=zc8 BP.out;have BSc:=zc8 BS.out;have BEc:=zc8 BE.out))
        have hu:=inB_iff.1 (show inB e.task 0 ((s.tasks.length:Int) - 1)=true from H1.out);obtain ⟨u,hu0⟩:=Int.eq_ofNat_of_zero_le hu.1;have hul:u < s.tasks.length:=by omega
        have r0:(0:Int)<=e.task:=hu.1;have r1:e.task < (s.tasks.length:Int):=by omega
        have r4:e.task.toNat=u:=by omega
        obtain ⟨b,o,cs,rfl,hcl,hK,hcc,-⟩:=C_field G1.out zTask u hul (by decide);obtain ⟨tb,htb⟩:∃ x,x=(taskAt s.tasks u).body:=⟨_,rfl⟩;have hbb:=HBD.out u hul;rw [<-htb] at hbb;rw [show s.tasks.getD u zTask=taskAt s.tasks u from rfl] at hK;obtain ⟨E3x,f3x,E8x,f8x,E9x,f9x,E10x,f10x,rfl,-⟩:=kTask_open hK;have pw:=hcc 0 _ rfl;simp only [show kTask.sz=13 from rfl,Nat.add_zero] at pw;rw [<-htb] at pw;have PW:=am pw;have HTB:=am htb;clear hcl hK hcc pw htb hu hu0;obtain ⟨kb,hkb0⟩:=Int.eq_ofNat_of_zero_le hbb.1;have hkb:kb < p.bodies.length:=by omega
        have v0:(0:Int)<=tb:=hbb.1;have v1:tb < (p.bodies.length:Int):=hbb.2;have v4:tb.toNat=kb:=by omega
        obtain ⟨bb,ob,cs2,rfl,hcl2,hK2,hcc2,-⟩:=C_field GB.out ([]:List Act) kb hkb (by decide);obtain ⟨Aa,ca,rfl,la,-⟩:=hK2;have p2:=hcc2 0 _ rfl;simp only [show (Kd.slice 108 kAct).sz=1 from rfl,Nat.mul_one,Nat.add_zero] at p2;rw [show (p.bodies.getD kb []).length=(actsAt p.bodies kb).length from rfl] at p2;have P2:=am p2;obtain ⟨na,hna⟩:∃ x,x=(actsAt p.bodies kb).length:=⟨_,rfl⟩;have hnl:na<=1048576:=by rw [hna];exact HSZ.out kb hkb
        rw [<-hna] at P2;have HNA:=am hna;have w5:wrap64 ((na:Int) - 1)=(na:Int) - 1:=by unfold wrap64;omega
        clear hcl2 hcc2 p2 la hna hbb hkb0;obtain ⟨bH6,hbH6⟩:∃ b,inB e.act 0 ((na:Int) - 1)=b:=⟨_,rfl⟩;have H6:Aside0 ((decide ((0:Int)<=e.act) && decide (e.act<=(na:Int) - 1))=bH6):=⟨hbH6⟩;clear hbH6
        cases bH6 with
        | false=>
         refine st9 (n:=17) (S:=fun W=>W.heap[gp]? = some (.cells #[.slice Ac p.cells.length cc,.slice (some ⟨bb,ob,none⟩) p.bodies.length cb] 48 (0,0))/\W.heap[gs]? = some (.cells #[.slice A0 s.cells.length c0,.slice (some ⟨b,o,none⟩) s.tasks.length c1,.int .i64 s.clock,.slice (some ⟨be,oe,none⟩) s.log.length c3] 27 (0,0))/\W.heap[ge]? = some (.cells #[.int .i64 e.task,.int .i64 e.act,.int .i64 e.when_,.slice E3 e.reads.length f3,.slice E4 e.puts.length f4,.int .i64 e.from_] 119 (0,0))/\W.cell? ⟨b,o+u*13,none⟩=some (.int .i64 tb)/\W.cell? ⟨bb,ob+kb,none⟩=some (.slice Aa na ca)) (ds:= []) (by kernel_rfl) rfl ⟨blk_drew BP.out,blk_drew BS.out,blk_drew BE.out,(show w9.cell? ⟨b,o+u*13,none⟩=_ from cellB HB.out PW.out),(show w9.cell? ⟨bb,ob+kb,none⟩=_ from cellB HB.out P2.out)⟩ (fun hHeld=> ?_);have hb:=below_drew (Below.refl w9.heap.size w9);generalize w9.drew=w7 at hb hHeld ⊢;have HB7:=am (below_step HB.out hb);clear hb HB BP BS BE BPc BSc BEc;refine ba9 (fuel:=2) (n:=15) [0,1,2,3,4,5,6,7,8,9,10,11,12,13,14] (by kernel_rfl) (fun N _ _ _ _ h=>by cases N <;> exact h) hHeld ?_
         iterate 15 (
          refine stillS_step (v:= ?_) (a':= ?_) rfl (Or.inl ⟨by rfl, ?_⟩) ?_ ?_;rotate_left
          ·rintro W ⟨s0,s1,s2,s3,s4⟩
           have t0:=zc8 s0;have t1:=zc8 s1;have t2:=zc8 s2;clear s0 s1 s2;go_simp;with_reducible rfl
          rotate_left
          ·simp only [Act.put,sA,sZ,sS,i64_w]
           rfl)
         refine stillS_nil ?_;refine on9 (i:=15) (N:=some 75) rfl rfl (by kernel_rfl) (by decide) (fun K hK=> ?_);refine goes_ Try.func50 (by kernel_rfl) rfl #[.int .i64 e.act,.int .i64 0,.int .i64 (wrap64 ((na:Int) - 1))] (by rfl) rfl rfl (by (try simp only [List.map_toArray,List.map_cons,List.map_nil]);first | done | rfl) ?_;refine (l6In_calls e.act 0 (wrap64 ((na:Int) - 1)) _).mono ?_;rw [w5,H6.out];rintro e9 wn ⟨rfl,rfl⟩;refine ⟨_,rfl, ?_⟩;refine hK.out _ _ hHeld (fun hHeld=> ?_);clear hK K;refine norm_ (a':= ?_) ?_ ?_;rotate_left
         ·show Act.put _ (some 75) _=_
          simp only [Act.put,sA,sZ,sS,i64_w];rfl
         refine ba9 (fuel:=0) (n:=1) [16] (by kernel_rfl) (fun N _ _ _ _ h=>by cases N <;> exact h) hHeld ?_
         iterate 1 (
          refine stillS_step (v:= ?_) (a':= ?_) rfl (Or.inl ⟨by rfl, ?_⟩) ?_ ?_;rotate_left
          ·rintro W ⟨s0,s1,s2,s3,s4⟩
           have t0:=zc8 s0;have t1:=zc8 s1;have t2:=zc8 s2;clear s0 s1 s2;go_simp;with_reducible rfl
          rotate_left
          ·simp only [Act.put,sA,sZ,sS,i64_w]
           rfl)
         refine stillS_nil ?_;refine done_ (by kernel_rfl) ?_;have BP:=am hHeld.1;have BS:=am hHeld.2.1;have HB:=HB7;clear hHeld HB7;have BPc:=zc8 BP.out;have BSc:=zc8 BS.out;go_wp2;go_ret
         have hr:logOk p s=false:=by
          unfold logOk;exact allB_no hlt (by rw [<-EX.out];(try simp only []);rw [show inB e.task 0 ((s.tasks.length:Int) - 1)=true from H1.out,show inB e.when_ 0 s.clock=true from H2.out,show inB e.from_ 0 (k:Int)=true from H3.out,show listOk e.reads s.cells.length=true from H4.out,show listOk e.puts s.cells.length=true from H5.out,r4,<-HTB.out,v4,<-HNA.out,show inB e.act 0 ((na:Int) - 1)=false from H6.out];simp only [Bool.and_false])
         rw [hr]
         exact ⟨rfl,HB.out⟩
        | true=>
         refine st9 (n:=17) (S:=fun W=>W.heap[gp]? = some (.cells #[.slice Ac p.cells.length cc,.slice (some ⟨bb,ob,none⟩) p.bodies.length cb] 48 (0,0))/\W.heap[gs]? = some (.cells #[.slice A0 s.cells.length c0,.slice (some ⟨b,o,none⟩) s.tasks.length c1,.int .i64 s.clock,.slice (some ⟨be,oe,none⟩) s.log.length c3] 27 (0,0))/\W.heap[ge]? = some (.cells #[.int .i64 e.task,.int .i64 e.act,.int .i64 e.when_,.slice E3 e.reads.length f3,.slice E4 e.puts.length f4,.int .i64 e.from_] 119 (0,0))/\W.cell? ⟨b,o+u*13,none⟩=some (.int .i64 tb)/\W.cell? ⟨bb,ob+kb,none⟩=some (.slice Aa na ca)) (ds:= []) (by kernel_rfl) rfl ⟨blk_drew BP.out,blk_drew BS.out,blk_drew BE.out,(show w9.cell? ⟨b,o+u*13,none⟩=_ from cellB HB.out PW.out),(show w9.cell? ⟨bb,ob+kb,none⟩=_ from cellB HB.out P2.out)⟩ (fun hHeld=> ?_);have hb:=below_drew (Below.refl w9.heap.size w9);generalize w9.drew=w7 at hb hHeld ⊢;have HB7:=am (below_step HB.out hb);clear hb HB BP BS BE BPc BSc BEc;refine ba9 (fuel:=2) (n:=15) [0,1,2,3,4,5,6,7,8,9,10,11,12,13,14] (by kernel_rfl) (fun N _ _ _ _ h=>by cases N <;> exact h) hHeld ?_
         iterate 15 (
          refine stillS_step (v:= ?_) (a':= ?_) rfl (Or.inl ⟨by rfl, ?_⟩) ?_ ?_;rotate_left
          ·rintro W ⟨s0,s1,s2,s3,s4⟩
           have t0:=zc8 s0;have t1:=zc8 s1;have t2:=zc8 s2;clear s0 s1 s2;go_simp;with_reducible rfl
          rotate_left
          ·simp only [Act.put,sA,sZ,sS,i64_w]
           rfl)
         refine stillS_nil ?_;refine on9 (i:=15) (N:=some 75) rfl rfl (by kernel_rfl) (by decide) (fun K hK=> ?_);refine goes_ Try.func50 (by kernel_rfl) rfl #[.int .i64 e.act,.int .i64 0,.int .i64 (wrap64 ((na:Int) - 1))] (by rfl) rfl rfl (by (try simp only [List.map_toArray,List.map_cons,List.map_nil]);first | done | rfl) ?_;refine (l6In_calls e.act 0 (wrap64 ((na:Int) - 1)) _).mono ?_;rw [w5,H6.out];rintro e9 wn ⟨rfl,rfl⟩;refine ⟨_,rfl, ?_⟩;refine hK.out _ _ hHeld (fun hHeld=> ?_);clear hK K;refine norm_ (a':= ?_) ?_ ?_;rotate_left
         ·show Act.put _ (some 75) _=_
          simp only [Act.put,sA,sZ,sS,i64_w];rfl
         refine ba9 (fuel:=0) (n:=1) [16] (by kernel_rfl) (fun N _ _ _ _ h=>by cases N <;> exact h) hHeld ?_
         iterate 1 (
          refine stillS_step (v:= ?_) (a':= ?_) rfl (Or.inl ⟨by rfl, ?_⟩) ?_ ?_;rotate_left
          ·rintro W ⟨s0,s1,s2,s3,s4⟩
           have t0:=zc8 s0;have t1:=zc8 s1;have t2:=zc8 s2;clear s0 s1 s2;go_simp;with_reducible rfl
          rotate_left
          ·simp only [Act.put,sA,sZ,sS,i64_w]
           rfl)
         refine stillS_nil ?_;refine done_ (by kernel_rfl) ?_;have BP:=am hHeld.1;have BS:=am hHeld.2.1;have HB:=HB7;clear hHeld HB7;have BPc:=zc8 BP.out;have BSc:=zc8 BS.out;go_wp2;go_roundw
         case rel=>exact ⟨k+1,by omega,by go_num,⟨fun i hi=>by rcases Nat.lt_or_ge i k with h | h;exact HJ.out i h;obtain rfl:k=i:=(by omega);rw [<-EX.out];(try simp only []);rw [show inB e.task 0 ((s.tasks.length:Int) - 1)=true from H1.out,show inB e.when_ 0 s.clock=true from H2.out,show inB e.from_ 0 (k:Int)=true from H3.out,show listOk e.reads s.cells.length=true from H4.out,show listOk e.puts s.cells.length=true from H5.out,r4,<-HTB.out,v4,<-HNA.out,show inB e.act 0 ((na:Int) - 1)=true from H6.out];rfl⟩,BP,BS,HB⟩
         case measure=>simp [intOf];omega
  ·obtain rfl:k=s.log.length:=by omega
   go_wp2;go_ret
   have hr:logOk p s=true:=by
    unfold logOk;exact allB_iff.2 HJ.out
   rw [hr];exact ⟨rfl,HB.out⟩
theorem kid4_le (n k0 k1 k2 k3:Nat):decide (n<=k0+k1+k2+k3)=decide ((n:Int)<=(k0:Int)+(k1:Int)+(k2:Int)+(k3:Int)):=decide_eq_decide.2 (by omega)
theorem wsum2 {k0 k1:Nat} (h0:k0<=1048576) (h1:k1<=1048576):wrap64 ((k0:Int)+(k1:Int))=(k0:Int)+(k1:Int):=by unfold wrap64;omega
theorem wsum3 {k0 k1 k2:Nat} (h0:k0<=1048576) (h1:k1<=1048576) (h2:k2<=1048576):wrap64 ((k0:Int)+(k1:Int)+(k2:Int))=(k0:Int)+(k1:Int)+(k2:Int):=by unfold wrap64;omega
theorem wsum4 {k0 k1 k2 k3:Nat} (h0:k0<=1048576) (h1:k1<=1048576) (h2:k2<=1048576) (h3:k3<=1048576):wrap64 ((k0:Int)+(k1:Int)+(k2:Int)+(k3:Int))=(k0:Int)+(k1:Int)+(k2:Int)+(k3:Int):=by unfold wrap64;omega
theorem l12Act_calls (p:Prog) (ps:List Value) (s:Sys) (ss:List Value) (i:Nat) (w:World) (hp:kProg.K w p ps) (hs:kSys.K w s ss) (hz:ProgSz p) (hi:i < s.tasks.length) (hn:s.tasks.length<=1048576) (hb0:0<=(taskAt s.tasks i).body) (hb1:(taskAt s.tasks i).body < p.bodies.length) (hp0:0<=(taskAt s.tasks i).pc) (hrn:(taskAt s.tasks i).reads.length<=1048576) (hpn:(taskAt s.tasks i).puts.length<=1048576):
  Calls Try.prog 95 #[.agg ps.toArray,.agg ss.toArray,.int .i64 i] w fun e w'=>e= .returned (.bool (wayOk p s i))/\Below w.heap.size w w':=by
 have HPK:=am hp;have HSK:=am hs;obtain ⟨Ac,cc,Ab,cb,rfl,-,-,-,gb⟩:=kProg_open hp;obtain ⟨A0,c0,A1,c1,A3,c3,rfl,-,-,-,g1,-⟩:=kSys_open hs;obtain ⟨b,o,cs,rfl,hcl,hK,hcc,-⟩:=C_field g1 zTask i hi (by decide);obtain ⟨t,ht⟩:∃ x,x=taskAt s.tasks i:=⟨_,rfl⟩;rw [<-ht] at hb0 hb1 hp0 hrn hpn;rw [show s.tasks.getD i zTask=t from ht.symm] at hK;have HKT0:=am hK;obtain ⟨B3,d3,B8,d8,B9,d9,B10,d10,rfl,-⟩:=kTask_open hK;have HKT:=HKT0;have HC:=am hcc;obtain ⟨kb,hkb0⟩:=Int.eq_ofNat_of_zero_le hb0;have hkb:kb < p.bodies.length:=by omega
 have v4:t.body.toNat=kb:=by omega
 obtain ⟨bb,ob,cs2,rfl,hcl2,hK2,hcc2,-⟩:=C_field gb ([]:List Act) kb hkb (by decide);obtain ⟨Aa,ca,rfl,la,ga2⟩:=hK2;obtain ⟨acts,hacts⟩:∃ x,x=actsAt p.bodies kb:=⟨_,rfl⟩;have hal:acts.length<=1048576:=by rw [hacts,actsAt_eq hkb];exact (hz.acts _ (List.getElem_mem hkb)).1
 have p2:=hcc2 0 _ rfl;simp only [show (Kd.slice 108 kAct).sz=1 from rfl,Nat.mul_one,Nat.add_zero] at p2;rw [show p.bodies.getD kb []=acts from hacts.symm] at p2 ga2;have P2:=am p2;have GA:=am ga2;have HU:Aside0 (wayOk p s i=if t.way=0 then decide (t.stage=0) || (decide (t.pc < acts.length) && decide ((actAt acts t.pc.toNat).kind=1) && stOk t (actAt acts t.pc.toNat).deeds.length) else if t.way=1 then decide (t.pc < acts.length) && decide ((actAt acts t.pc.toNat).kind=2) && decide ((actAt acts t.pc.toNat).kids.length<=kidsN s.tasks i 0+kidsN s.tasks i 1+kidsN s.tasks i 2+kidsN s.tasks i 3) else if t.way=2 then decide (t.pc=acts.length) else true):=⟨by rw [hacts,<-v4,ht];rfl⟩;have q0:(0:Int)<=(i:Int):=by omega
 have q1:(i:Int) < (s.tasks.length:Int):=by omega
 clear hp hs gb g1 hcl hK hcc ht HKT0 hkb0 hcl2 hcc2 la ga2 hacts p2 hz;go_enter Try.func95,Try.ntmps95;by_cases w0x:t.way=0
 ·have yW0:(t.way == 0)=true:=by simp [w0x]
  have W0:=am w0x;clear w0x;by_cases s0x:t.stage=0
  ·have yS0:(t.stage == 0)=true:=by simp [s0x]
   have S0:=am s0x;clear s0x
   go_wp2_with (first
   |((with_reducible refine gate_dst (N:=3) rfl ?_);refine box_event rfl (N:=3) rfl (t:=48) (by go_simp<;>rfl) ?_;intro gp hg w3 hbox hb;have BP:=am hbox;clear hbox hg;have HB2:=am hb;clear hb;have HB:=HB2;clear HB2;have BPc:=zc8 BP.out)
   |((with_reducible refine gate_dst (N:=4) rfl ?_);refine box_event rfl (N:=4) rfl (t:=27) (by go_simp<;>rfl) ?_;intro gs hg w4 hbox hb;have BS:=am hbox;clear hbox hg;replace BP:=am (zb8 BP.out hb);replace HB:=am (below_step HB.out hb);clear hb BPc;have BPc:=zc8 BP.out;have BSc:=zc8 BS.out)
   |((with_reducible refine gate_dst (N:=15) rfl ?_);refine wpList_load_mid rfl 38 (.tmp 14) rfl b (o+i*13) rfl _ _ (fun j u hu=>cellB HB.out (HC.out j u hu)) Try.underlying38 rfl (by kernel_rfl) ?_)|((with_reducible refine gate_dst (N:=7) rfl ?_);refine box_event rfl (N:=7) rfl (t:=38) (by go_simp<;>rfl) ?_;intro gt hg wt hbox hb;have BT0:=am hbox;have GBT:=am hg;have HBT:=am hb;clear hbox hb hg)|((with_reducible refine gate_store (t:=38) (p:=7) rfl ?_);refine store_block rfl rfl 38 (.tmp 7) (.tmp 15) rfl rfl rfl BT0.out rfl (by kernel_rfl) (aB rfl) ?_;intro wn hbox hg;have BT:=am hbox;have hbx:=pw_below_grown HBT.out _ HBT.out.size hg (fun z hz=>by cases hz;exact Nat.le_of_eq GBT.out.symm);clear BT0 HBT hbox hg;replace BP:=am (zb8 BP.out hbx);replace BS:=am (zb8 BS.out hbx);replace HB:=am (below_step HB.out hbx);clear hbx BPc BSc;have BPc:=zc8 BP.out;have BSc:=zc8 BS.out;have BTc:=zc8 BT.out;have p2w:=cellB HB.out P2.out)
   |((with_reducible refine gate_dst (N:=22) rfl ?_);refine wpList_load_mid rfl 48 (.tmp 3) rfl gp 0 rfl _ _ (lC BP.out) Try.underlying48 rfl (by kernel_rfl) ?_)
   |((with_reducible refine gate_dst (N:=23) rfl ?_);refine wpList_load_mid rfl 27 (.tmp 4) rfl gs 0 rfl _ _ (lC BS.out) Try.underlying27 rfl (by kernel_rfl) ?_)
   |((with_reducible refine gate_dst (N:=25) rfl ?_);refine box_event rfl (N:=25) rfl (t:=152) (by go_simp<;>rfl) ?_;intro gg hg w25 hbox hb;have BG:=am hbox;clear hbox hg;replace BP:=am (zb8 BP.out hb);replace BS:=am (zb8 BS.out hb);replace BT:=am (zb8 BT.out hb);replace HB:=am (below_step HB.out hb);clear hb BPc BSc BTc;have BPc:=zc8 BP.out;have BSc:=zc8 BS.out;have BTc:=zc8 BT.out;have BGc:=zc8 BG.out))
   refine st9 (n:=31) (S:=fun W=>W.heap[gt]? = some (.cells #[.int .i64 t.body,.int .i64 t.pc,.int .i64 t.up,.slice B3 t.regs.length d3,.int .i64 t.way,.int .i64 t.stage,.int .i64 t.at_,.int .i64 t.since,.slice B8 t.old.length d8,.slice B9 t.reads.length d9,.slice B10 t.puts.length d10,.int .i64 t.when_,.int .i64 t.from_] 38 (0,0))) (ds:= []) (by kernel_rfl) rfl (by exact blk_drew BT.out) (fun hHeld=> ?_);have hb:=below_drew (Below.refl w25.heap.size w25);generalize w25.drew=w7 at hb hHeld ⊢;have HB7:=am (below_step HB.out hb);clear hb HB BP BS BT BG BPc BSc BTc BGc;refine ba9 (fuel:=4) (n:=27) [0,1,2,3,4,5,6,7,8,9,10,11,12,13,14,15,16,17,18,19,20,21,22,23,24,25,26] (by kernel_rfl) (fun N _ _ _ _ h=>by cases N <;> exact h) hHeld ?_
   iterate 4 (
    refine stillS_step (v:= ?_) (a':= ?_) rfl (Or.inl ⟨by rfl, ?_⟩) ?_ ?_;rotate_left
    ·rintro W s0
     have t0:=zc8 s0;clear s0;go_simp;with_reducible rfl
    rotate_left
    ·simp only [Act.put,sA,sZ,sS,i64_w]
     rfl)
   iterate 23 (
    refine stillS_step (v:=undef) (a':= ?_) rfl (Or.inr ⟨by rfl,rfl⟩) ?_ ?_;rotate_left
    ·simp only [Act.put,sA,sZ,sS]
     rfl)
   refine stillS_nil ?_;refine on9 (i:=27) (N:=some 57) rfl rfl (by kernel_rfl) (by decide) (fun K hK=> ?_);rw [if_neg (by exact Bool.false_ne_true)];refine hK.out _ _ hHeld (fun hHeld=> ?_);clear hK K;refine norm_ (a':= ?_) ?_ ?_;rotate_left
   ·show Act.put _ (some 57) _=_
    simp only [Act.put,sA,sZ,sS,i64_w];rfl
   refine ba9 (fuel:=0) (n:=3) [28,29,30] (by kernel_rfl) (fun N _ _ _ _ h=>by cases N <;> exact h) hHeld ?_
   iterate 1 (
    refine stillS_step (v:=undef) (a':= ?_) rfl (Or.inr ⟨by rfl,rfl⟩) ?_ ?_;rotate_left
    ·simp only [Act.put,sA,sZ,sS]
     rfl)
   iterate 2 (
    refine stillS_step (v:= ?_) (a':= ?_) rfl (Or.inl ⟨by rfl, ?_⟩) ?_ ?_;rotate_left
    ·rintro W s0
     have t0:=zc8 s0;clear s0;go_simp;with_reducible rfl
    rotate_left
    ·simp only [Act.put,sA,sZ,sS,i64_w]
     rfl)
   refine stillS_nil ?_;refine done_ (by kernel_rfl) ?_;have HB:=HB7;clear hHeld HB7;go_wp2;go_ret
   have hr:wayOk p s i=true:=by
    rw [HU.out,if_pos W0.out];rw [decide_eq_true S0.out,Bool.true_or]
   rw [hr];exact ⟨rfl,HB.out⟩
  ·have yS0:(t.stage == 0)=false:=by simp [s0x]
   have S0:=am s0x;clear s0x;by_cases pcx:t.pc < (acts.length:Int)
   ·have yPC:decide (t.pc < (acts.length:Int))=true:=decide_eq_true pcx
    have PC:=am pcx;clear pcx;obtain ⟨ka,hka0⟩:=Int.eq_ofNat_of_zero_le hp0;have hka:ka < acts.length:=by have:=PC.out;omega
    have v5:t.pc.toNat=ka:=by omega
    have v6:t.pc < (acts.length:Int):=PC.out;obtain ⟨ba,oa,cs3,rfl,hcl3,hK3,hcc3,-⟩:=C_field GA.out zAct ka hka (by decide);obtain ⟨a,hax⟩:∃ x,x=actAt acts ka:=⟨_,rfl⟩;rw [show acts.getD ka zAct=a from hax.symm] at hK3;obtain ⟨Ad,cd,Ak,ck,rfl,-⟩:=kAct_open hK3;have HA:=am hcc3;have AX:=am hax;have ua0:=hcc3 0 _ rfl;have ua2:=hcc3 2 _ rfl;simp only [show kAct.sz=4 from rfl,Nat.add_zero] at ua0 ua2;have UA0:=am ua0;have UA2:=am ua2;clear hcl3 hK3 hcc3 hax ua0 ua2 hka0;by_cases kdx:a.kind=1
    ·have yKD:(a.kind == 1)=true:=by simp [kdx]
     have KD:=am kdx;clear kdx;obtain ⟨bst,hst⟩:∃ x,x=stOk t (a.deeds.length:Int):=⟨_,rfl⟩;have ST:=am hst.symm;clear hst
     go_wp2_with (first
     |((with_reducible refine gate_dst (N:=3) rfl ?_);refine box_event rfl (N:=3) rfl (t:=48) (by go_simp<;>rfl) ?_;intro gp hg w3 hbox hb;have BP:=am hbox;clear hbox hg;have HB2:=am hb;clear hb;have HB:=HB2;clear HB2;have BPc:=zc8 BP.out)
     |((with_reducible refine gate_dst (N:=4) rfl ?_);refine box_event rfl (N:=4) rfl (t:=27) (by go_simp<;>rfl) ?_;intro gs hg w4 hbox hb;have BS:=am hbox;clear hbox hg;replace BP:=am (zb8 BP.out hb);replace HB:=am (below_step HB.out hb);clear hb BPc;have BPc:=zc8 BP.out;have BSc:=zc8 BS.out)
     |((with_reducible refine gate_dst (N:=15) rfl ?_);refine wpList_load_mid rfl 38 (.tmp 14) rfl b (o+i*13) rfl _ _ (fun j u hu=>cellB HB.out (HC.out j u hu)) Try.underlying38 rfl (by kernel_rfl) ?_)|((with_reducible refine gate_dst (N:=7) rfl ?_);refine box_event rfl (N:=7) rfl (t:=38) (by go_simp<;>rfl) ?_;intro gt hg wt hbox hb;have BT0:=am hbox;have GBT:=am hg;have HBT:=am hb;clear hbox hb hg)|((with_reducible refine gate_store (t:=38) (p:=7) rfl ?_);refine store_block rfl rfl 38 (.tmp 7) (.tmp 15) rfl rfl rfl BT0.out rfl (by kernel_rfl) (aB rfl) ?_;intro wn hbox hg;have BT:=am hbox;have hbx:=pw_below_grown HBT.out _ HBT.out.size hg (fun z hz=>by cases hz;exact Nat.le_of_eq GBT.out.symm);clear BT0 HBT hbox hg;replace BP:=am (zb8 BP.out hbx);replace BS:=am (zb8 BS.out hbx);replace HB:=am (below_step HB.out hbx);clear hbx BPc BSc;have BPc:=zc8 BP.out;have BSc:=zc8 BS.out;have BTc:=zc8 BT.out;have p2w:=cellB HB.out P2.out)
     |((with_reducible refine gate_dst (N:=22) rfl ?_);refine wpList_load_mid rfl 48 (.tmp 3) rfl gp 0 rfl _ _ (lC BP.out) Try.underlying48 rfl (by kernel_rfl) ?_)
     |((with_reducible refine gate_dst (N:=23) rfl ?_);refine wpList_load_mid rfl 27 (.tmp 4) rfl gs 0 rfl _ _ (lC BS.out) Try.underlying27 rfl (by kernel_rfl) ?_)
     |((with_reducible refine gate_dst (N:=25) rfl ?_);refine box_event rfl (N:=25) rfl (t:=152) (by go_simp<;>rfl) ?_;intro gg hg w25 hbox hb;have BG:=am hbox;clear hbox hg;replace BP:=am (zb8 BP.out hb);replace BS:=am (zb8 BS.out hb);replace BT:=am (zb8 BT.out hb);replace HB:=am (below_step HB.out hb);clear hb BPc BSc BTc;have BPc:=zc8 BP.out;have BSc:=zc8 BS.out;have BTc:=zc8 BT.out;have BGc:=zc8 BG.out))
     refine st9 (n:=31) (S:=fun W=>W.heap[gt]? = some (.cells #[.int .i64 t.body,.int .i64 t.pc,.int .i64 t.up,.slice B3 t.regs.length d3,.int .i64 t.way,.int .i64 t.stage,.int .i64 t.at_,.int .i64 t.since,.slice B8 t.old.length d8,.slice B9 t.reads.length d9,.slice B10 t.puts.length d10,.int .i64 t.when_,.int .i64 t.from_] 38 (0,0))/\∀ j u, [.int .i64 a.kind,.slice Ad a.deeds.length cd,.slice Ak a.kids.length ck,.int .i64 a.reg][j]? = some u->W.cell? ⟨ba,oa+ka*4+j,none⟩=some u) (ds:= []) (by kernel_rfl) rfl ⟨blk_drew BT.out,fun j u hu=>(show w25.cell? ⟨ba,oa+ka*4+j,none⟩=_ from cellB HB.out (HA.out j u hu))⟩ (fun hHeld=> ?_);have hb:=below_drew (Below.refl w25.heap.size w25);generalize w25.drew=w7 at hb hHeld ⊢;have HB7:=am (below_step HB.out hb);clear hb HB BP BS BT BG BPc BSc BTc BGc;refine ba9 (fuel:=4) (n:=27) [0,1,2,3,4,5,6,7,8,9,10,11,12,13,14,15,16,17,18,19,20,21,22,23,24,25,26] (by kernel_rfl) (fun N _ _ _ _ h=>by cases N <;> exact h) hHeld ?_
     iterate 27 (
      refine stillS_step (v:= ?_) (a':= ?_) rfl (Or.inl ⟨by rfl, ?_⟩) ?_ ?_;rotate_left
      ·rintro W ⟨s0,s1⟩
       have t0:=zc8 s0;have u0:=s1 0 _ rfl;have u1:=s1 1 _ rfl;rw [Nat.add_zero] at u0;clear s0 s1;go_simp;with_reducible rfl
      rotate_left
      ·simp only [Act.put,sA,sZ,sS,i64_w]
       rfl)
     refine stillS_nil ?_;refine on9 (i:=27) (N:=some 57) rfl rfl (by kernel_rfl) (by decide) (fun K hK=> ?_);refine goes_ Try.func124 (by kernel_rfl) rfl #[.agg #[.int .i64 t.body,.int .i64 t.pc,.int .i64 t.up,.slice B3 t.regs.length d3,.int .i64 t.way,.int .i64 t.stage,.int .i64 t.at_,.int .i64 t.since,.slice B8 t.old.length d8,.slice B9 t.reads.length d9,.slice B10 t.puts.length d10,.int .i64 t.when_,.int .i64 t.from_],.int .i64 a.deeds.length] (by rfl) rfl rfl (by (try simp only [List.map_toArray,List.map_cons,List.map_nil]);first | done | rfl) ?_;refine (l12At_calls t _ (a.deeds.length:Int) _ (kTask.K_below HB7.out HKT.out) hrn hpn).mono ?_;rw [ST.out];rintro e9 wn ⟨rfl,hb⟩;refine ⟨_,rfl, ?_⟩;refine hK.out _ _ ⟨zb8 hHeld.1 hb,fun j u hu=>cellB hb (hHeld.2 j u hu)⟩ (fun hHeld=> ?_);clear hK K;refine norm_ (a':= ?_) ?_ ?_;rotate_left
     ·show Act.put _ (some 57) _=_
      simp only [Act.put,sA,sZ,sS,i64_w];rfl
     refine ba9 (fuel:=0) (n:=3) [28,29,30] (by kernel_rfl) (fun N _ _ _ _ h=>by cases N <;> exact h) hHeld ?_
     iterate 3 (
      refine stillS_step (v:= ?_) (a':= ?_) rfl (Or.inl ⟨by rfl, ?_⟩) ?_ ?_;rotate_left
      ·rintro W ⟨s0,s1⟩
       have t0:=zc8 s0;have u0:=s1 0 _ rfl;have u1:=s1 1 _ rfl;rw [Nat.add_zero] at u0;clear s0 s1;go_simp;with_reducible rfl
      rotate_left
      ·simp only [Act.put,sA,sZ,sS,i64_w]
       rfl)
     refine stillS_nil ?_;refine done_ (by kernel_rfl) ?_;have HB9:=am (below_step HB7.out hb);clear hb hHeld HB7;have HB:=HB9;go_wp2;go_ret
     have hr:wayOk p s i=bst:=by
      rw [HU.out,if_pos W0.out];rw [decide_eq_false S0.out,decide_eq_true PC.out,v5,<-AX.out,decide_eq_true KD.out,ST.out,Bool.true_and,Bool.true_and,Bool.false_or]
     rw [hr];exact ⟨rfl,HB.out⟩
    ·have yKD:(a.kind == 1)=false:=by simp [kdx]
     have KD:=am kdx;clear kdx
     go_wp2_with (first
     |((with_reducible refine gate_dst (N:=3) rfl ?_);refine box_event rfl (N:=3) rfl (t:=48) (by go_simp<;>rfl) ?_;intro gp hg w3 hbox hb;have BP:=am hbox;clear hbox hg;have HB2:=am hb;clear hb;have HB:=HB2;clear HB2;have BPc:=zc8 BP.out)
     |((with_reducible refine gate_dst (N:=4) rfl ?_);refine box_event rfl (N:=4) rfl (t:=27) (by go_simp<;>rfl) ?_;intro gs hg w4 hbox hb;have BS:=am hbox;clear hbox hg;replace BP:=am (zb8 BP.out hb);replace HB:=am (below_step HB.out hb);clear hb BPc;have BPc:=zc8 BP.out;have BSc:=zc8 BS.out)
     |((with_reducible refine gate_dst (N:=15) rfl ?_);refine wpList_load_mid rfl 38 (.tmp 14) rfl b (o+i*13) rfl _ _ (fun j u hu=>cellB HB.out (HC.out j u hu)) Try.underlying38 rfl (by kernel_rfl) ?_)|((with_reducible refine gate_dst (N:=7) rfl ?_);refine box_event rfl (N:=7) rfl (t:=38) (by go_simp<;>rfl) ?_;intro gt hg wt hbox hb;have BT0:=am hbox;have GBT:=am hg;have HBT:=am hb;clear hbox hb hg)|((with_reducible refine gate_store (t:=38) (p:=7) rfl ?_);refine store_block rfl rfl 38 (.tmp 7) (.tmp 15) rfl rfl rfl BT0.out rfl (by kernel_rfl) (aB rfl) ?_;intro wn hbox hg;have BT:=am hbox;have hbx:=pw_below_grown HBT.out _ HBT.out.size hg (fun z hz=>by cases hz;exact Nat.le_of_eq GBT.out.symm);clear BT0 HBT hbox hg;replace BP:=am (zb8 BP.out hbx);replace BS:=am (zb8 BS.out hbx);replace HB:=am (below_step HB.out hbx);clear hbx BPc BSc;have BPc:=zc8 BP.out;have BSc:=zc8 BS.out;have BTc:=zc8 BT.out;have p2w:=cellB HB.out P2.out)
     |((with_reducible refine gate_dst (N:=22) rfl ?_);refine wpList_load_mid rfl 48 (.tmp 3) rfl gp 0 rfl _ _ (lC BP.out) Try.underlying48 rfl (by kernel_rfl) ?_)
     |((with_reducible refine gate_dst (N:=23) rfl ?_);refine wpList_load_mid rfl 27 (.tmp 4) rfl gs 0 rfl _ _ (lC BS.out) Try.underlying27 rfl (by kernel_rfl) ?_)
     |((with_reducible refine gate_dst (N:=25) rfl ?_);refine box_event rfl (N:=25) rfl (t:=152) (by go_simp<;>rfl) ?_;intro gg hg w25 hbox hb;have BG:=am hbox;clear hbox hg;replace BP:=am (zb8 BP.out hb);replace BS:=am (zb8 BS.out hb);replace BT:=am (zb8 BT.out hb);replace HB:=am (below_step HB.out hb);clear hb BPc BSc BTc;have BPc:=zc8 BP.out;have BSc:=zc8 BS.out;have BTc:=zc8 BT.out;have BGc:=zc8 BG.out))
     refine st9 (n:=31) (S:=fun W=>W.heap[gt]? = some (.cells #[.int .i64 t.body,.int .i64 t.pc,.int .i64 t.up,.slice B3 t.regs.length d3,.int .i64 t.way,.int .i64 t.stage,.int .i64 t.at_,.int .i64 t.since,.slice B8 t.old.length d8,.slice B9 t.reads.length d9,.slice B10 t.puts.length d10,.int .i64 t.when_,.int .i64 t.from_] 38 (0,0))/\∀ j u, [.int .i64 a.kind,.slice Ad a.deeds.length cd,.slice Ak a.kids.length ck,.int .i64 a.reg][j]? = some u->W.cell? ⟨ba,oa+ka*4+j,none⟩=some u) (ds:= []) (by kernel_rfl) rfl ⟨blk_drew BT.out,fun j u hu=>(show w25.cell? ⟨ba,oa+ka*4+j,none⟩=_ from cellB HB.out (HA.out j u hu))⟩ (fun hHeld=> ?_);have hb:=below_drew (Below.refl w25.heap.size w25);generalize w25.drew=w7 at hb hHeld ⊢;have HB7:=am (below_step HB.out hb);clear hb HB BP BS BT BG BPc BSc BTc BGc;refine ba9 (fuel:=4) (n:=27) [0,1,2,3,4,5,6,7,8,9,10,11,12,13,14,15,16,17,18,19,20,21,22,23,24,25,26] (by kernel_rfl) (fun N _ _ _ _ h=>by cases N <;> exact h) hHeld ?_
     iterate 19 (
      refine stillS_step (v:= ?_) (a':= ?_) rfl (Or.inl ⟨by rfl, ?_⟩) ?_ ?_;rotate_left
      ·rintro W ⟨s0,s1⟩
       have t0:=zc8 s0;have u0:=s1 0 _ rfl;have u1:=s1 1 _ rfl;rw [Nat.add_zero] at u0;clear s0 s1;go_simp;with_reducible rfl
      rotate_left
      ·simp only [Act.put,sA,sZ,sS,i64_w]
       rfl)
     iterate 8 (
      refine stillS_step (v:=undef) (a':= ?_) rfl (Or.inr ⟨by rfl,rfl⟩) ?_ ?_;rotate_left
      ·simp only [Act.put,sA,sZ,sS]
       rfl)
     refine stillS_nil ?_;refine on9 (i:=27) (N:=some 57) rfl rfl (by kernel_rfl) (by decide) (fun K hK=> ?_);rw [if_neg (by exact Bool.false_ne_true)];refine hK.out _ _ hHeld (fun hHeld=> ?_);clear hK K;refine norm_ (a':= ?_) ?_ ?_;rotate_left
     ·show Act.put _ (some 57) _=_
      simp only [Act.put,sA,sZ,sS,i64_w];rfl
     refine ba9 (fuel:=0) (n:=3) [28,29,30] (by kernel_rfl) (fun N _ _ _ _ h=>by cases N <;> exact h) hHeld ?_
     iterate 3 (
      refine stillS_step (v:= ?_) (a':= ?_) rfl (Or.inl ⟨by rfl, ?_⟩) ?_ ?_;rotate_left
      ·rintro W ⟨s0,s1⟩
       have t0:=zc8 s0;have u0:=s1 0 _ rfl;have u1:=s1 1 _ rfl;rw [Nat.add_zero] at u0;clear s0 s1;go_simp;with_reducible rfl
      rotate_left
      ·simp only [Act.put,sA,sZ,sS,i64_w]
       rfl)
     refine stillS_nil ?_;refine done_ (by kernel_rfl) ?_;have HB:=HB7;clear hHeld HB7;go_wp2;go_ret
     have hr:wayOk p s i=false:=by
      rw [HU.out,if_pos W0.out];rw [decide_eq_false S0.out,decide_eq_true PC.out,v5,<-AX.out,decide_eq_false KD.out,Bool.and_false,Bool.false_and,Bool.false_or]
     rw [hr];exact ⟨rfl,HB.out⟩
   ·have yPC:decide (t.pc < (acts.length:Int))=false:=decide_eq_false pcx
    have PC:=am pcx;clear pcx
    go_wp2_with (first
    |((with_reducible refine gate_dst (N:=3) rfl ?_);refine box_event rfl (N:=3) rfl (t:=48) (by go_simp<;>rfl) ?_;intro gp hg w3 hbox hb;have BP:=am hbox;clear hbox hg;have HB2:=am hb;clear hb;have HB:=HB2;clear HB2;have BPc:=zc8 BP.out)
    |((with_reducible refine gate_dst (N:=4) rfl ?_);refine box_event rfl (N:=4) rfl (t:=27) (by go_simp<;>rfl) ?_;intro gs hg w4 hbox hb;have BS:=am hbox;clear hbox hg;replace BP:=am (zb8 BP.out hb);replace HB:=am (below_step HB.out hb);clear hb BPc;have BPc:=zc8 BP.out;have BSc:=zc8 BS.out)
    |((with_reducible refine gate_dst (N:=15) rfl ?_);refine wpList_load_mid rfl 38 (.tmp 14) rfl b (o+i*13) rfl _ _ (fun j u hu=>cellB HB.out (HC.out j u hu)) Try.underlying38 rfl (by kernel_rfl) ?_)|((with_reducible refine gate_dst (N:=7) rfl ?_);refine box_event rfl (N:=7) rfl (t:=38) (by go_simp<;>rfl) ?_;intro gt hg wt hbox hb;have BT0:=am hbox;have GBT:=am hg;have HBT:=am hb;clear hbox hb hg)|((with_reducible refine gate_store (t:=38) (p:=7) rfl ?_);refine store_block rfl rfl 38 (.tmp 7) (.tmp 15) rfl rfl rfl BT0.out rfl (by kernel_rfl) (aB rfl) ?_;intro wn hbox hg;have BT:=am hbox;have hbx:=pw_below_grown HBT.out _ HBT.out.size hg (fun z hz=>by cases hz;exact Nat.le_of_eq GBT.out.symm);clear BT0 HBT hbox hg;replace BP:=am (zb8 BP.out hbx);replace BS:=am (zb8 BS.out hbx);replace HB:=am (below_step HB.out hbx);clear hbx BPc BSc;have BPc:=zc8 BP.out;have BSc:=zc8 BS.out;have BTc:=zc8 BT.out;have p2w:=cellB HB.out P2.out)
    |((with_reducible refine gate_dst (N:=22) rfl ?_);refine wpList_load_mid rfl 48 (.tmp 3) rfl gp 0 rfl _ _ (lC BP.out) Try.underlying48 rfl (by kernel_rfl) ?_)
    |((with_reducible refine gate_dst (N:=23) rfl ?_);refine wpList_load_mid rfl 27 (.tmp 4) rfl gs 0 rfl _ _ (lC BS.out) Try.underlying27 rfl (by kernel_rfl) ?_)
    |((with_reducible refine gate_dst (N:=25) rfl ?_);refine box_event rfl (N:=25) rfl (t:=152) (by go_simp<;>rfl) ?_;intro gg hg w25 hbox hb;have BG:=am hbox;clear hbox hg;replace BP:=am (zb8 BP.out hb);replace BS:=am (zb8 BS.out hb);replace BT:=am (zb8 BT.out hb);replace HB:=am (below_step HB.out hb);clear hb BPc BSc BTc;have BPc:=zc8 BP.out;have BSc:=zc8 BS.out;have BTc:=zc8 BT.out;have BGc:=zc8 BG.out))
    refine st9 (n:=31) (S:=fun W=>W.heap[gt]? = some (.cells #[.int .i64 t.body,.int .i64 t.pc,.int .i64 t.up,.slice B3 t.regs.length d3,.int .i64 t.way,.int .i64 t.stage,.int .i64 t.at_,.int .i64 t.since,.slice B8 t.old.length d8,.slice B9 t.reads.length d9,.slice B10 t.puts.length d10,.int .i64 t.when_,.int .i64 t.from_] 38 (0,0))) (ds:= []) (by kernel_rfl) rfl (by exact blk_drew BT.out) (fun hHeld=> ?_);have hb:=below_drew (Below.refl w25.heap.size w25);generalize w25.drew=w7 at hb hHeld ⊢;have HB7:=am (below_step HB.out hb);clear hb HB BP BS BT BG BPc BSc BTc BGc;refine ba9 (fuel:=4) (n:=27) [0,1,2,3,4,5,6,7,8,9,10,11,12,13,14,15,16,17,18,19,20,21,22,23,24,25,26] (by kernel_rfl) (fun N _ _ _ _ h=>by cases N <;> exact h) hHeld ?_
    iterate 10 (
     refine stillS_step (v:= ?_) (a':= ?_) rfl (Or.inl ⟨by rfl, ?_⟩) ?_ ?_;rotate_left
     ·rintro W s0
      have t0:=zc8 s0;clear s0;go_simp;with_reducible rfl
     rotate_left
     ·simp only [Act.put,sA,sZ,sS,i64_w]
      rfl)
    iterate 7 (
     refine stillS_step (v:=undef) (a':= ?_) rfl (Or.inr ⟨by rfl,rfl⟩) ?_ ?_;rotate_left
     ·simp only [Act.put,sA,sZ,sS]
      rfl)
    iterate 2 (
     refine stillS_step (v:= ?_) (a':= ?_) rfl (Or.inl ⟨by rfl, ?_⟩) ?_ ?_;rotate_left
     ·rintro W s0
      have t0:=zc8 s0;clear s0;go_simp;with_reducible rfl
     rotate_left
     ·simp only [Act.put,sA,sZ,sS,i64_w]
      rfl)
    iterate 8 (
     refine stillS_step (v:=undef) (a':= ?_) rfl (Or.inr ⟨by rfl,rfl⟩) ?_ ?_;rotate_left
     ·simp only [Act.put,sA,sZ,sS]
      rfl)
    refine stillS_nil ?_;refine on9 (i:=27) (N:=some 57) rfl rfl (by kernel_rfl) (by decide) (fun K hK=> ?_);rw [if_neg (by exact Bool.false_ne_true)];refine hK.out _ _ hHeld (fun hHeld=> ?_);clear hK K;refine norm_ (a':= ?_) ?_ ?_;rotate_left
    ·show Act.put _ (some 57) _=_
     simp only [Act.put,sA,sZ,sS,i64_w];rfl
    refine ba9 (fuel:=0) (n:=3) [28,29,30] (by kernel_rfl) (fun N _ _ _ _ h=>by cases N <;> exact h) hHeld ?_
    iterate 3 (
     refine stillS_step (v:= ?_) (a':= ?_) rfl (Or.inl ⟨by rfl, ?_⟩) ?_ ?_;rotate_left
     ·rintro W s0
      have t0:=zc8 s0;clear s0;go_simp;with_reducible rfl
     rotate_left
     ·simp only [Act.put,sA,sZ,sS,i64_w]
      rfl)
    refine stillS_nil ?_;refine done_ (by kernel_rfl) ?_;have HB:=HB7;clear hHeld HB7;go_wp2;go_ret
    have hr:wayOk p s i=false:=by
     rw [HU.out,if_pos W0.out];rw [decide_eq_false S0.out,decide_eq_false (show ¬ t.pc < (acts.length:Int) by have:=PC.out;omega),Bool.false_and,Bool.false_and,Bool.false_or]
    rw [hr];exact ⟨rfl,HB.out⟩
 ·have yW0:(t.way == 0)=false:=by simp [w0x]
  have W0:=am w0x;clear w0x;by_cases w1x:t.way=1
  ·have yW1:(t.way == 1)=true:=by simp [w1x]
   have W1:=am w1x;clear w1x;obtain ⟨k0,hk0⟩:∃ x,x=kidsN s.tasks i 0:=⟨_,rfl⟩;have kl0:k0<=1048576:=by rw [hk0];exact Nat.le_trans (cntTo_le _ _) hn
   have K0:=am hk0.symm;clear hk0;obtain ⟨k1,hk1⟩:∃ x,x=kidsN s.tasks i 1:=⟨_,rfl⟩;have kl1:k1<=1048576:=by rw [hk1];exact Nat.le_trans (cntTo_le _ _) hn
   have K1:=am hk1.symm;clear hk1;obtain ⟨k2,hk2⟩:∃ x,x=kidsN s.tasks i 2:=⟨_,rfl⟩;have kl2:k2<=1048576:=by rw [hk2];exact Nat.le_trans (cntTo_le _ _) hn
   have K2:=am hk2.symm;clear hk2;obtain ⟨k3,hk3⟩:∃ x,x=kidsN s.tasks i 3:=⟨_,rfl⟩;have kl3:k3<=1048576:=by rw [hk3];exact Nat.le_trans (cntTo_le _ _) hn
   have K3:=am hk3.symm;clear hk3;have z1:=wsum2 kl0 kl1;have z2:=wsum3 kl0 kl1 kl2;have z3:=wsum4 kl0 kl1 kl2 kl3;clear kl0 kl1 kl2 kl3;by_cases pcx:t.pc < (acts.length:Int)
   ·have yPC:decide (t.pc < (acts.length:Int))=true:=decide_eq_true pcx
    have PC:=am pcx;clear pcx;obtain ⟨ka,hka0⟩:=Int.eq_ofNat_of_zero_le hp0;have hka:ka < acts.length:=by have:=PC.out;omega
    have v5:t.pc.toNat=ka:=by omega
    have v6:t.pc < (acts.length:Int):=PC.out;obtain ⟨ba,oa,cs3,rfl,hcl3,hK3,hcc3,-⟩:=C_field GA.out zAct ka hka (by decide);obtain ⟨a,hax⟩:∃ x,x=actAt acts ka:=⟨_,rfl⟩;rw [show acts.getD ka zAct=a from hax.symm] at hK3;obtain ⟨Ad,cd,Ak,ck,rfl,-⟩:=kAct_open hK3;have HA:=am hcc3;have AX:=am hax;have ua0:=hcc3 0 _ rfl;have ua2:=hcc3 2 _ rfl;simp only [show kAct.sz=4 from rfl,Nat.add_zero] at ua0 ua2;have UA0:=am ua0;have UA2:=am ua2;clear hcl3 hK3 hcc3 hax ua0 ua2 hka0;by_cases kdx:a.kind=2
    ·have yKD:(a.kind == 2)=true:=by simp [kdx]
     have KD:=am kdx;clear kdx
     go_wp2_with (first
     |((with_reducible refine gate_dst (N:=3) rfl ?_);refine box_event rfl (N:=3) rfl (t:=48) (by go_simp<;>rfl) ?_;intro gp hg w3 hbox hb;have BP:=am hbox;clear hbox hg;have HB2:=am hb;clear hb;have HB:=HB2;clear HB2;have BPc:=zc8 BP.out)
     |((with_reducible refine gate_dst (N:=4) rfl ?_);refine box_event rfl (N:=4) rfl (t:=27) (by go_simp<;>rfl) ?_;intro gs hg w4 hbox hb;have BS:=am hbox;clear hbox hg;replace BP:=am (zb8 BP.out hb);replace HB:=am (below_step HB.out hb);clear hb BPc;have BPc:=zc8 BP.out;have BSc:=zc8 BS.out)
     |((with_reducible refine gate_dst (N:=15) rfl ?_);refine wpList_load_mid rfl 38 (.tmp 14) rfl b (o+i*13) rfl _ _ (fun j u hu=>cellB HB.out (HC.out j u hu)) Try.underlying38 rfl (by kernel_rfl) ?_)|((with_reducible refine gate_dst (N:=7) rfl ?_);refine box_event rfl (N:=7) rfl (t:=38) (by go_simp<;>rfl) ?_;intro gt hg wt hbox hb;have BT0:=am hbox;have GBT:=am hg;have HBT:=am hb;clear hbox hb hg)|((with_reducible refine gate_store (t:=38) (p:=7) rfl ?_);refine store_block rfl rfl 38 (.tmp 7) (.tmp 15) rfl rfl rfl BT0.out rfl (by kernel_rfl) (aB rfl) ?_;intro wn hbox hg;have BT:=am hbox;have hbx:=pw_below_grown HBT.out _ HBT.out.size hg (fun z hz=>by cases hz;exact Nat.le_of_eq GBT.out.symm);clear BT0 HBT hbox hg;replace BP:=am (zb8 BP.out hbx);replace BS:=am (zb8 BS.out hbx);replace HB:=am (below_step HB.out hbx);clear hbx BPc BSc;have BPc:=zc8 BP.out;have BSc:=zc8 BS.out;have BTc:=zc8 BT.out;have p2w:=cellB HB.out P2.out)
     |((with_reducible refine gate_dst (N:=22) rfl ?_);refine wpList_load_mid rfl 48 (.tmp 3) rfl gp 0 rfl _ _ (lC BP.out) Try.underlying48 rfl (by kernel_rfl) ?_)
     |((with_reducible refine gate_dst (N:=23) rfl ?_);refine wpList_load_mid rfl 27 (.tmp 4) rfl gs 0 rfl _ _ (lC BS.out) Try.underlying27 rfl (by kernel_rfl) ?_)
     |((with_reducible refine gate_dst (N:=25) rfl ?_);refine box_event rfl (N:=25) rfl (t:=152) (by go_simp<;>rfl) ?_;intro gg hg w25 hbox hb;have BG:=am hbox;clear hbox hg;replace BP:=am (zb8 BP.out hb);replace BS:=am (zb8 BS.out hb);replace BT:=am (zb8 BT.out hb);replace HB:=am (below_step HB.out hb);clear hb BPc BSc BTc;have BPc:=zc8 BP.out;have BSc:=zc8 BS.out;have BTc:=zc8 BT.out;have BGc:=zc8 BG.out;have ua0w:=cellB HB.out UA0.out;have ua2w:=cellB HB.out UA2.out)
     |(go_at_call 125;refine (kids_calls (i:Int) _ _ (⟨BG.out,kProg.K_below HB.out HPK.out,kSys.K_below HB.out HSK.out⟩:RO gg _ _ p s _ _ _ _) hn).mono ?_;(first|rw [K0.out] | rw [K1.out] | rw [K2.out] | rw [K3.out]);rintro e w9 ⟨rfl,rfl⟩))
     go_ret
     have hr:wayOk p s i=decide ((a.kids.length:Int)<=(k0:Int)+(k1:Int)+(k2:Int)+(k3:Int)):=by
      rw [HU.out,if_neg W0.out,if_pos W1.out];rw [decide_eq_true PC.out,v5,<-AX.out,decide_eq_true KD.out,K0.out,K1.out,K2.out,K3.out,Bool.true_and,Bool.true_and];exact kid4_le a.kids.length k0 k1 k2 k3
     rw [hr];exact ⟨rfl,HB.out⟩
    ·have yKD:(a.kind == 2)=false:=by simp [kdx]
     have KD:=am kdx;clear kdx
     go_wp2_with (first
     |((with_reducible refine gate_dst (N:=3) rfl ?_);refine box_event rfl (N:=3) rfl (t:=48) (by go_simp<;>rfl) ?_;intro gp hg w3 hbox hb;have BP:=am hbox;clear hbox hg;have HB2:=am hb;clear hb;have HB:=HB2;clear HB2;have BPc:=zc8 BP.out)
     |((with_reducible refine gate_dst (N:=4) rfl ?_);refine box_event rfl (N:=4) rfl (t:=27) (by go_simp<;>rfl) ?_;intro gs hg w4 hbox hb;have BS:=am hbox;clear hbox hg;replace BP:=am (zb8 BP.out hb);replace HB:=am (below_step HB.out hb);clear hb BPc;have BPc:=zc8 BP.out;have BSc:=zc8 BS.out)
     |((with_reducible refine gate_dst (N:=15) rfl ?_);refine wpList_load_mid rfl 38 (.tmp 14) rfl b (o+i*13) rfl _ _ (fun j u hu=>cellB HB.out (HC.out j u hu)) Try.underlying38 rfl (by kernel_rfl) ?_)|((with_reducible refine gate_dst (N:=7) rfl ?_);refine box_event rfl (N:=7) rfl (t:=38) (by go_simp<;>rfl) ?_;intro gt hg wt hbox hb;have BT0:=am hbox;have GBT:=am hg;have HBT:=am hb;clear hbox hb hg)|((with_reducible refine gate_store (t:=38) (p:=7) rfl ?_);refine store_block rfl rfl 38 (.tmp 7) (.tmp 15) rfl rfl rfl BT0.out rfl (by kernel_rfl) (aB rfl) ?_;intro wn hbox hg;have BT:=am hbox;have hbx:=pw_below_grown HBT.out _ HBT.out.size hg (fun z hz=>by cases hz;exact Nat.le_of_eq GBT.out.symm);clear BT0 HBT hbox hg;replace BP:=am (zb8 BP.out hbx);replace BS:=am (zb8 BS.out hbx);replace HB:=am (below_step HB.out hbx);clear hbx BPc BSc;have BPc:=zc8 BP.out;have BSc:=zc8 BS.out;have BTc:=zc8 BT.out;have p2w:=cellB HB.out P2.out)
     |((with_reducible refine gate_dst (N:=22) rfl ?_);refine wpList_load_mid rfl 48 (.tmp 3) rfl gp 0 rfl _ _ (lC BP.out) Try.underlying48 rfl (by kernel_rfl) ?_)
     |((with_reducible refine gate_dst (N:=23) rfl ?_);refine wpList_load_mid rfl 27 (.tmp 4) rfl gs 0 rfl _ _ (lC BS.out) Try.underlying27 rfl (by kernel_rfl) ?_)
     |((with_reducible refine gate_dst (N:=25) rfl ?_);refine box_event rfl (N:=25) rfl (t:=152) (by go_simp<;>rfl) ?_;intro gg hg w25 hbox hb;have BG:=am hbox;clear hbox hg;replace BP:=am (zb8 BP.out hb);replace BS:=am (zb8 BS.out hb);replace BT:=am (zb8 BT.out hb);replace HB:=am (below_step HB.out hb);clear hb BPc BSc BTc;have BPc:=zc8 BP.out;have BSc:=zc8 BS.out;have BTc:=zc8 BT.out;have BGc:=zc8 BG.out;have ua0w:=cellB HB.out UA0.out;have ua2w:=cellB HB.out UA2.out)
     |(go_at_call 125;refine (kids_calls (i:Int) _ _ (⟨BG.out,kProg.K_below HB.out HPK.out,kSys.K_below HB.out HSK.out⟩:RO gg _ _ p s _ _ _ _) hn).mono ?_;(first|rw [K0.out] | rw [K1.out] | rw [K2.out] | rw [K3.out]);rintro e w9 ⟨rfl,rfl⟩))
     go_ret
     have hr:wayOk p s i=false:=by
      rw [HU.out,if_neg W0.out,if_pos W1.out];rw [decide_eq_true PC.out,v5,<-AX.out,decide_eq_false KD.out,Bool.and_false,Bool.false_and]
     rw [hr];exact ⟨rfl,HB.out⟩
   ·have yPC:decide (t.pc < (acts.length:Int))=false:=decide_eq_false pcx
    have PC:=am pcx;clear pcx
    go_wp2_with (first
    |((with_reducible refine gate_dst (N:=3) rfl ?_);refine box_event rfl (N:=3) rfl (t:=48) (by go_simp<;>rfl) ?_;intro gp hg w3 hbox hb;have BP:=am hbox;clear hbox hg;have HB2:=am hb;clear hb;have HB:=HB2;clear HB2;have BPc:=zc8 BP.out)
    |((with_reducible refine gate_dst (N:=4) rfl ?_);refine box_event rfl (N:=4) rfl (t:=27) (by go_simp<;>rfl) ?_;intro gs hg w4 hbox hb;have BS:=am hbox;clear hbox hg;replace BP:=am (zb8 BP.out hb);replace HB:=am (below_step HB.out hb);clear hb BPc;have BPc:=zc8 BP.out;have BSc:=zc8 BS.out)
    |((with_reducible refine gate_dst (N:=15) rfl ?_);refine wpList_load_mid rfl 38 (.tmp 14) rfl b (o+i*13) rfl _ _ (fun j u hu=>cellB HB.out (HC.out j u hu)) Try.underlying38 rfl (by kernel_rfl) ?_)|((with_reducible refine gate_dst (N:=7) rfl ?_);refine box_event rfl (N:=7) rfl (t:=38) (by go_simp<;>rfl) ?_;intro gt hg wt hbox hb;have BT0:=am hbox;have GBT:=am hg;have HBT:=am hb;clear hbox hb hg)|((with_reducible refine gate_store (t:=38) (p:=7) rfl ?_);refine store_block rfl rfl 38 (.tmp 7) (.tmp 15) rfl rfl rfl BT0.out rfl (by kernel_rfl) (aB rfl) ?_;intro wn hbox hg;have BT:=am hbox;have hbx:=pw_below_grown HBT.out _ HBT.out.size hg (fun z hz=>by cases hz;exact Nat.le_of_eq GBT.out.symm);clear BT0 HBT hbox hg;replace BP:=am (zb8 BP.out hbx);replace BS:=am (zb8 BS.out hbx);replace HB:=am (below_step HB.out hbx);clear hbx BPc BSc;have BPc:=zc8 BP.out;have BSc:=zc8 BS.out;have BTc:=zc8 BT.out;have p2w:=cellB HB.out P2.out)
    |((with_reducible refine gate_dst (N:=22) rfl ?_);refine wpList_load_mid rfl 48 (.tmp 3) rfl gp 0 rfl _ _ (lC BP.out) Try.underlying48 rfl (by kernel_rfl) ?_)
    |((with_reducible refine gate_dst (N:=23) rfl ?_);refine wpList_load_mid rfl 27 (.tmp 4) rfl gs 0 rfl _ _ (lC BS.out) Try.underlying27 rfl (by kernel_rfl) ?_)
    |((with_reducible refine gate_dst (N:=25) rfl ?_);refine box_event rfl (N:=25) rfl (t:=152) (by go_simp<;>rfl) ?_;intro gg hg w25 hbox hb;have BG:=am hbox;clear hbox hg;replace BP:=am (zb8 BP.out hb);replace BS:=am (zb8 BS.out hb);replace BT:=am (zb8 BT.out hb);replace HB:=am (below_step HB.out hb);clear hb BPc BSc BTc;have BPc:=zc8 BP.out;have BSc:=zc8 BS.out;have BTc:=zc8 BT.out;have BGc:=zc8 BG.out)
    |(go_at_call 125;refine (kids_calls (i:Int) _ _ (⟨BG.out,kProg.K_below HB.out HPK.out,kSys.K_below HB.out HSK.out⟩:RO gg _ _ p s _ _ _ _) hn).mono ?_;(first|rw [K0.out] | rw [K1.out] | rw [K2.out] | rw [K3.out]);rintro e w9 ⟨rfl,rfl⟩))
    go_ret
    have hr:wayOk p s i=false:=by
     rw [HU.out,if_neg W0.out,if_pos W1.out];rw [decide_eq_false (show ¬ t.pc < (acts.length:Int) by have:=PC.out;omega),Bool.false_and,Bool.false_and]
    rw [hr];exact ⟨rfl,HB.out⟩
  ·have yW1:(t.way == 1)=false:=by simp [w1x]
   have W1:=am w1x;clear w1x;by_cases w2x:t.way=2
   ·have yW2:(t.way == 2)=true:=by simp [w2x]
    have W2:=am w2x;clear w2x
    go_wp2_with (first
    |((with_reducible refine gate_dst (N:=3) rfl ?_);refine box_event rfl (N:=3) rfl (t:=48) (by go_simp<;>rfl) ?_;intro gp hg w3 hbox hb;have BP:=am hbox;clear hbox hg;have HB2:=am hb;clear hb;have HB:=HB2;clear HB2;have BPc:=zc8 BP.out)
    |((with_reducible refine gate_dst (N:=4) rfl ?_);refine box_event rfl (N:=4) rfl (t:=27) (by go_simp<;>rfl) ?_;intro gs hg w4 hbox hb;have BS:=am hbox;clear hbox hg;replace BP:=am (zb8 BP.out hb);replace HB:=am (below_step HB.out hb);clear hb BPc;have BPc:=zc8 BP.out;have BSc:=zc8 BS.out)
    |((with_reducible refine gate_dst (N:=15) rfl ?_);refine wpList_load_mid rfl 38 (.tmp 14) rfl b (o+i*13) rfl _ _ (fun j u hu=>cellB HB.out (HC.out j u hu)) Try.underlying38 rfl (by kernel_rfl) ?_)|((with_reducible refine gate_dst (N:=7) rfl ?_);refine box_event rfl (N:=7) rfl (t:=38) (by go_simp<;>rfl) ?_;intro gt hg wt hbox hb;have BT0:=am hbox;have GBT:=am hg;have HBT:=am hb;clear hbox hb hg)|((with_reducible refine gate_store (t:=38) (p:=7) rfl ?_);refine store_block rfl rfl 38 (.tmp 7) (.tmp 15) rfl rfl rfl BT0.out rfl (by kernel_rfl) (aB rfl) ?_;intro wn hbox hg;have BT:=am hbox;have hbx:=pw_below_grown HBT.out _ HBT.out.size hg (fun z hz=>by cases hz;exact Nat.le_of_eq GBT.out.symm);clear BT0 HBT hbox hg;replace BP:=am (zb8 BP.out hbx);replace BS:=am (zb8 BS.out hbx);replace HB:=am (below_step HB.out hbx);clear hbx BPc BSc;have BPc:=zc8 BP.out;have BSc:=zc8 BS.out;have BTc:=zc8 BT.out;have p2w:=cellB HB.out P2.out)
    |((with_reducible refine gate_dst (N:=22) rfl ?_);refine wpList_load_mid rfl 48 (.tmp 3) rfl gp 0 rfl _ _ (lC BP.out) Try.underlying48 rfl (by kernel_rfl) ?_)
    |((with_reducible refine gate_dst (N:=23) rfl ?_);refine wpList_load_mid rfl 27 (.tmp 4) rfl gs 0 rfl _ _ (lC BS.out) Try.underlying27 rfl (by kernel_rfl) ?_)
    |((with_reducible refine gate_dst (N:=25) rfl ?_);refine box_event rfl (N:=25) rfl (t:=152) (by go_simp<;>rfl) ?_;intro gg hg w25 hbox hb;have BG:=am hbox;clear hbox hg;replace BP:=am (zb8 BP.out hb);replace BS:=am (zb8 BS.out hb);replace BT:=am (zb8 BT.out hb);replace HB:=am (below_step HB.out hb);clear hb BPc BSc BTc;have BPc:=zc8 BP.out;have BSc:=zc8 BS.out;have BTc:=zc8 BT.out;have BGc:=zc8 BG.out))
    go_ret
    have hr:wayOk p s i=(t.pc == (acts.length:Int)):=by
     rw [HU.out,if_neg W0.out,if_neg W1.out,if_pos W2.out,Bool.eq_iff_iff,decide_eq_true_eq,beq_iff_eq]
    rw [hr];exact ⟨rfl,HB.out⟩
   ·have yW2:(t.way == 2)=false:=by simp [w2x]
    have W2:=am w2x;clear w2x
    go_wp2_with (first
    |((with_reducible refine gate_dst (N:=3) rfl ?_);refine box_event rfl (N:=3) rfl (t:=48) (by go_simp<;>rfl) ?_;intro gp hg w3 hbox hb;have BP:=am hbox;clear hbox hg;have HB2:=am hb;clear hb;have HB:=HB2;clear HB2;have BPc:=zc8 BP.out)
    |((with_reducible refine gate_dst (N:=4) rfl ?_);refine box_event rfl (N:=4) rfl (t:=27) (by go_simp<;>rfl) ?_;intro gs hg w4 hbox hb;have BS:=am hbox;clear hbox hg;replace BP:=am (zb8 BP.out hb);replace HB:=am (below_step HB.out hb);clear hb BPc;have BPc:=zc8 BP.out;have BSc:=zc8 BS.out)
    |((with_reducible refine gate_dst (N:=15) rfl ?_);refine wpList_load_mid rfl 38 (.tmp 14) rfl b (o+i*13) rfl _ _ (fun j u hu=>cellB HB.out (HC.out j u hu)) Try.underlying38 rfl (by kernel_rfl) ?_)|((with_reducible refine gate_dst (N:=7) rfl ?_);refine box_event rfl (N:=7) rfl (t:=38) (by go_simp<;>rfl) ?_;intro gt hg wt hbox hb;have BT0:=am hbox;have GBT:=am hg;have HBT:=am hb;clear hbox hb hg)|((with_reducible refine gate_store (t:=38) (p:=7) rfl ?_);refine store_block rfl rfl 38 (.tmp 7) (.tmp 15) rfl rfl rfl BT0.out rfl (by kernel_rfl) (aB rfl) ?_;intro wn hbox hg;have BT:=am hbox;have hbx:=pw_below_grown HBT.out _ HBT.out.size hg (fun z hz=>by cases hz;exact Nat.le_of_eq GBT.out.symm);clear BT0 HBT hbox hg;replace BP:=am (zb8 BP.out hbx);replace BS:=am (zb8 BS.out hbx);replace HB:=am (below_step HB.out hbx);clear hbx BPc BSc;have BPc:=zc8 BP.out;have BSc:=zc8 BS.out;have BTc:=zc8 BT.out;have p2w:=cellB HB.out P2.out)
    |((with_reducible refine gate_dst (N:=22) rfl ?_);refine wpList_load_mid rfl 48 (.tmp 3) rfl gp 0 rfl _ _ (lC BP.out) Try.underlying48 rfl (by kernel_rfl) ?_)
    |((with_reducible refine gate_dst (N:=23) rfl ?_);refine wpList_load_mid rfl 27 (.tmp 4) rfl gs 0 rfl _ _ (lC BS.out) Try.underlying27 rfl (by kernel_rfl) ?_)
    |((with_reducible refine gate_dst (N:=25) rfl ?_);refine box_event rfl (N:=25) rfl (t:=152) (by go_simp<;>rfl) ?_;intro gg hg w25 hbox hb;have BG:=am hbox;clear hbox hg;replace BP:=am (zb8 BP.out hb);replace BS:=am (zb8 BS.out hb);replace BT:=am (zb8 BT.out hb);replace HB:=am (below_step HB.out hb);clear hb BPc BSc BTc;have BPc:=zc8 BP.out;have BSc:=zc8 BS.out;have BTc:=zc8 BT.out;have BGc:=zc8 BG.out))
    go_ret
    have hr:wayOk p s i=true:=by
     rw [HU.out,if_neg W0.out,if_neg W1.out,if_neg W2.out]
    rw [hr];exact ⟨rfl,HB.out⟩
theorem l12Task_bad (p:Prog) (ps:List Value) (s:Sys) (ss:List Value) (i:Nat) (w:World) (hp:kProg.K w p ps) (hs:kSys.K w s ss) (hz:ProgSz p) (hi:i < s.tasks.length) (hn:s.tasks.length<=1048576) (hm:s.cells.length<=1048576) (hl:s.log.length<=1048576) (hc0:0<=s.clock) (hc1:s.clock<=200) (hsz:(taskAt s.tasks i).regs.length<=1048576/\(taskAt s.tasks i).old.length<=1048576/\(taskAt s.tasks i).reads.length<=1048576/\(taskAt s.tasks i).puts.length<=1048576) (hx:(inB (taskAt s.tasks i).body 0 ((p.bodies.length:Int) - 1) && inB (taskAt s.tasks i).pc 0 ((actsAt p.bodies (taskAt s.tasks i).body.toNat).length) && inB (taskAt s.tasks i).way 0 4 && inB (taskAt s.tasks i).stage 0 5)=false):
  Calls Try.prog 57 #[.agg ps.toArray,.agg ss.toArray,.int .i64 i] w fun e w'=>e= .returned (.bool (taskOk p s i))/\Below w.heap.size w w':=by
 have HPK:=am hp;have HSK:=am hs;have HPZ:=am hz;obtain ⟨Ac,cc,Ab,cb,rfl,-,-,-,gb⟩:=kProg_open hp;obtain ⟨A0,c0,A1,c1,A3,c3,rfl,-,-,-,g1,-⟩:=kSys_open hs;have GB:=am gb;obtain ⟨b,o,cs,rfl,hcl,hK,hcc,-⟩:=C_field g1 zTask i hi (by decide);obtain ⟨t,ht⟩:∃ x,x=taskAt s.tasks i:=⟨_,rfl⟩;rw [<-ht] at hsz hx;rw [show s.tasks.getD i zTask=t from ht.symm] at hK;have HKT0:=am hK;obtain ⟨B3,d3,B8,d8,B9,d9,B10,d10,rfl,-,g3,-,g8,-,g9,-,g10⟩:=kTask_open hK;have HKT:=HKT0;have HC:=am hcc;have R3:=am g3;have R8:=am g8;have R9:=am g9;have R10:=am g10;have HZ3:=am hsz.1;have HZ8:=am hsz.2.1;have HZ9:=am hsz.2.2.1;have HZ10:=am hsz.2.2.2;have TX:=am ht;have HU:Aside0 (taskOk p s i=(inB t.body 0 (p.bodies.length - 1) && inB t.pc 0 (actsAt p.bodies t.body.toNat).length && inB t.way 0 4 && inB t.stage 0 5 && (decide (t.way=0) || decide (t.stage=0)) && numsOk t.regs 3 && numsOk t.old 3 && listOk t.reads s.cells.length && listOk t.puts s.cells.length && (!decide (t.stage=0) || (decide (t.at_=0) && decide (t.reads.length+t.puts.length=0))) && timesOk t s && upsOk s i && wayOk p s i)):=⟨by rw [ht];rfl⟩;have q0:(0:Int)<=(i:Int):=by omega
 have q1:(i:Int) < (s.tasks.length:Int):=by omega
 have w5:wrap64 ((p.bodies.length:Int) - 1)=(p.bodies.length:Int) - 1:=by have:=hz.bodies;unfold wrap64;omega
 clear hp hs gb g1 g3 g8 g9 g10 hcl hK hcc ht HKT0 hz hsz;obtain ⟨bH1,hbH1⟩:∃ b,inB t.body 0 ((p.bodies.length:Int) - 1)=b:=⟨_,rfl⟩;have H1:Aside0 ((decide ((0:Int)<=t.body) && decide (t.body<=((p.bodies.length:Int) - 1)))=bH1):=⟨hbH1⟩;clear hbH1;obtain ⟨bH3,hbH3⟩:∃ b,inB t.way 0 4=b:=⟨_,rfl⟩;have H3:Aside0 ((decide ((0:Int)<=t.way) && decide (t.way<=4))=bH3):=⟨hbH3⟩;clear hbH3;obtain ⟨bH4,hbH4⟩:∃ b,inB t.stage 0 5=b:=⟨_,rfl⟩;have H4:Aside0 ((decide ((0:Int)<=t.stage) && decide (t.stage<=5))=bH4):=⟨hbH4⟩;clear hbH4;go_enter Try.func57,Try.ntmps57
 cases bH1 with
 | false=>
  clear hx
  go_wp2_with (first
  |((with_reducible refine gate_dst (N:=3) rfl ?_);refine box_event rfl (N:=3) rfl (t:=48) (by go_simp<;>rfl) ?_;intro gp hg w3 hbox hb;have BP:=am hbox;clear hbox hg;have HB2:=am hb;clear hb;have HB:=HB2;clear HB2;have BPc:=zc8 BP.out)
  |((with_reducible refine gate_dst (N:=4) rfl ?_);refine box_event rfl (N:=4) rfl (t:=27) (by go_simp<;>rfl) ?_;intro gs hg w4 hbox hb;have BS:=am hbox;clear hbox hg;replace BP:=am (zb8 BP.out hb);replace HB:=am (below_step HB.out hb);clear hb BPc;have BPc:=zc8 BP.out;have BSc:=zc8 BS.out)
  |((with_reducible refine gate_dst (N:=13) rfl ?_);refine wpList_load_mid rfl 38 (.tmp 12) rfl b (o+i*13) rfl _ _ (fun j u hu=>cellB HB.out (HC.out j u hu)) Try.underlying38 rfl (by kernel_rfl) ?_)|((with_reducible refine gate_dst (N:=7) rfl ?_);refine box_event rfl (N:=7) rfl (t:=38) (by go_simp<;>rfl) ?_;intro gt hg wt hbox hb;have BT0:=am hbox;have GBT:=am hg;have HBT:=am hb;clear hbox hb hg)|((with_reducible refine gate_store (t:=38) (p:=7) rfl ?_);refine store_block rfl rfl 38 (.tmp 7) (.tmp 13) rfl rfl rfl BT0.out rfl (by kernel_rfl) (aB rfl) ?_;intro wn hbox hg;have BT:=am hbox;have hbx:=pw_below_grown HBT.out _ HBT.out.size hg (fun z hz=>by cases hz;exact Nat.le_of_eq GBT.out.symm);clear BT0 HBT hbox hg;replace BP:=am (zb8 BP.out hbx);replace BS:=am (zb8 BS.out hbx);replace HB:=am (below_step HB.out hbx);clear hbx BPc BSc;have BPc:=zc8 BP.out;have BSc:=zc8 BS.out;have BTc:=zc8 BT.out))
  refine st9 (n:=33) (S:=fun W=>W.heap[gp]? = some (.cells #[.slice Ac p.cells.length cc,.slice Ab p.bodies.length cb] 48 (0,0))/\W.heap[gs]? = some (.cells #[.slice A0 s.cells.length c0,.slice (some ⟨b,o,none⟩) s.tasks.length c1,.int .i64 s.clock,.slice A3 s.log.length c3] 27 (0,0))/\W.heap[gt]? = some (.cells #[.int .i64 t.body,.int .i64 t.pc,.int .i64 t.up,.slice B3 t.regs.length d3,.int .i64 t.way,.int .i64 t.stage,.int .i64 t.at_,.int .i64 t.since,.slice B8 t.old.length d8,.slice B9 t.reads.length d9,.slice B10 t.puts.length d10,.int .i64 t.when_,.int .i64 t.from_] 38 (0,0))) (ds:= []) (by kernel_rfl) rfl ⟨blk_drew BP.out,blk_drew BS.out,blk_drew BT.out⟩ (fun hHeld=> ?_);have hb:=below_drew (Below.refl wn.heap.size wn);generalize wn.drew=w7 at hb hHeld ⊢;have HB7:=am (below_step HB.out hb);clear hb HB BP BS BT BPc BSc BTc;refine ba9 (fuel:=27) (n:=6) [0,1,2,3,4,5] (by kernel_rfl) (fun N _ _ _ _ h=>by cases N <;> exact h) hHeld ?_
  iterate 6 (
   refine stillS_step (v:= ?_) (a':= ?_) rfl (Or.inl ⟨by rfl, ?_⟩) ?_ ?_;rotate_left
   ·rintro W ⟨s0,s1,s2⟩
    have t0:=zc8 s0;have t1:=zc8 s1;have t2:=zc8 s2;clear s0 s1 s2;go_simp;with_reducible rfl
   rotate_left
   ·simp only [Act.put,sA,sZ,sS,i64_w]
    rfl)
  refine stillS_nil ?_;refine on9 (i:=6) (N:=some 20) rfl rfl (by kernel_rfl) (by decide) (fun K hK=> ?_);refine goes_ Try.func50 (by kernel_rfl) rfl #[.int .i64 t.body,.int .i64 0,.int .i64 (wrap64 ((p.bodies.length:Int) - 1))] (by rfl) rfl rfl (by (try simp only [List.map_toArray,List.map_cons,List.map_nil]);first | done | rfl) ?_;refine (l6In_calls t.body 0 (wrap64 ((p.bodies.length:Int) - 1)) _).mono ?_;rw [w5,H1.out];rintro e9 wn ⟨rfl,rfl⟩;refine ⟨_,rfl, ?_⟩;refine hK.out _ _ hHeld (fun hHeld=> ?_);clear hK K;refine norm_ (a':= ?_) ?_ ?_;rotate_left
  ·show Act.put _ (some 20) _=_
   simp only [Act.put,sA,sZ,sS,i64_w];rfl
  refine ba9 (fuel:=15) (n:=11) [7,8,9,10,11,12,13,14,15,16,17] (by kernel_rfl) (fun N _ _ _ _ h=>by cases N <;> exact h) hHeld ?_
  iterate 2 (
   refine stillS_step (v:= ?_) (a':= ?_) rfl (Or.inl ⟨by rfl, ?_⟩) ?_ ?_;rotate_left
   ·rintro W ⟨s0,s1,s2⟩
    have t0:=zc8 s0;have t1:=zc8 s1;have t2:=zc8 s2;clear s0 s1 s2;go_simp;with_reducible rfl
   rotate_left
   ·simp only [Act.put,sA,sZ,sS,i64_w]
    rfl)
  iterate 9 (
   refine stillS_step (v:=undef) (a':= ?_) rfl (Or.inr ⟨by rfl,rfl⟩) ?_ ?_;rotate_left
   ·simp only [Act.put,sA,sZ,sS]
    rfl)
  refine stillS_nil ?_;refine on9 (i:=18) (N:=some 32) rfl rfl (by kernel_rfl) (by decide) (fun K hK=> ?_);rw [if_neg (by exact Bool.false_ne_true)];refine hK.out _ _ hHeld (fun hHeld=> ?_);clear hK K;refine norm_ (a':= ?_) ?_ ?_;rotate_left
  ·show Act.put _ (some 32) _=_
   simp only [Act.put,sA,sZ,sS,i64_w];rfl
  refine ba9 (fuel:=9) (n:=5) [19,20,21,22,23] (by kernel_rfl) (fun N _ _ _ _ h=>by cases N <;> exact h) hHeld ?_
  iterate 1 (
   refine stillS_step (v:=undef) (a':= ?_) rfl (Or.inr ⟨by rfl,rfl⟩) ?_ ?_;rotate_left
   ·simp only [Act.put,sA,sZ,sS]
    rfl)
  iterate 2 (
   refine stillS_step (v:= ?_) (a':= ?_) rfl (Or.inl ⟨by rfl, ?_⟩) ?_ ?_;rotate_left
   ·rintro W ⟨s0,s1,s2⟩
    have t0:=zc8 s0;have t1:=zc8 s1;have t2:=zc8 s2;clear s0 s1 s2;go_simp;with_reducible rfl
   rotate_left
   ·simp only [Act.put,sA,sZ,sS,i64_w]
    rfl)
  iterate 2 (
   refine stillS_step (v:=undef) (a':= ?_) rfl (Or.inr ⟨by rfl,rfl⟩) ?_ ?_;rotate_left
   ·simp only [Act.put,sA,sZ,sS]
    rfl)
  refine stillS_nil ?_;refine on9 (i:=24) (N:=some 38) rfl rfl (by kernel_rfl) (by decide) (fun K hK=> ?_);rw [if_neg (by exact Bool.false_ne_true)];refine hK.out _ _ hHeld (fun hHeld=> ?_);clear hK K;refine norm_ (a':= ?_) ?_ ?_;rotate_left
  ·show Act.put _ (some 38) _=_
   simp only [Act.put,sA,sZ,sS,i64_w];rfl
  refine ba9 (fuel:=3) (n:=5) [25,26,27,28,29] (by kernel_rfl) (fun N _ _ _ _ h=>by cases N <;> exact h) hHeld ?_
  iterate 1 (
   refine stillS_step (v:=undef) (a':= ?_) rfl (Or.inr ⟨by rfl,rfl⟩) ?_ ?_;rotate_left
   ·simp only [Act.put,sA,sZ,sS]
    rfl)
  iterate 2 (
   refine stillS_step (v:= ?_) (a':= ?_) rfl (Or.inl ⟨by rfl, ?_⟩) ?_ ?_;rotate_left
   ·rintro W ⟨s0,s1,s2⟩
    have t0:=zc8 s0;have t1:=zc8 s1;have t2:=zc8 s2;clear s0 s1 s2;go_simp;with_reducible rfl
   rotate_left
   ·simp only [Act.put,sA,sZ,sS,i64_w]
    rfl)
  iterate 2 (
   refine stillS_step (v:=undef) (a':= ?_) rfl (Or.inr ⟨by rfl,rfl⟩) ?_ ?_;rotate_left
   ·simp only [Act.put,sA,sZ,sS]
    rfl)
  refine stillS_nil ?_;refine on9 (i:=30) (N:=some 44) rfl rfl (by kernel_rfl) (by decide) (fun K hK=> ?_);rw [if_neg (by exact Bool.false_ne_true)];refine hK.out _ _ hHeld (fun hHeld=> ?_);clear hK K;refine norm_ (a':= ?_) ?_ ?_;rotate_left
  ·show Act.put _ (some 44) _=_
   simp only [Act.put,sA,sZ,sS,i64_w];rfl
  refine ba9 (fuel:=0) (n:=2) [31,32] (by kernel_rfl) (fun N _ _ _ _ h=>by cases N <;> exact h) hHeld ?_
  iterate 1 (
   refine stillS_step (v:=undef) (a':= ?_) rfl (Or.inr ⟨by rfl,rfl⟩) ?_ ?_;rotate_left
   ·simp only [Act.put,sA,sZ,sS]
    rfl)
  iterate 1 (
   refine stillS_step (v:= ?_) (a':= ?_) rfl (Or.inl ⟨by rfl, ?_⟩) ?_ ?_;rotate_left
   ·rintro W ⟨s0,s1,s2⟩
    have t0:=zc8 s0;have t1:=zc8 s1;have t2:=zc8 s2;clear s0 s1 s2;go_simp;with_reducible rfl
   rotate_left
   ·simp only [Act.put,sA,sZ,sS,i64_w]
    rfl)
  refine stillS_nil ?_;refine done_ (by kernel_rfl) ?_;have BP:=am hHeld.1;have BS:=am hHeld.2.1;have BT:=am hHeld.2.2;have HB:=HB7;clear hHeld HB7;have BPc:=zc8 BP.out;have BSc:=zc8 BS.out;have BTc:=zc8 BT.out;go_wp2;go_ret
  have hr:taskOk p s i=false:=by
   rw [HU.out,show inB t.body 0 ((p.bodies.length:Int) - 1)=false from H1.out];simp only [Bool.true_and,Bool.false_and,Bool.and_false,Bool.or_true,Bool.true_or,Bool.or_false,Bool.false_or,Bool.not_true,Bool.not_false,Bool.and_self,Bool.and_true,Bool.or_self]
  rw [hr]
  exact ⟨rfl,HB.out⟩
 | true=>
  have hbb:=inB_iff.1 (show inB t.body 0 ((p.bodies.length:Int) - 1)=true from H1.out);have hb0:0<=t.body:=hbb.1;have hb1:t.body < p.bodies.length:=by omega
  clear hbb;obtain ⟨kb,hkb0⟩:=Int.eq_ofNat_of_zero_le hb0;have hkb:kb < p.bodies.length:=by omega
  have v4:t.body.toNat=kb:=by omega
  obtain ⟨bb,ob,cs2,rfl,hcl2,hK2,hcc2,-⟩:=C_field GB.out ([]:List Act) kb hkb (by decide);obtain ⟨Aa,ca,rfl,la,-⟩:=hK2;have p2:=hcc2 0 _ rfl;simp only [show (Kd.slice 108 kAct).sz=1 from rfl,Nat.mul_one,Nat.add_zero] at p2;rw [show (p.bodies.getD kb []).length=(actsAt p.bodies kb).length from rfl] at p2;have P2:=am p2;obtain ⟨na,hna⟩:∃ x,x=(actsAt p.bodies kb).length:=⟨_,rfl⟩;have hnl:na<=1048576:=by rw [hna,actsAt_eq hkb];exact (HPZ.out.acts _ (List.getElem_mem hkb)).1
  rw [<-hna] at P2;have HNA:=am hna;clear hcl2 hcc2 p2 la hna hkb0;obtain ⟨bH2,hbH2⟩:∃ b,inB t.pc 0 (na:Int)=b:=⟨_,rfl⟩;have H2:Aside0 ((decide ((0:Int)<=t.pc) && decide (t.pc<=(na:Int)))=bH2):=⟨hbH2⟩;clear hbH2
  have hx2:((true && bH2) && bH3 && bH4)=false:=by
   rw [<-hx,v4,<-HNA.out,show inB t.body 0 ((p.bodies.length:Int) - 1)=true from H1.out,show inB t.pc 0 (na:Int)=bH2 from H2.out,show inB t.way 0 4=bH3 from H3.out,show inB t.stage 0 5=bH4 from H4.out]
  clear hx
  cases bH2 with
  | false=>
   clear hx2
   go_wp2_with (first
   |((with_reducible refine gate_dst (N:=3) rfl ?_);refine box_event rfl (N:=3) rfl (t:=48) (by go_simp<;>rfl) ?_;intro gp hg w3 hbox hb;have BP:=am hbox;clear hbox hg;have HB2:=am hb;clear hb;have HB:=HB2;clear HB2;have BPc:=zc8 BP.out)
   |((with_reducible refine gate_dst (N:=4) rfl ?_);refine box_event rfl (N:=4) rfl (t:=27) (by go_simp<;>rfl) ?_;intro gs hg w4 hbox hb;have BS:=am hbox;clear hbox hg;replace BP:=am (zb8 BP.out hb);replace HB:=am (below_step HB.out hb);clear hb BPc;have BPc:=zc8 BP.out;have BSc:=zc8 BS.out)
   |((with_reducible refine gate_dst (N:=13) rfl ?_);refine wpList_load_mid rfl 38 (.tmp 12) rfl b (o+i*13) rfl _ _ (fun j u hu=>cellB HB.out (HC.out j u hu)) Try.underlying38 rfl (by kernel_rfl) ?_)|((with_reducible refine gate_dst (N:=7) rfl ?_);refine box_event rfl (N:=7) rfl (t:=38) (by go_simp<;>rfl) ?_;intro gt hg wt hbox hb;have BT0:=am hbox;have GBT:=am hg;have HBT:=am hb;clear hbox hb hg)|((with_reducible refine gate_store (t:=38) (p:=7) rfl ?_);refine store_block rfl rfl 38 (.tmp 7) (.tmp 13) rfl rfl rfl BT0.out rfl (by kernel_rfl) (aB rfl) ?_;intro wn hbox hg;have BT:=am hbox;have hbx:=pw_below_grown HBT.out _ HBT.out.size hg (fun z hz=>by cases hz;exact Nat.le_of_eq GBT.out.symm);clear BT0 HBT hbox hg;replace BP:=am (zb8 BP.out hbx);replace BS:=am (zb8 BS.out hbx);replace HB:=am (below_step HB.out hbx);clear hbx BPc BSc;have BPc:=zc8 BP.out;have BSc:=zc8 BS.out;have BTc:=zc8 BT.out))
   refine st9 (n:=33) (S:=fun W=>W.heap[gp]? = some (.cells #[.slice Ac p.cells.length cc,.slice (some ⟨bb,ob,none⟩) p.bodies.length cb] 48 (0,0))/\W.heap[gs]? = some (.cells #[.slice A0 s.cells.length c0,.slice (some ⟨b,o,none⟩) s.tasks.length c1,.int .i64 s.clock,.slice A3 s.log.length c3] 27 (0,0))/\W.heap[gt]? = some (.cells #[.int .i64 t.body,.int .i64 t.pc,.int .i64 t.up,.slice B3 t.regs.length d3,.int .i64 t.way,.int .i64 t.stage,.int .i64 t.at_,.int .i64 t.since,.slice B8 t.old.length d8,.slice B9 t.reads.length d9,.slice B10 t.puts.length d10,.int .i64 t.when_,.int .i64 t.from_] 38 (0,0))/\W.cell? ⟨bb,ob+kb,none⟩=some (.slice Aa na ca)) (ds:= []) (by kernel_rfl) rfl ⟨blk_drew BP.out,blk_drew BS.out,blk_drew BT.out,(show wn.cell? ⟨bb,ob+kb,none⟩=_ from cellB HB.out P2.out)⟩ (fun hHeld=> ?_);have hb:=below_drew (Below.refl wn.heap.size wn);generalize wn.drew=w7 at hb hHeld ⊢;have HB7:=am (below_step HB.out hb);clear hb HB BP BS BT BPc BSc BTc;refine ba9 (fuel:=27) (n:=6) [0,1,2,3,4,5] (by kernel_rfl) (fun N _ _ _ _ h=>by cases N <;> exact h) hHeld ?_
   iterate 6 (
    refine stillS_step (v:= ?_) (a':= ?_) rfl (Or.inl ⟨by rfl, ?_⟩) ?_ ?_;rotate_left
    ·rintro W ⟨s0,s1,s2,s3⟩
     have t0:=zc8 s0;have t1:=zc8 s1;have t2:=zc8 s2;clear s0 s1 s2;go_simp;with_reducible rfl
    rotate_left
    ·simp only [Act.put,sA,sZ,sS,i64_w]
     rfl)
   refine stillS_nil ?_;refine on9 (i:=6) (N:=some 20) rfl rfl (by kernel_rfl) (by decide) (fun K hK=> ?_);refine goes_ Try.func50 (by kernel_rfl) rfl #[.int .i64 t.body,.int .i64 0,.int .i64 (wrap64 ((p.bodies.length:Int) - 1))] (by rfl) rfl rfl (by (try simp only [List.map_toArray,List.map_cons,List.map_nil]);first | done | rfl) ?_;refine (l6In_calls t.body 0 (wrap64 ((p.bodies.length:Int) - 1)) _).mono ?_;rw [w5,H1.out];rintro e9 wn ⟨rfl,rfl⟩;refine ⟨_,rfl, ?_⟩;refine hK.out _ _ hHeld (fun hHeld=> ?_);clear hK K;refine norm_ (a':= ?_) ?_ ?_;rotate_left
   ·show Act.put _ (some 20) _=_
    simp only [Act.put,sA,sZ,sS,i64_w];rfl
   refine ba9 (fuel:=15) (n:=11) [7,8,9,10,11,12,13,14,15,16,17] (by kernel_rfl) (fun N _ _ _ _ h=>by cases N <;> exact h) hHeld ?_
   iterate 11 (
    refine stillS_step (v:= ?_) (a':= ?_) rfl (Or.inl ⟨by rfl, ?_⟩) ?_ ?_;rotate_left
    ·rintro W ⟨s0,s1,s2,s3⟩
     have t0:=zc8 s0;have t1:=zc8 s1;have t2:=zc8 s2;clear s0 s1 s2;go_simp;with_reducible rfl
    rotate_left
    ·simp only [Act.put,sA,sZ,sS,i64_w]
     rfl)
   refine stillS_nil ?_;refine on9 (i:=18) (N:=some 32) rfl rfl (by kernel_rfl) (by decide) (fun K hK=> ?_);refine goes_ Try.func50 (by kernel_rfl) rfl #[.int .i64 t.pc,.int .i64 0,.int .i64 (na:Int)] (by rfl) rfl rfl (by (try simp only [List.map_toArray,List.map_cons,List.map_nil]);first | done | rfl) ?_;refine (l6In_calls t.pc 0 (na:Int) _).mono ?_;rw [H2.out];rintro e9 wn ⟨rfl,rfl⟩;refine ⟨_,rfl, ?_⟩;refine hK.out _ _ hHeld (fun hHeld=> ?_);clear hK K;refine norm_ (a':= ?_) ?_ ?_;rotate_left
   ·show Act.put _ (some 32) _=_
    simp only [Act.put,sA,sZ,sS,i64_w];rfl
   refine ba9 (fuel:=9) (n:=5) [19,20,21,22,23] (by kernel_rfl) (fun N _ _ _ _ h=>by cases N <;> exact h) hHeld ?_
   iterate 3 (
    refine stillS_step (v:= ?_) (a':= ?_) rfl (Or.inl ⟨by rfl, ?_⟩) ?_ ?_;rotate_left
    ·rintro W ⟨s0,s1,s2,s3⟩
     have t0:=zc8 s0;have t1:=zc8 s1;have t2:=zc8 s2;clear s0 s1 s2;go_simp;with_reducible rfl
    rotate_left
    ·simp only [Act.put,sA,sZ,sS,i64_w]
     rfl)
   iterate 2 (
    refine stillS_step (v:=undef) (a':= ?_) rfl (Or.inr ⟨by rfl,rfl⟩) ?_ ?_;rotate_left
    ·simp only [Act.put,sA,sZ,sS]
     rfl)
   refine stillS_nil ?_;refine on9 (i:=24) (N:=some 38) rfl rfl (by kernel_rfl) (by decide) (fun K hK=> ?_);rw [if_neg (by exact Bool.false_ne_true)];refine hK.out _ _ hHeld (fun hHeld=> ?_);clear hK K;refine norm_ (a':= ?_) ?_ ?_;rotate_left
   ·show Act.put _ (some 38) _=_
    simp only [Act.put,sA,sZ,sS,i64_w];rfl
   refine ba9 (fuel:=3) (n:=5) [25,26,27,28,29] (by kernel_rfl) (fun N _ _ _ _ h=>by cases N <;> exact h) hHeld ?_
   iterate 1 (
    refine stillS_step (v:=undef) (a':= ?_) rfl (Or.inr ⟨by rfl,rfl⟩) ?_ ?_;rotate_left
    ·simp only [Act.put,sA,sZ,sS]
     rfl)
   iterate 2 (
    refine stillS_step (v:= ?_) (a':= ?_) rfl (Or.inl ⟨by rfl, ?_⟩) ?_ ?_;rotate_left
    ·rintro W ⟨s0,s1,s2,s3⟩
     have t0:=zc8 s0;have t1:=zc8 s1;have t2:=zc8 s2;clear s0 s1 s2;go_simp;with_reducible rfl
    rotate_left
    ·simp only [Act.put,sA,sZ,sS,i64_w]
     rfl)
   iterate 2 (
    refine stillS_step (v:=undef) (a':= ?_) rfl (Or.inr ⟨by rfl,rfl⟩) ?_ ?_;rotate_left
    ·simp only [Act.put,sA,sZ,sS]
     rfl)
   refine stillS_nil ?_;refine on9 (i:=30) (N:=some 44) rfl rfl (by kernel_rfl) (by decide) (fun K hK=> ?_);rw [if_neg (by exact Bool.false_ne_true)];refine hK.out _ _ hHeld (fun hHeld=> ?_);clear hK K;refine norm_ (a':= ?_) ?_ ?_;rotate_left
   ·show Act.put _ (some 44) _=_
    simp only [Act.put,sA,sZ,sS,i64_w];rfl
   refine ba9 (fuel:=0) (n:=2) [31,32] (by kernel_rfl) (fun N _ _ _ _ h=>by cases N <;> exact h) hHeld ?_
   iterate 1 (
    refine stillS_step (v:=undef) (a':= ?_) rfl (Or.inr ⟨by rfl,rfl⟩) ?_ ?_;rotate_left
    ·simp only [Act.put,sA,sZ,sS]
     rfl)
   iterate 1 (
    refine stillS_step (v:= ?_) (a':= ?_) rfl (Or.inl ⟨by rfl, ?_⟩) ?_ ?_;rotate_left
    ·rintro W ⟨s0,s1,s2,s3⟩
     have t0:=zc8 s0;have t1:=zc8 s1;have t2:=zc8 s2;clear s0 s1 s2;go_simp;with_reducible rfl
    rotate_left
    ·simp only [Act.put,sA,sZ,sS,i64_w]
     rfl)
   refine stillS_nil ?_;refine done_ (by kernel_rfl) ?_;have BP:=am hHeld.1;have BS:=am hHeld.2.1;have BT:=am hHeld.2.2.1;have HB:=HB7;clear hHeld HB7;have BPc:=zc8 BP.out;have BSc:=zc8 BS.out;have BTc:=zc8 BT.out;go_wp2;go_ret
   have hr:taskOk p s i=false:=by
    rw [HU.out,show inB t.body 0 ((p.bodies.length:Int) - 1)=true from H1.out,v4,<-HNA.out,show inB t.pc 0 (na:Int)=false from H2.out];simp only [Bool.true_and,Bool.false_and,Bool.and_false,Bool.or_true,Bool.true_or,Bool.or_false,Bool.false_or,Bool.not_true,Bool.not_false,Bool.and_self,Bool.and_true,Bool.or_self]
   rw [hr]
   exact ⟨rfl,HB.out⟩
  | true=>
   cases bH3 with
   | false=>
    clear hx2
    go_wp2_with (first
    |((with_reducible refine gate_dst (N:=3) rfl ?_);refine box_event rfl (N:=3) rfl (t:=48) (by go_simp<;>rfl) ?_;intro gp hg w3 hbox hb;have BP:=am hbox;clear hbox hg;have HB2:=am hb;clear hb;have HB:=HB2;clear HB2;have BPc:=zc8 BP.out)
    |((with_reducible refine gate_dst (N:=4) rfl ?_);refine box_event rfl (N:=4) rfl (t:=27) (by go_simp<;>rfl) ?_;intro gs hg w4 hbox hb;have BS:=am hbox;clear hbox hg;replace BP:=am (zb8 BP.out hb);replace HB:=am (below_step HB.out hb);clear hb BPc;have BPc:=zc8 BP.out;have BSc:=zc8 BS.out)
    |((with_reducible refine gate_dst (N:=13) rfl ?_);refine wpList_load_mid rfl 38 (.tmp 12) rfl b (o+i*13) rfl _ _ (fun j u hu=>cellB HB.out (HC.out j u hu)) Try.underlying38 rfl (by kernel_rfl) ?_)|((with_reducible refine gate_dst (N:=7) rfl ?_);refine box_event rfl (N:=7) rfl (t:=38) (by go_simp<;>rfl) ?_;intro gt hg wt hbox hb;have BT0:=am hbox;have GBT:=am hg;have HBT:=am hb;clear hbox hb hg)|((with_reducible refine gate_store (t:=38) (p:=7) rfl ?_);refine store_block rfl rfl 38 (.tmp 7) (.tmp 13) rfl rfl rfl BT0.out rfl (by kernel_rfl) (aB rfl) ?_;intro wn hbox hg;have BT:=am hbox;have hbx:=pw_below_grown HBT.out _ HBT.out.size hg (fun z hz=>by cases hz;exact Nat.le_of_eq GBT.out.symm);clear BT0 HBT hbox hg;replace BP:=am (zb8 BP.out hbx);replace BS:=am (zb8 BS.out hbx);replace HB:=am (below_step HB.out hbx);clear hbx BPc BSc;have BPc:=zc8 BP.out;have BSc:=zc8 BS.out;have BTc:=zc8 BT.out))
    refine st9 (n:=33) (S:=fun W=>W.heap[gp]? = some (.cells #[.slice Ac p.cells.length cc,.slice (some ⟨bb,ob,none⟩) p.bodies.length cb] 48 (0,0))/\W.heap[gs]? = some (.cells #[.slice A0 s.cells.length c0,.slice (some ⟨b,o,none⟩) s.tasks.length c1,.int .i64 s.clock,.slice A3 s.log.length c3] 27 (0,0))/\W.heap[gt]? = some (.cells #[.int .i64 t.body,.int .i64 t.pc,.int .i64 t.up,.slice B3 t.regs.length d3,.int .i64 t.way,.int .i64 t.stage,.int .i64 t.at_,.int .i64 t.since,.slice B8 t.old.length d8,.slice B9 t.reads.length d9,.slice B10 t.puts.length d10,.int .i64 t.when_,.int .i64 t.from_] 38 (0,0))/\W.cell? ⟨bb,ob+kb,none⟩=some (.slice Aa na ca)) (ds:= []) (by kernel_rfl) rfl ⟨blk_drew BP.out,blk_drew BS.out,blk_drew BT.out,(show wn.cell? ⟨bb,ob+kb,none⟩=_ from cellB HB.out P2.out)⟩ (fun hHeld=> ?_);have hb:=below_drew (Below.refl wn.heap.size wn);generalize wn.drew=w7 at hb hHeld ⊢;have HB7:=am (below_step HB.out hb);clear hb HB BP BS BT BPc BSc BTc;refine ba9 (fuel:=27) (n:=6) [0,1,2,3,4,5] (by kernel_rfl) (fun N _ _ _ _ h=>by cases N <;> exact h) hHeld ?_
    iterate 6 (
     refine stillS_step (v:= ?_) (a':= ?_) rfl (Or.inl ⟨by rfl, ?_⟩) ?_ ?_;rotate_left
     ·rintro W ⟨s0,s1,s2,s3⟩
      have t0:=zc8 s0;have t1:=zc8 s1;have t2:=zc8 s2;clear s0 s1 s2;go_simp;with_reducible rfl
     rotate_left
     ·simp only [Act.put,sA,sZ,sS,i64_w]
      rfl)
    refine stillS_nil ?_;refine on9 (i:=6) (N:=some 20) rfl rfl (by kernel_rfl) (by decide) (fun K hK=> ?_);refine goes_ Try.func50 (by kernel_rfl) rfl #[.int .i64 t.body,.int .i64 0,.int .i64 (wrap64 ((p.bodies.length:Int) - 1))] (by rfl) rfl rfl (by (try simp only [List.map_toArray,List.map_cons,List.map_nil]);first | done | rfl) ?_;refine (l6In_calls t.body 0 (wrap64 ((p.bodies.length:Int) - 1)) _).mono ?_;rw [w5,H1.out];rintro e9 wn ⟨rfl,rfl⟩;refine ⟨_,rfl, ?_⟩;refine hK.out _ _ hHeld (fun hHeld=> ?_);clear hK K;refine norm_ (a':= ?_) ?_ ?_;rotate_left
    ·show Act.put _ (some 20) _=_
     simp only [Act.put,sA,sZ,sS,i64_w];rfl
    refine ba9 (fuel:=15) (n:=11) [7,8,9,10,11,12,13,14,15,16,17] (by kernel_rfl) (fun N _ _ _ _ h=>by cases N <;> exact h) hHeld ?_
    iterate 11 (
     refine stillS_step (v:= ?_) (a':= ?_) rfl (Or.inl ⟨by rfl, ?_⟩) ?_ ?_;rotate_left
     ·rintro W ⟨s0,s1,s2,s3⟩
      have t0:=zc8 s0;have t1:=zc8 s1;have t2:=zc8 s2;clear s0 s1 s2;go_simp;with_reducible rfl
     rotate_left
     ·simp only [Act.put,sA,sZ,sS,i64_w]
      rfl)
    refine stillS_nil ?_;refine on9 (i:=18) (N:=some 32) rfl rfl (by kernel_rfl) (by decide) (fun K hK=> ?_);refine goes_ Try.func50 (by kernel_rfl) rfl #[.int .i64 t.pc,.int .i64 0,.int .i64 (na:Int)] (by rfl) rfl rfl (by (try simp only [List.map_toArray,List.map_cons,List.map_nil]);first | done | rfl) ?_;refine (l6In_calls t.pc 0 (na:Int) _).mono ?_;rw [H2.out];rintro e9 wn ⟨rfl,rfl⟩;refine ⟨_,rfl, ?_⟩;refine hK.out _ _ hHeld (fun hHeld=> ?_);clear hK K;refine norm_ (a':= ?_) ?_ ?_;rotate_left
    ·show Act.put _ (some 32) _=_
     simp only [Act.put,sA,sZ,sS,i64_w];rfl
    refine ba9 (fuel:=9) (n:=5) [19,20,21,22,23] (by kernel_rfl) (fun N _ _ _ _ h=>by cases N <;> exact h) hHeld ?_
    iterate 5 (
     refine stillS_step (v:= ?_) (a':= ?_) rfl (Or.inl ⟨by rfl, ?_⟩) ?_ ?_;rotate_left
     ·rintro W ⟨s0,s1,s2,s3⟩
      have t0:=zc8 s0;have t1:=zc8 s1;have t2:=zc8 s2;clear s0 s1 s2;go_simp;with_reducible rfl
     rotate_left
     ·simp only [Act.put,sA,sZ,sS,i64_w]
      rfl)
    refine stillS_nil ?_;refine on9 (i:=24) (N:=some 38) rfl rfl (by kernel_rfl) (by decide) (fun K hK=> ?_);refine goes_ Try.func50 (by kernel_rfl) rfl #[.int .i64 t.way,.int .i64 0,.int .i64 4] (by rfl) rfl rfl (by (try simp only [List.map_toArray,List.map_cons,List.map_nil]);first | done | rfl) ?_;refine (l6In_calls t.way 0 4 _).mono ?_;rw [H3.out];rintro e9 wn ⟨rfl,rfl⟩;refine ⟨_,rfl, ?_⟩;refine hK.out _ _ hHeld (fun hHeld=> ?_);clear hK K;refine norm_ (a':= ?_) ?_ ?_;rotate_left
    ·show Act.put _ (some 38) _=_
     simp only [Act.put,sA,sZ,sS,i64_w];rfl
    refine ba9 (fuel:=3) (n:=5) [25,26,27,28,29] (by kernel_rfl) (fun N _ _ _ _ h=>by cases N <;> exact h) hHeld ?_
    iterate 3 (
     refine stillS_step (v:= ?_) (a':= ?_) rfl (Or.inl ⟨by rfl, ?_⟩) ?_ ?_;rotate_left
     ·rintro W ⟨s0,s1,s2,s3⟩
      have t0:=zc8 s0;have t1:=zc8 s1;have t2:=zc8 s2;clear s0 s1 s2;go_simp;with_reducible rfl
     rotate_left
     ·simp only [Act.put,sA,sZ,sS,i64_w]
      rfl)
    iterate 2 (
     refine stillS_step (v:=undef) (a':= ?_) rfl (Or.inr ⟨by rfl,rfl⟩) ?_ ?_;rotate_left
     ·simp only [Act.put,sA,sZ,sS]
      rfl)
    refine stillS_nil ?_;refine on9 (i:=30) (N:=some 44) rfl rfl (by kernel_rfl) (by decide) (fun K hK=> ?_);rw [if_neg (by exact Bool.false_ne_true)];refine hK.out _ _ hHeld (fun hHeld=> ?_);clear hK K;refine norm_ (a':= ?_) ?_ ?_;rotate_left
    ·show Act.put _ (some 44) _=_
     simp only [Act.put,sA,sZ,sS,i64_w];rfl
    refine ba9 (fuel:=0) (n:=2) [31,32] (by kernel_rfl) (fun N _ _ _ _ h=>by cases N <;> exact h) hHeld ?_
    iterate 1 (
     refine stillS_step (v:=undef) (a':= ?_) rfl (Or.inr ⟨by rfl,rfl⟩) ?_ ?_;rotate_left
     ·simp only [Act.put,sA,sZ,sS]
      rfl)
    iterate 1 (
     refine stillS_step (v:= ?_) (a':= ?_) rfl (Or.inl ⟨by rfl, ?_⟩) ?_ ?_;rotate_left
     ·rintro W ⟨s0,s1,s2,s3⟩
      have t0:=zc8 s0;have t1:=zc8 s1;have t2:=zc8 s2;clear s0 s1 s2;go_simp;with_reducible rfl
     rotate_left
     ·simp only [Act.put,sA,sZ,sS,i64_w]
      rfl)
    refine stillS_nil ?_;refine done_ (by kernel_rfl) ?_;have BP:=am hHeld.1;have BS:=am hHeld.2.1;have BT:=am hHeld.2.2.1;have HB:=HB7;clear hHeld HB7;have BPc:=zc8 BP.out;have BSc:=zc8 BS.out;have BTc:=zc8 BT.out;go_wp2;go_ret
    have hr:taskOk p s i=false:=by
     rw [HU.out,show inB t.body 0 ((p.bodies.length:Int) - 1)=true from H1.out,v4,<-HNA.out,show inB t.pc 0 (na:Int)=true from H2.out,show inB t.way 0 4=false from H3.out];simp only [Bool.true_and,Bool.false_and,Bool.and_false,Bool.or_true,Bool.true_or,Bool.or_false,Bool.false_or,Bool.not_true,Bool.not_false,Bool.and_self,Bool.and_true,Bool.or_self]
    rw [hr]
    exact ⟨rfl,HB.out⟩
   | true=>
    cases bH4 with
    | false=>
     clear hx2
     go_wp2_with (first
     |((with_reducible refine gate_dst (N:=3) rfl ?_);refine box_event rfl (N:=3) rfl (t:=48) (by go_simp<;>rfl) ?_;intro gp hg w3 hbox hb;have BP:=am hbox;clear hbox hg;have HB2:=am hb;clear hb;have HB:=HB2;clear HB2;have BPc:=zc8 BP.out)
     |((with_reducible refine gate_dst (N:=4) rfl ?_);refine box_event rfl (N:=4) rfl (t:=27) (by go_simp<;>rfl) ?_;intro gs hg w4 hbox hb;have BS:=am hbox;clear hbox hg;replace BP:=am (zb8 BP.out hb);replace HB:=am (below_step HB.out hb);clear hb BPc;have BPc:=zc8 BP.out;have BSc:=zc8 BS.out)
     |((with_reducible refine gate_dst (N:=13) rfl ?_);refine wpList_load_mid rfl 38 (.tmp 12) rfl b (o+i*13) rfl _ _ (fun j u hu=>cellB HB.out (HC.out j u hu)) Try.underlying38 rfl (by kernel_rfl) ?_)|((with_reducible refine gate_dst (N:=7) rfl ?_);refine box_event rfl (N:=7) rfl (t:=38) (by go_simp<;>rfl) ?_;intro gt hg wt hbox hb;have BT0:=am hbox;have GBT:=am hg;have HBT:=am hb;clear hbox hb hg)|((with_reducible refine gate_store (t:=38) (p:=7) rfl ?_);refine store_block rfl rfl 38 (.tmp 7) (.tmp 13) rfl rfl rfl BT0.out rfl (by kernel_rfl) (aB rfl) ?_;intro wn hbox hg;have BT:=am hbox;have hbx:=pw_below_grown HBT.out _ HBT.out.size hg (fun z hz=>by cases hz;exact Nat.le_of_eq GBT.out.symm);clear BT0 HBT hbox hg;replace BP:=am (zb8 BP.out hbx);replace BS:=am (zb8 BS.out hbx);replace HB:=am (below_step HB.out hbx);clear hbx BPc BSc;have BPc:=zc8 BP.out;have BSc:=zc8 BS.out;have BTc:=zc8 BT.out))
     refine st9 (n:=33) (S:=fun W=>W.heap[gp]? = some (.cells #[.slice Ac p.cells.length cc,.slice (some ⟨bb,ob,none⟩) p.bodies.length cb] 48 (0,0))/\W.heap[gs]? = some (.cells #[.slice A0 s.cells.length c0,.slice (some ⟨b,o,none⟩) s.tasks.length c1,.int .i64 s.clock,.slice A3 s.log.length c3] 27 (0,0))/\W.heap[gt]? = some (.cells #[.int .i64 t.body,.int .i64 t.pc,.int .i64 t.up,.slice B3 t.regs.length d3,.int .i64 t.way,.int .i64 t.stage,.int .i64 t.at_,.int .i64 t.since,.slice B8 t.old.length d8,.slice B9 t.reads.length d9,.slice B10 t.puts.length d10,.int .i64 t.when_,.int .i64 t.from_] 38 (0,0))/\W.cell? ⟨bb,ob+kb,none⟩=some (.slice Aa na ca)) (ds:= []) (by kernel_rfl) rfl ⟨blk_drew BP.out,blk_drew BS.out,blk_drew BT.out,(show wn.cell? ⟨bb,ob+kb,none⟩=_ from cellB HB.out P2.out)⟩ (fun hHeld=> ?_);have hb:=below_drew (Below.refl wn.heap.size wn);generalize wn.drew=w7 at hb hHeld ⊢;have HB7:=am (below_step HB.out hb);clear hb HB BP BS BT BPc BSc BTc;refine ba9 (fuel:=27) (n:=6) [0,1,2,3,4,5] (by kernel_rfl) (fun N _ _ _ _ h=>by cases N <;> exact h) hHeld ?_
     iterate 6 (
      refine stillS_step (v:= ?_) (a':= ?_) rfl (Or.inl ⟨by rfl, ?_⟩) ?_ ?_;rotate_left
      ·rintro W ⟨s0,s1,s2,s3⟩
       have t0:=zc8 s0;have t1:=zc8 s1;have t2:=zc8 s2;clear s0 s1 s2;go_simp;with_reducible rfl
      rotate_left
      ·simp only [Act.put,sA,sZ,sS,i64_w]
       rfl)
     refine stillS_nil ?_;refine on9 (i:=6) (N:=some 20) rfl rfl (by kernel_rfl) (by decide) (fun K hK=> ?_);refine goes_ Try.func50 (by kernel_rfl) rfl #[.int .i64 t.body,.int .i64 0,.int .i64 (wrap64 ((p.bodies.length:Int) - 1))] (by rfl) rfl rfl (by (try simp only [List.map_toArray,List.map_cons,List.map_nil]);first | done | rfl) ?_;refine (l6In_calls t.body 0 (wrap64 ((p.bodies.length:Int) - 1)) _).mono ?_;rw [w5,H1.out];rintro e9 wn ⟨rfl,rfl⟩;refine ⟨_,rfl, ?_⟩;refine hK.out _ _ hHeld (fun hHeld=> ?_);clear hK K;refine norm_ (a':= ?_) ?_ ?_;rotate_left
     ·show Act.put _ (some 20) _=_
      simp only [Act.put,sA,sZ,sS,i64_w];rfl
     refine ba9 (fuel:=15) (n:=11) [7,8,9,10,11,12,13,14,15,16,17] (by kernel_rfl) (fun N _ _ _ _ h=>by cases N <;> exact h) hHeld ?_
     iterate 11 (
      refine stillS_step (v:= ?_) (a':= ?_) rfl (Or.inl ⟨by rfl, ?_⟩) ?_ ?_;rotate_left
      ·rintro W ⟨s0,s1,s2,s3⟩
       have t0:=zc8 s0;have t1:=zc8 s1;have t2:=zc8 s2;clear s0 s1 s2;go_simp;with_reducible rfl
      rotate_left
      ·simp only [Act.put,sA,sZ,sS,i64_w]
       rfl)
     refine stillS_nil ?_;refine on9 (i:=18) (N:=some 32) rfl rfl (by kernel_rfl) (by decide) (fun K hK=> ?_);refine goes_ Try.func50 (by kernel_rfl) rfl #[.int .i64 t.pc,.int .i64 0,.int .i64 (na:Int)] (by rfl) rfl rfl (by (try simp only [List.map_toArray,List.map_cons,List.map_nil]);first | done | rfl) ?_;refine (l6In_calls t.pc 0 (na:Int) _).mono ?_;rw [H2.out];rintro e9 wn ⟨rfl,rfl⟩;refine ⟨_,rfl, ?_⟩;refine hK.out _ _ hHeld (fun hHeld=> ?_);clear hK K;refine norm_ (a':= ?_) ?_ ?_;rotate_left
     ·show Act.put _ (some 32) _=_
      simp only [Act.put,sA,sZ,sS,i64_w];rfl
     refine ba9 (fuel:=9) (n:=5) [19,20,21,22,23] (by kernel_rfl) (fun N _ _ _ _ h=>by cases N <;> exact h) hHeld ?_
     iterate 5 (
      refine stillS_step (v:= ?_) (a':= ?_) rfl (Or.inl ⟨by rfl, ?_⟩) ?_ ?_;rotate_left
      ·rintro W ⟨s0,s1,s2,s3⟩
       have t0:=zc8 s0;have t1:=zc8 s1;have t2:=zc8 s2;clear s0 s1 s2;go_simp;with_reducible rfl
      rotate_left
      ·simp only [Act.put,sA,sZ,sS,i64_w]
       rfl)
     refine stillS_nil ?_;refine on9 (i:=24) (N:=some 38) rfl rfl (by kernel_rfl) (by decide) (fun K hK=> ?_);refine goes_ Try.func50 (by kernel_rfl) rfl #[.int .i64 t.way,.int .i64 0,.int .i64 4] (by rfl) rfl rfl (by (try simp only [List.map_toArray,List.map_cons,List.map_nil]);first | done | rfl) ?_;refine (l6In_calls t.way 0 4 _).mono ?_;rw [H3.out];rintro e9 wn ⟨rfl,rfl⟩;refine ⟨_,rfl, ?_⟩;refine hK.out _ _ hHeld (fun hHeld=> ?_);clear hK K;refine norm_ (a':= ?_) ?_ ?_;rotate_left
     ·show Act.put _ (some 38) _=_
      simp only [Act.put,sA,sZ,sS,i64_w];rfl
     refine ba9 (fuel:=3) (n:=5) [25,26,27,28,29] (by kernel_rfl) (fun N _ _ _ _ h=>by cases N <;> exact h) hHeld ?_
     iterate 5 (
      refine stillS_step (v:= ?_) (a':= ?_) rfl (Or.inl ⟨by rfl, ?_⟩) ?_ ?_;rotate_left
      ·rintro W ⟨s0,s1,s2,s3⟩
       have t0:=zc8 s0;have t1:=zc8 s1;have t2:=zc8 s2;clear s0 s1 s2;go_simp;with_reducible rfl
      rotate_left
      ·simp only [Act.put,sA,sZ,sS,i64_w]
       rfl)
     refine stillS_nil ?_;refine on9 (i:=30) (N:=some 44) rfl rfl (by kernel_rfl) (by decide) (fun K hK=> ?_);refine goes_ Try.func50 (by kernel_rfl) rfl #[.int .i64 t.stage,.int .i64 0,.int .i64 5] (by rfl) rfl rfl (by (try simp only [List.map_toArray,List.map_cons,List.map_nil]);first | done | rfl) ?_;refine (l6In_calls t.stage 0 5 _).mono ?_;rw [H4.out];rintro e9 wn ⟨rfl,rfl⟩;refine ⟨_,rfl, ?_⟩;refine hK.out _ _ hHeld (fun hHeld=> ?_);clear hK K;refine norm_ (a':= ?_) ?_ ?_;rotate_left
     ·show Act.put _ (some 44) _=_
      simp only [Act.put,sA,sZ,sS,i64_w];rfl
     refine ba9 (fuel:=0) (n:=2) [31,32] (by kernel_rfl) (fun N _ _ _ _ h=>by cases N <;> exact h) hHeld ?_
     iterate 2 (
      refine stillS_step (v:= ?_) (a':= ?_) rfl (Or.inl ⟨by rfl, ?_⟩) ?_ ?_;rotate_left
      ·rintro W ⟨s0,s1,s2,s3⟩
       have t0:=zc8 s0;have t1:=zc8 s1;have t2:=zc8 s2;clear s0 s1 s2;go_simp;with_reducible rfl
      rotate_left
      ·simp only [Act.put,sA,sZ,sS,i64_w]
       rfl)
     refine stillS_nil ?_;refine done_ (by kernel_rfl) ?_;have BP:=am hHeld.1;have BS:=am hHeld.2.1;have BT:=am hHeld.2.2.1;have HB:=HB7;clear hHeld HB7;have BPc:=zc8 BP.out;have BSc:=zc8 BS.out;have BTc:=zc8 BT.out;go_wp2;go_ret
     have hr:taskOk p s i=false:=by
      rw [HU.out,show inB t.body 0 ((p.bodies.length:Int) - 1)=true from H1.out,v4,<-HNA.out,show inB t.pc 0 (na:Int)=true from H2.out,show inB t.way 0 4=true from H3.out,show inB t.stage 0 5=false from H4.out];simp only [Bool.true_and,Bool.false_and,Bool.and_false,Bool.or_true,Bool.true_or,Bool.or_false,Bool.false_or,Bool.not_true,Bool.not_false,Bool.and_self,Bool.and_true,Bool.or_self]
     rw [hr]
     exact ⟨rfl,HB.out⟩
    | true=>
     cases hx2
theorem l12Task_yy (p:Prog) (ps:List Value) (s:Sys) (ss:List Value) (i:Nat) (w:World) (hp:kProg.K w p ps) (hs:kSys.K w s ss) (hz:ProgSz p) (hi:i < s.tasks.length) (hn:s.tasks.length<=1048576) (hm:s.cells.length<=1048576) (hl:s.log.length<=1048576) (hc0:0<=s.clock) (hc1:s.clock<=200) (hsz:(taskAt s.tasks i).regs.length<=1048576/\(taskAt s.tasks i).old.length<=1048576/\(taskAt s.tasks i).reads.length<=1048576/\(taskAt s.tasks i).puts.length<=1048576) (hx:(inB (taskAt s.tasks i).body 0 ((p.bodies.length:Int) - 1) && inB (taskAt s.tasks i).pc 0 ((actsAt p.bodies (taskAt s.tasks i).body.toNat).length) && inB (taskAt s.tasks i).way 0 4 && inB (taskAt s.tasks i).stage 0 5)=true) (wayx:(taskAt s.tasks i).way=0) (stx:(taskAt s.tasks i).stage=0):
  Calls Try.prog 57 #[.agg ps.toArray,.agg ss.toArray,.int .i64 i] w fun e w'=>e= .returned (.bool (taskOk p s i))/\Below w.heap.size w w':=by
 have HPK:=am hp;have HSK:=am hs;have HPZ:=am hz;obtain ⟨Ac,cc,Ab,cb,rfl,-,-,-,gb⟩:=kProg_open hp;obtain ⟨A0,c0,A1,c1,A3,c3,rfl,-,-,-,g1,-⟩:=kSys_open hs;have GB:=am gb;obtain ⟨b,o,cs,rfl,hcl,hK,hcc,-⟩:=C_field g1 zTask i hi (by decide);obtain ⟨t,ht⟩:∃ x,x=taskAt s.tasks i:=⟨_,rfl⟩;rw [<-ht] at hsz hx wayx stx;rw [show s.tasks.getD i zTask=t from ht.symm] at hK;have HKT0:=am hK;obtain ⟨B3,d3,B8,d8,B9,d9,B10,d10,rfl,-,g3,-,g8,-,g9,-,g10⟩:=kTask_open hK;have HKT:=HKT0;have HC:=am hcc;have R3:=am g3;have R8:=am g8;have R9:=am g9;have R10:=am g10;have HZ3:=am hsz.1;have HZ8:=am hsz.2.1;have HZ9:=am hsz.2.2.1;have HZ10:=am hsz.2.2.2;have TX:=am ht;have HU:Aside0 (taskOk p s i=(inB t.body 0 (p.bodies.length - 1) && inB t.pc 0 (actsAt p.bodies t.body.toNat).length && inB t.way 0 4 && inB t.stage 0 5 && (decide (t.way=0) || decide (t.stage=0)) && numsOk t.regs 3 && numsOk t.old 3 && listOk t.reads s.cells.length && listOk t.puts s.cells.length && (!decide (t.stage=0) || (decide (t.at_=0) && decide (t.reads.length+t.puts.length=0))) && timesOk t s && upsOk s i && wayOk p s i)):=⟨by rw [ht];rfl⟩;have q0:(0:Int)<=(i:Int):=by omega
 have q1:(i:Int) < (s.tasks.length:Int):=by omega
 have w5:wrap64 ((p.bodies.length:Int) - 1)=(p.bodies.length:Int) - 1:=by have:=hz.bodies;unfold wrap64;omega
 clear hp hs gb g1 g3 g8 g9 g10 hcl hK hcc ht HKT0 hz hsz;simp only [Bool.and_eq_true] at hx;have H1:Aside0 ((decide ((0:Int)<=t.body) && decide (t.body<=((p.bodies.length:Int) - 1)))=true):=⟨hx.1.1.1⟩;have H3:Aside0 ((decide ((0:Int)<=t.way) && decide (t.way<=4))=true):=⟨hx.1.2⟩;have H4:Aside0 ((decide ((0:Int)<=t.stage) && decide (t.stage<=5))=true):=⟨hx.2⟩;obtain ⟨bN3,hbN3⟩:∃ x,numsOk t.regs 3=x:=⟨_,rfl⟩;have N3:=am hbN3;clear hbN3;obtain ⟨bN8,hbN8⟩:∃ x,numsOk t.old 3=x:=⟨_,rfl⟩;have N8:=am hbN8;clear hbN8;obtain ⟨bL9,hbL9⟩:∃ x,listOk t.reads s.cells.length=x:=⟨_,rfl⟩;have L9:=am hbL9;clear hbL9;obtain ⟨bL10,hbL10⟩:∃ x,listOk t.puts s.cells.length=x:=⟨_,rfl⟩;have L10:=am hbL10;clear hbL10;obtain ⟨bTM,hbTM⟩:∃ x,timesOk t s=x:=⟨_,rfl⟩;have TM:=am hbTM;clear hbTM;obtain ⟨bUP,hbUP⟩:∃ x,upsOk s i=x:=⟨_,rfl⟩;have UP:=am hbUP;clear hbUP;obtain ⟨bAC,hbAC⟩:∃ x,wayOk p s i=x:=⟨_,rfl⟩;have AC:=am hbAC;clear hbAC;have hbb:=inB_iff.1 (show inB t.body 0 ((p.bodies.length:Int) - 1)=true from H1.out);have hb0:0<=t.body:=hbb.1;have hb1:t.body < p.bodies.length:=by omega
 clear hbb;obtain ⟨kb,hkb0⟩:=Int.eq_ofNat_of_zero_le hb0;have hkb:kb < p.bodies.length:=by omega
 have v4:t.body.toNat=kb:=by omega
 obtain ⟨bb,ob,cs2,rfl,hcl2,hK2,hcc2,-⟩:=C_field GB.out ([]:List Act) kb hkb (by decide);obtain ⟨Aa,ca,rfl,la,-⟩:=hK2;have p2:=hcc2 0 _ rfl;simp only [show (Kd.slice 108 kAct).sz=1 from rfl,Nat.mul_one,Nat.add_zero] at p2;rw [show (p.bodies.getD kb []).length=(actsAt p.bodies kb).length from rfl] at p2;have P2:=am p2;obtain ⟨na,hna⟩:∃ x,x=(actsAt p.bodies kb).length:=⟨_,rfl⟩;have hnl:na<=1048576:=by rw [hna,actsAt_eq hkb];exact (HPZ.out.acts _ (List.getElem_mem hkb)).1
 rw [<-hna] at P2;have HNA:=am hna;clear hcl2 hcc2 p2 la hna hkb0;have h2:inB t.pc 0 (na:Int)=true:=by rw [HNA.out,<-v4];exact hx.1.1.2
 have hp0:0<=t.pc:=(inB_iff.1 h2).1;have H2:Aside0 ((decide ((0:Int)<=t.pc) && decide (t.pc<=(na:Int)))=true):=⟨h2⟩;clear h2 hx;have yway:(t.way != 0)=false:=by simp [wayx]
 have WY:=am (decide_eq_true wayx);clear wayx;have SX0:=am stx;clear stx;go_enter Try.func57,Try.ntmps57
 go_wp2_with (first
 |((with_reducible refine gate_dst (N:=3) rfl ?_);refine box_event rfl (N:=3) rfl (t:=48) (by go_simp<;>rfl) ?_;intro gp hg w3 hbox hb;have BP:=am hbox;clear hbox hg;have HB2:=am hb;clear hb;have HB:=HB2;clear HB2;have BPc:=zc8 BP.out)
 |((with_reducible refine gate_dst (N:=4) rfl ?_);refine box_event rfl (N:=4) rfl (t:=27) (by go_simp<;>rfl) ?_;intro gs hg w4 hbox hb;have BS:=am hbox;clear hbox hg;replace BP:=am (zb8 BP.out hb);replace HB:=am (below_step HB.out hb);clear hb BPc;have BPc:=zc8 BP.out;have BSc:=zc8 BS.out)
 |((with_reducible refine gate_dst (N:=13) rfl ?_);refine wpList_load_mid rfl 38 (.tmp 12) rfl b (o+i*13) rfl _ _ (fun j u hu=>cellB HB.out (HC.out j u hu)) Try.underlying38 rfl (by kernel_rfl) ?_)|((with_reducible refine gate_dst (N:=7) rfl ?_);refine box_event rfl (N:=7) rfl (t:=38) (by go_simp<;>rfl) ?_;intro gt hg wt hbox hb;have BT0:=am hbox;have GBT:=am hg;have HBT:=am hb;clear hbox hb hg)|((with_reducible refine gate_store (t:=38) (p:=7) rfl ?_);refine store_block rfl rfl 38 (.tmp 7) (.tmp 13) rfl rfl rfl BT0.out rfl (by kernel_rfl) (aB rfl) ?_;intro wn hbox hg;have BT:=am hbox;have hbx:=pw_below_grown HBT.out _ HBT.out.size hg (fun z hz=>by cases hz;exact Nat.le_of_eq GBT.out.symm);clear BT0 HBT hbox hg;replace BP:=am (zb8 BP.out hbx);replace BS:=am (zb8 BS.out hbx);replace HB:=am (below_step HB.out hbx);clear hbx BPc BSc;have BPc:=zc8 BP.out;have BSc:=zc8 BS.out;have BTc:=zc8 BT.out))
 refine st9 (n:=33) (S:=fun W=>W.heap[gp]? = some (.cells #[.slice Ac p.cells.length cc,.slice (some ⟨bb,ob,none⟩) p.bodies.length cb] 48 (0,0))/\W.heap[gs]? = some (.cells #[.slice A0 s.cells.length c0,.slice (some ⟨b,o,none⟩) s.tasks.length c1,.int .i64 s.clock,.slice A3 s.log.length c3] 27 (0,0))/\W.heap[gt]? = some (.cells #[.int .i64 t.body,.int .i64 t.pc,.int .i64 t.up,.slice B3 t.regs.length d3,.int .i64 t.way,.int .i64 t.stage,.int .i64 t.at_,.int .i64 t.since,.slice B8 t.old.length d8,.slice B9 t.reads.length d9,.slice B10 t.puts.length d10,.int .i64 t.when_,.int .i64 t.from_] 38 (0,0))/\W.cell? ⟨bb,ob+kb,none⟩=some (.slice Aa na ca)) (ds:= []) (by kernel_rfl) rfl ⟨blk_drew BP.out,blk_drew BS.out,blk_drew BT.out,(show wn.cell? ⟨bb,ob+kb,none⟩=_ from cellB HB.out P2.out)⟩ (fun hHeld=> ?_);have hb:=below_drew (Below.refl wn.heap.size wn);generalize wn.drew=w7 at hb hHeld ⊢;have HB7:=am (below_step HB.out hb);clear hb HB BP BS BT BPc BSc BTc;refine ba9 (fuel:=27) (n:=6) [0,1,2,3,4,5] (by kernel_rfl) (fun N _ _ _ _ h=>by cases N <;> exact h) hHeld ?_
 iterate 6 (
  refine stillS_step (v:= ?_) (a':= ?_) rfl (Or.inl ⟨by rfl, ?_⟩) ?_ ?_;rotate_left
  ·rintro W ⟨s0,s1,s2,s3⟩
   have t0:=zc8 s0;have t1:=zc8 s1;have t2:=zc8 s2;clear s0 s1 s2;go_simp;with_reducible rfl
  rotate_left
  ·simp only [Act.put,sA,sZ,sS,i64_w]
   rfl)
 refine stillS_nil ?_;refine on9 (i:=6) (N:=some 20) rfl rfl (by kernel_rfl) (by decide) (fun K hK=> ?_);refine goes_ Try.func50 (by kernel_rfl) rfl #[.int .i64 t.body,.int .i64 0,.int .i64 (wrap64 ((p.bodies.length:Int) - 1))] (by rfl) rfl rfl (by (try simp only [List.map_toArray,List.map_cons,List.map_nil]);first | done | rfl) ?_;refine (l6In_calls t.body 0 (wrap64 ((p.bodies.length:Int) - 1)) _).mono ?_;rw [w5,H1.out];rintro e9 wn ⟨rfl,rfl⟩;refine ⟨_,rfl, ?_⟩;refine hK.out _ _ hHeld (fun hHeld=> ?_);clear hK K;refine norm_ (a':= ?_) ?_ ?_;rotate_left
 ·show Act.put _ (some 20) _=_
  simp only [Act.put,sA,sZ,sS,i64_w];rfl
 refine ba9 (fuel:=15) (n:=11) [7,8,9,10,11,12,13,14,15,16,17] (by kernel_rfl) (fun N _ _ _ _ h=>by cases N <;> exact h) hHeld ?_
 iterate 11 (
  refine stillS_step (v:= ?_) (a':= ?_) rfl (Or.inl ⟨by rfl, ?_⟩) ?_ ?_;rotate_left
  ·rintro W ⟨s0,s1,s2,s3⟩
   have t0:=zc8 s0;have t1:=zc8 s1;have t2:=zc8 s2;clear s0 s1 s2;go_simp;with_reducible rfl
  rotate_left
  ·simp only [Act.put,sA,sZ,sS,i64_w]
   rfl)
 refine stillS_nil ?_;refine on9 (i:=18) (N:=some 32) rfl rfl (by kernel_rfl) (by decide) (fun K hK=> ?_);refine goes_ Try.func50 (by kernel_rfl) rfl #[.int .i64 t.pc,.int .i64 0,.int .i64 (na:Int)] (by rfl) rfl rfl (by (try simp only [List.map_toArray,List.map_cons,List.map_nil]);first | done | rfl) ?_;refine (l6In_calls t.pc 0 (na:Int) _).mono ?_;rw [H2.out];rintro e9 wn ⟨rfl,rfl⟩;refine ⟨_,rfl, ?_⟩;refine hK.out _ _ hHeld (fun hHeld=> ?_);clear hK K;refine norm_ (a':= ?_) ?_ ?_;rotate_left
 ·show Act.put _ (some 32) _=_
  simp only [Act.put,sA,sZ,sS,i64_w];rfl
 refine ba9 (fuel:=9) (n:=5) [19,20,21,22,23] (by kernel_rfl) (fun N _ _ _ _ h=>by cases N <;> exact h) hHeld ?_
 iterate 5 (
  refine stillS_step (v:= ?_) (a':= ?_) rfl (Or.inl ⟨by rfl, ?_⟩) ?_ ?_;rotate_left
  ·rintro W ⟨s0,s1,s2,s3⟩
   have t0:=zc8 s0;have t1:=zc8 s1;have t2:=zc8 s2;clear s0 s1 s2;go_simp;with_reducible rfl
  rotate_left
  ·simp only [Act.put,sA,sZ,sS,i64_w]
   rfl)
 refine stillS_nil ?_;refine on9 (i:=24) (N:=some 38) rfl rfl (by kernel_rfl) (by decide) (fun K hK=> ?_);refine goes_ Try.func50 (by kernel_rfl) rfl #[.int .i64 t.way,.int .i64 0,.int .i64 4] (by rfl) rfl rfl (by (try simp only [List.map_toArray,List.map_cons,List.map_nil]);first | done | rfl) ?_;refine (l6In_calls t.way 0 4 _).mono ?_;rw [H3.out];rintro e9 wn ⟨rfl,rfl⟩;refine ⟨_,rfl, ?_⟩;refine hK.out _ _ hHeld (fun hHeld=> ?_);clear hK K;refine norm_ (a':= ?_) ?_ ?_;rotate_left
 ·show Act.put _ (some 38) _=_
  simp only [Act.put,sA,sZ,sS,i64_w];rfl
 refine ba9 (fuel:=3) (n:=5) [25,26,27,28,29] (by kernel_rfl) (fun N _ _ _ _ h=>by cases N <;> exact h) hHeld ?_
 iterate 5 (
  refine stillS_step (v:= ?_) (a':= ?_) rfl (Or.inl ⟨by rfl, ?_⟩) ?_ ?_;rotate_left
  ·rintro W ⟨s0,s1,s2,s3⟩
   have t0:=zc8 s0;have t1:=zc8 s1;have t2:=zc8 s2;clear s0 s1 s2;go_simp;with_reducible rfl
  rotate_left
  ·simp only [Act.put,sA,sZ,sS,i64_w]
   rfl)
 refine stillS_nil ?_;refine on9 (i:=30) (N:=some 44) rfl rfl (by kernel_rfl) (by decide) (fun K hK=> ?_);refine goes_ Try.func50 (by kernel_rfl) rfl #[.int .i64 t.stage,.int .i64 0,.int .i64 5] (by rfl) rfl rfl (by (try simp only [List.map_toArray,List.map_cons,List.map_nil]);first | done | rfl) ?_;refine (l6In_calls t.stage 0 5 _).mono ?_;rw [H4.out];rintro e9 wn ⟨rfl,rfl⟩;refine ⟨_,rfl, ?_⟩;refine hK.out _ _ hHeld (fun hHeld=> ?_);clear hK K;refine norm_ (a':= ?_) ?_ ?_;rotate_left
 ·show Act.put _ (some 44) _=_
  simp only [Act.put,sA,sZ,sS,i64_w];rfl
 refine ba9 (fuel:=0) (n:=2) [31,32] (by kernel_rfl) (fun N _ _ _ _ h=>by cases N <;> exact h) hHeld ?_
 iterate 2 (
  refine stillS_step (v:= ?_) (a':= ?_) rfl (Or.inl ⟨by rfl, ?_⟩) ?_ ?_;rotate_left
  ·rintro W ⟨s0,s1,s2,s3⟩
   have t0:=zc8 s0;have t1:=zc8 s1;have t2:=zc8 s2;clear s0 s1 s2;go_simp;with_reducible rfl
  rotate_left
  ·simp only [Act.put,sA,sZ,sS,i64_w]
   rfl)
 refine stillS_nil ?_;refine done_ (by kernel_rfl) ?_;have BP:=am hHeld.1;have BS:=am hHeld.2.1;have BT:=am hHeld.2.2.1;have HB:=HB7;clear hHeld HB7;have BPc:=zc8 BP.out;have BSc:=zc8 BS.out;have BTc:=zc8 BT.out;have stx:=SX0.out;clear SX0;have yst:(t.stage != 0)=false:=by simp [stx]
 have WS:Aside0 ((decide (t.way=0) || decide (t.stage=0))=true):=⟨by simp [stx]⟩;have SX:=am (decide_eq_true stx);clear stx
 cases bN3 with
 | false=>
  go_wp2_with (first
  |(go_at_call 91;refine (l2Nums_calls _ _ _ 3 _ (by first|exact Kd.C_below R3.out HB.out | exact Kd.C_below R8.out HB.out) (by first|exact HZ3.out | exact HZ8.out)).mono ?_;(first|rw [N3.out]);rintro e w9 ⟨rfl,rfl⟩))
  go_ret
  have hr:taskOk p s i=false:=by
   rw [HU.out,show inB t.body 0 ((p.bodies.length:Int) - 1)=true from H1.out,v4,<-HNA.out,show inB t.pc 0 (na:Int)=true from H2.out,show inB t.way 0 4=true from H3.out,show inB t.stage 0 5=true from H4.out,WS.out,N3.out];simp only [Bool.true_and,Bool.false_and,Bool.and_false,Bool.or_true,Bool.true_or,Bool.or_false,Bool.false_or,Bool.not_true,Bool.not_false,Bool.and_self,Bool.and_true,Bool.or_self]
  rw [hr]
  exact ⟨rfl,HB.out⟩
 | true=>
  cases bN8 with
  | false=>
   go_wp2_with (first
   |(go_at_call 91;refine (l2Nums_calls _ _ _ 3 _ (by first|exact Kd.C_below R3.out HB.out | exact Kd.C_below R8.out HB.out) (by first|exact HZ3.out | exact HZ8.out)).mono ?_;(first|rw [N3.out] | rw [N8.out]);rintro e w9 ⟨rfl,rfl⟩))
   go_ret
   have hr:taskOk p s i=false:=by
    rw [HU.out,show inB t.body 0 ((p.bodies.length:Int) - 1)=true from H1.out,v4,<-HNA.out,show inB t.pc 0 (na:Int)=true from H2.out,show inB t.way 0 4=true from H3.out,show inB t.stage 0 5=true from H4.out,WS.out,N3.out,N8.out];simp only [Bool.true_and,Bool.false_and,Bool.and_false,Bool.or_true,Bool.true_or,Bool.or_false,Bool.false_or,Bool.not_true,Bool.not_false,Bool.and_self,Bool.and_true,Bool.or_self]
   rw [hr]
   exact ⟨rfl,HB.out⟩
  | true=>
   cases bL9 with
   | false=>
    go_wp2_with (first
    |(go_at_call 91;refine (l2Nums_calls _ _ _ 3 _ (by first|exact Kd.C_below R3.out HB.out | exact Kd.C_below R8.out HB.out) (by first|exact HZ3.out | exact HZ8.out)).mono ?_;(first|rw [N3.out] | rw [N8.out]);rintro e w9 ⟨rfl,rfl⟩)
    |(go_at_call 92;refine (l12List_calls _ _ _ _ _ (by first|exact Kd.C_below R9.out HB.out | exact Kd.C_below R10.out HB.out) (by first|exact HZ9.out | exact HZ10.out) (by omega) (by omega)).mono ?_;(first|rw [L9.out]);rintro e w9 ⟨rfl,hb⟩;replace BP:=am (zb8 BP.out hb);replace BS:=am (zb8 BS.out hb);replace BT:=am (zb8 BT.out hb);replace HB:=am (below_step HB.out hb);clear hb BPc BSc BTc;have BPc:=zc8 BP.out;have BSc:=zc8 BS.out;have BTc:=zc8 BT.out))
    go_ret
    have hr:taskOk p s i=false:=by
     rw [HU.out,show inB t.body 0 ((p.bodies.length:Int) - 1)=true from H1.out,v4,<-HNA.out,show inB t.pc 0 (na:Int)=true from H2.out,show inB t.way 0 4=true from H3.out,show inB t.stage 0 5=true from H4.out,WS.out,N3.out,N8.out,L9.out];simp only [Bool.true_and,Bool.false_and,Bool.and_false,Bool.or_true,Bool.true_or,Bool.or_false,Bool.false_or,Bool.not_true,Bool.not_false,Bool.and_self,Bool.and_true,Bool.or_self]
    rw [hr]
    exact ⟨rfl,HB.out⟩
   | true=>
    cases bL10 with
    | false=>
     go_wp2_with (first
     |(go_at_call 91;refine (l2Nums_calls _ _ _ 3 _ (by first|exact Kd.C_below R3.out HB.out | exact Kd.C_below R8.out HB.out) (by first|exact HZ3.out | exact HZ8.out)).mono ?_;(first|rw [N3.out] | rw [N8.out]);rintro e w9 ⟨rfl,rfl⟩)
     |(go_at_call 92;refine (l12List_calls _ _ _ _ _ (by first|exact Kd.C_below R9.out HB.out | exact Kd.C_below R10.out HB.out) (by first|exact HZ9.out | exact HZ10.out) (by omega) (by omega)).mono ?_;(first|rw [L9.out] | rw [L10.out]);rintro e w9 ⟨rfl,hb⟩;replace BP:=am (zb8 BP.out hb);replace BS:=am (zb8 BS.out hb);replace BT:=am (zb8 BT.out hb);replace HB:=am (below_step HB.out hb);clear hb BPc BSc BTc;have BPc:=zc8 BP.out;have BSc:=zc8 BS.out;have BTc:=zc8 BT.out))
     go_ret
     have hr:taskOk p s i=false:=by
      rw [HU.out,show inB t.body 0 ((p.bodies.length:Int) - 1)=true from H1.out,v4,<-HNA.out,show inB t.pc 0 (na:Int)=true from H2.out,show inB t.way 0 4=true from H3.out,show inB t.stage 0 5=true from H4.out,WS.out,N3.out,N8.out,L9.out,L10.out];simp only [Bool.true_and,Bool.false_and,Bool.and_false,Bool.or_true,Bool.true_or,Bool.or_false,Bool.false_or,Bool.not_true,Bool.not_false,Bool.and_self,Bool.and_true,Bool.or_self]
     rw [hr]
     exact ⟨rfl,HB.out⟩
    | true=>
     by_cases atx:t.at_=0
     ·have yat:(t.at_ == 0)=true:=by simp [atx]
      have AT:=am (decide_eq_true atx);clear atx;have zz:wrap64 ((t.reads.length:Int)+(t.puts.length:Int))=(t.reads.length:Int)+(t.puts.length:Int):=by have:=HZ9.out;have:=HZ10.out;unfold wrap64;omega
      by_cases sux:t.reads.length+t.puts.length=0
      ·have ysu:((t.reads.length:Int)+(t.puts.length:Int) == 0)=true:=by simp;omega
       have SU:=am (decide_eq_true sux);clear sux
       cases bTM with
       | false=>
        go_wp2_with (first
        |(go_at_call 91;refine (l2Nums_calls _ _ _ 3 _ (by first|exact Kd.C_below R3.out HB.out | exact Kd.C_below R8.out HB.out) (by first|exact HZ3.out | exact HZ8.out)).mono ?_;(first|rw [N3.out] | rw [N8.out]);rintro e w9 ⟨rfl,rfl⟩)
        |(go_at_call 92;refine (l12List_calls _ _ _ _ _ (by first|exact Kd.C_below R9.out HB.out | exact Kd.C_below R10.out HB.out) (by first|exact HZ9.out | exact HZ10.out) (by omega) (by omega)).mono ?_;(first|rw [L9.out] | rw [L10.out]);rintro e w9 ⟨rfl,hb⟩;replace BP:=am (zb8 BP.out hb);replace BS:=am (zb8 BS.out hb);replace BT:=am (zb8 BT.out hb);replace HB:=am (below_step HB.out hb);clear hb BPc BSc BTc;have BPc:=zc8 BP.out;have BSc:=zc8 BS.out;have BTc:=zc8 BT.out)
        |((with_reducible refine gate_dst (N:=105) rfl ?_);refine wpList_load_mid rfl 38 (.tmp 7) rfl gt 0 rfl _ _ (lC BT.out) Try.underlying38 rfl (by kernel_rfl) ?_)
        |((with_reducible refine gate_dst (N:=106) rfl ?_);refine wpList_load_mid rfl 27 (.tmp 4) rfl gs 0 rfl _ _ (lC BS.out) Try.underlying27 rfl (by kernel_rfl) ?_)
        |((with_reducible refine gate_dst (N:=110) rfl ?_);refine wpList_load_mid rfl 27 (.tmp 4) rfl gs 0 rfl _ _ (lC BS.out) Try.underlying27 rfl (by kernel_rfl) ?_)
        |((with_reducible refine gate_dst (N:=115) rfl ?_);refine wpList_load_mid rfl 48 (.tmp 3) rfl gp 0 rfl _ _ (lC BP.out) Try.underlying48 rfl (by kernel_rfl) ?_)
        |((with_reducible refine gate_dst (N:=116) rfl ?_);refine wpList_load_mid rfl 27 (.tmp 4) rfl gs 0 rfl _ _ (lC BS.out) Try.underlying27 rfl (by kernel_rfl) ?_)
        |(go_at_call 93;refine (l12Times_calls t s _ _ _ (kTask.K_below HB.out HKT.out) (kSys.K_below HB.out HSK.out) hc0 hc1 hl).mono ?_;rw [TM.out];rintro e w9 ⟨rfl,hb⟩;replace BP:=am (zb8 BP.out hb);replace BS:=am (zb8 BS.out hb);replace BT:=am (zb8 BT.out hb);replace HB:=am (below_step HB.out hb);clear hb BPc BSc BTc;have BPc:=zc8 BP.out;have BSc:=zc8 BS.out;have BTc:=zc8 BT.out))
        go_ret
        have hr:taskOk p s i=false:=by
         rw [HU.out,show inB t.body 0 ((p.bodies.length:Int) - 1)=true from H1.out,v4,<-HNA.out,show inB t.pc 0 (na:Int)=true from H2.out,show inB t.way 0 4=true from H3.out,show inB t.stage 0 5=true from H4.out,WS.out,N3.out,N8.out,L9.out,L10.out,SX.out,AT.out,SU.out,TM.out];simp only [Bool.true_and,Bool.false_and,Bool.and_false,Bool.or_true,Bool.true_or,Bool.or_false,Bool.false_or,Bool.not_true,Bool.not_false,Bool.and_self,Bool.and_true,Bool.or_self]
        rw [hr]
        exact ⟨rfl,HB.out⟩
       | true=>
        cases bUP with
        | false=>
         go_wp2_with (first
         |(go_at_call 91;refine (l2Nums_calls _ _ _ 3 _ (by first|exact Kd.C_below R3.out HB.out | exact Kd.C_below R8.out HB.out) (by first|exact HZ3.out | exact HZ8.out)).mono ?_;(first|rw [N3.out] | rw [N8.out]);rintro e w9 ⟨rfl,rfl⟩)
         |(go_at_call 92;refine (l12List_calls _ _ _ _ _ (by first|exact Kd.C_below R9.out HB.out | exact Kd.C_below R10.out HB.out) (by first|exact HZ9.out | exact HZ10.out) (by omega) (by omega)).mono ?_;(first|rw [L9.out] | rw [L10.out]);rintro e w9 ⟨rfl,hb⟩;replace BP:=am (zb8 BP.out hb);replace BS:=am (zb8 BS.out hb);replace BT:=am (zb8 BT.out hb);replace HB:=am (below_step HB.out hb);clear hb BPc BSc BTc;have BPc:=zc8 BP.out;have BSc:=zc8 BS.out;have BTc:=zc8 BT.out)
         |((with_reducible refine gate_dst (N:=105) rfl ?_);refine wpList_load_mid rfl 38 (.tmp 7) rfl gt 0 rfl _ _ (lC BT.out) Try.underlying38 rfl (by kernel_rfl) ?_)
         |((with_reducible refine gate_dst (N:=106) rfl ?_);refine wpList_load_mid rfl 27 (.tmp 4) rfl gs 0 rfl _ _ (lC BS.out) Try.underlying27 rfl (by kernel_rfl) ?_)
         |((with_reducible refine gate_dst (N:=110) rfl ?_);refine wpList_load_mid rfl 27 (.tmp 4) rfl gs 0 rfl _ _ (lC BS.out) Try.underlying27 rfl (by kernel_rfl) ?_)
         |((with_reducible refine gate_dst (N:=115) rfl ?_);refine wpList_load_mid rfl 48 (.tmp 3) rfl gp 0 rfl _ _ (lC BP.out) Try.underlying48 rfl (by kernel_rfl) ?_)
         |((with_reducible refine gate_dst (N:=116) rfl ?_);refine wpList_load_mid rfl 27 (.tmp 4) rfl gs 0 rfl _ _ (lC BS.out) Try.underlying27 rfl (by kernel_rfl) ?_)
         |(go_at_call 93;refine (l12Times_calls t s _ _ _ (kTask.K_below HB.out HKT.out) (kSys.K_below HB.out HSK.out) hc0 hc1 hl).mono ?_;rw [TM.out];rintro e w9 ⟨rfl,hb⟩;replace BP:=am (zb8 BP.out hb);replace BS:=am (zb8 BS.out hb);replace BT:=am (zb8 BT.out hb);replace HB:=am (below_step HB.out hb);clear hb BPc BSc BTc;have BPc:=zc8 BP.out;have BSc:=zc8 BS.out;have BTc:=zc8 BT.out)
         |(go_at_call 94;refine (l12Up_calls s _ i _ (kSys.K_below HB.out HSK.out) hi hn).mono ?_;rw [UP.out];rintro e w9 ⟨rfl,hb⟩;replace BP:=am (zb8 BP.out hb);replace BS:=am (zb8 BS.out hb);replace BT:=am (zb8 BT.out hb);replace HB:=am (below_step HB.out hb);clear hb BPc BSc BTc;have BPc:=zc8 BP.out;have BSc:=zc8 BS.out;have BTc:=zc8 BT.out))
         go_ret
         have hr:taskOk p s i=false:=by
          rw [HU.out,show inB t.body 0 ((p.bodies.length:Int) - 1)=true from H1.out,v4,<-HNA.out,show inB t.pc 0 (na:Int)=true from H2.out,show inB t.way 0 4=true from H3.out,show inB t.stage 0 5=true from H4.out,WS.out,N3.out,N8.out,L9.out,L10.out,SX.out,AT.out,SU.out,TM.out,UP.out];simp only [Bool.true_and,Bool.false_and,Bool.and_false,Bool.or_true,Bool.true_or,Bool.or_false,Bool.false_or,Bool.not_true,Bool.not_false,Bool.and_self,Bool.and_true,Bool.or_self]
         rw [hr]
         exact ⟨rfl,HB.out⟩
        | true=>
         go_wp2_with (first
         |(go_at_call 91;refine (l2Nums_calls _ _ _ 3 _ (by first|exact Kd.C_below R3.out HB.out | exact Kd.C_below R8.out HB.out) (by first|exact HZ3.out | exact HZ8.out)).mono ?_;(first|rw [N3.out] | rw [N8.out]);rintro e w9 ⟨rfl,rfl⟩)
         |(go_at_call 92;refine (l12List_calls _ _ _ _ _ (by first|exact Kd.C_below R9.out HB.out | exact Kd.C_below R10.out HB.out) (by first|exact HZ9.out | exact HZ10.out) (by omega) (by omega)).mono ?_;(first|rw [L9.out] | rw [L10.out]);rintro e w9 ⟨rfl,hb⟩;replace BP:=am (zb8 BP.out hb);replace BS:=am (zb8 BS.out hb);replace BT:=am (zb8 BT.out hb);replace HB:=am (below_step HB.out hb);clear hb BPc BSc BTc;have BPc:=zc8 BP.out;have BSc:=zc8 BS.out;have BTc:=zc8 BT.out)
         |((with_reducible refine gate_dst (N:=105) rfl ?_);refine wpList_load_mid rfl 38 (.tmp 7) rfl gt 0 rfl _ _ (lC BT.out) Try.underlying38 rfl (by kernel_rfl) ?_)
         |((with_reducible refine gate_dst (N:=106) rfl ?_);refine wpList_load_mid rfl 27 (.tmp 4) rfl gs 0 rfl _ _ (lC BS.out) Try.underlying27 rfl (by kernel_rfl) ?_)
         |((with_reducible refine gate_dst (N:=110) rfl ?_);refine wpList_load_mid rfl 27 (.tmp 4) rfl gs 0 rfl _ _ (lC BS.out) Try.underlying27 rfl (by kernel_rfl) ?_)
         |((with_reducible refine gate_dst (N:=115) rfl ?_);refine wpList_load_mid rfl 48 (.tmp 3) rfl gp 0 rfl _ _ (lC BP.out) Try.underlying48 rfl (by kernel_rfl) ?_)
         |((with_reducible refine gate_dst (N:=116) rfl ?_);refine wpList_load_mid rfl 27 (.tmp 4) rfl gs 0 rfl _ _ (lC BS.out) Try.underlying27 rfl (by kernel_rfl) ?_)
         |(go_at_call 93;refine (l12Times_calls t s _ _ _ (kTask.K_below HB.out HKT.out) (kSys.K_below HB.out HSK.out) hc0 hc1 hl).mono ?_;rw [TM.out];rintro e w9 ⟨rfl,hb⟩;replace BP:=am (zb8 BP.out hb);replace BS:=am (zb8 BS.out hb);replace BT:=am (zb8 BT.out hb);replace HB:=am (below_step HB.out hb);clear hb BPc BSc BTc;have BPc:=zc8 BP.out;have BSc:=zc8 BS.out;have BTc:=zc8 BT.out)
         |(go_at_call 94;refine (l12Up_calls s _ i _ (kSys.K_below HB.out HSK.out) hi hn).mono ?_;rw [UP.out];rintro e w9 ⟨rfl,hb⟩;replace BP:=am (zb8 BP.out hb);replace BS:=am (zb8 BS.out hb);replace BT:=am (zb8 BT.out hb);replace HB:=am (below_step HB.out hb);clear hb BPc BSc BTc;have BPc:=zc8 BP.out;have BSc:=zc8 BS.out;have BTc:=zc8 BT.out)
         |(go_at_call 95;refine (l12Act_calls p _ s _ i _ (kProg.K_below HB.out HPK.out) (kSys.K_below HB.out HSK.out) HPZ.out hi hn (by rw [<-TX.out];exact hb0) (by rw [<-TX.out];exact hb1) (by rw [<-TX.out];exact hp0) (by rw [<-TX.out];exact HZ9.out) (by rw [<-TX.out];exact HZ10.out)).mono ?_;rw [AC.out];rintro e w9 ⟨rfl,hb⟩;replace BP:=am (zb8 BP.out hb);replace BS:=am (zb8 BS.out hb);replace BT:=am (zb8 BT.out hb);replace HB:=am (below_step HB.out hb);clear hb BPc BSc BTc;have BPc:=zc8 BP.out;have BSc:=zc8 BS.out;have BTc:=zc8 BT.out))
         go_ret
         have hr:taskOk p s i=bAC:=by
          rw [HU.out,show inB t.body 0 ((p.bodies.length:Int) - 1)=true from H1.out,v4,<-HNA.out,show inB t.pc 0 (na:Int)=true from H2.out,show inB t.way 0 4=true from H3.out,show inB t.stage 0 5=true from H4.out,WS.out,N3.out,N8.out,L9.out,L10.out,SX.out,AT.out,SU.out,TM.out,UP.out,AC.out];simp only [Bool.true_and,Bool.false_and,Bool.and_false,Bool.or_true,Bool.true_or,Bool.or_false,Bool.false_or,Bool.not_true,Bool.not_false,Bool.and_self,Bool.and_true,Bool.or_self]
         rw [hr];exact ⟨rfl,HB.out⟩
      ·have ysu:((t.reads.length:Int)+(t.puts.length:Int) == 0)=false:=by simp;omega
       have SU:=am (decide_eq_false sux);clear sux
       go_wp2_with (first
       |(go_at_call 91;refine (l2Nums_calls _ _ _ 3 _ (by first|exact Kd.C_below R3.out HB.out | exact Kd.C_below R8.out HB.out) (by first|exact HZ3.out | exact HZ8.out)).mono ?_;(first|rw [N3.out] | rw [N8.out]);rintro e w9 ⟨rfl,rfl⟩)
       |(go_at_call 92;refine (l12List_calls _ _ _ _ _ (by first|exact Kd.C_below R9.out HB.out | exact Kd.C_below R10.out HB.out) (by first|exact HZ9.out | exact HZ10.out) (by omega) (by omega)).mono ?_;(first|rw [L9.out] | rw [L10.out]);rintro e w9 ⟨rfl,hb⟩;replace BP:=am (zb8 BP.out hb);replace BS:=am (zb8 BS.out hb);replace BT:=am (zb8 BT.out hb);replace HB:=am (below_step HB.out hb);clear hb BPc BSc BTc;have BPc:=zc8 BP.out;have BSc:=zc8 BS.out;have BTc:=zc8 BT.out))
       go_ret
       have hr:taskOk p s i=false:=by
        rw [HU.out,show inB t.body 0 ((p.bodies.length:Int) - 1)=true from H1.out,v4,<-HNA.out,show inB t.pc 0 (na:Int)=true from H2.out,show inB t.way 0 4=true from H3.out,show inB t.stage 0 5=true from H4.out,WS.out,N3.out,N8.out,L9.out,L10.out,SX.out,AT.out,SU.out];simp only [Bool.true_and,Bool.false_and,Bool.and_false,Bool.or_true,Bool.true_or,Bool.or_false,Bool.false_or,Bool.not_true,Bool.not_false,Bool.and_self,Bool.and_true,Bool.or_self]
       rw [hr];exact ⟨rfl,HB.out⟩
     ·have yat:(t.at_ == 0)=false:=by simp [atx]
      have AT:=am (decide_eq_false atx);clear atx
      go_wp2_with (first
      |(go_at_call 91;refine (l2Nums_calls _ _ _ 3 _ (by first|exact Kd.C_below R3.out HB.out | exact Kd.C_below R8.out HB.out) (by first|exact HZ3.out | exact HZ8.out)).mono ?_;(first|rw [N3.out] | rw [N8.out]);rintro e w9 ⟨rfl,rfl⟩)
      |(go_at_call 92;refine (l12List_calls _ _ _ _ _ (by first|exact Kd.C_below R9.out HB.out | exact Kd.C_below R10.out HB.out) (by first|exact HZ9.out | exact HZ10.out) (by omega) (by omega)).mono ?_;(first|rw [L9.out] | rw [L10.out]);rintro e w9 ⟨rfl,hb⟩;replace BP:=am (zb8 BP.out hb);replace BS:=am (zb8 BS.out hb);replace BT:=am (zb8 BT.out hb);replace HB:=am (below_step HB.out hb);clear hb BPc BSc BTc;have BPc:=zc8 BP.out;have BSc:=zc8 BS.out;have BTc:=zc8 BT.out))
      go_ret
      have hr:taskOk p s i=false:=by
       rw [HU.out,show inB t.body 0 ((p.bodies.length:Int) - 1)=true from H1.out,v4,<-HNA.out,show inB t.pc 0 (na:Int)=true from H2.out,show inB t.way 0 4=true from H3.out,show inB t.stage 0 5=true from H4.out,WS.out,N3.out,N8.out,L9.out,L10.out,SX.out,AT.out];simp only [Bool.true_and,Bool.false_and,Bool.and_false,Bool.or_true,Bool.true_or,Bool.or_false,Bool.false_or,Bool.not_true,Bool.not_false,Bool.and_self,Bool.and_true,Bool.or_self]
      rw [hr];exact ⟨rfl,HB.out⟩
theorem l12Task_yn (p:Prog) (ps:List Value) (s:Sys) (ss:List Value) (i:Nat) (w:World) (hp:kProg.K w p ps) (hs:kSys.K w s ss) (hz:ProgSz p) (hi:i < s.tasks.length) (hn:s.tasks.length<=1048576) (hm:s.cells.length<=1048576) (hl:s.log.length<=1048576) (hc0:0<=s.clock) (hc1:s.clock<=200) (hsz:(taskAt s.tasks i).regs.length<=1048576/\(taskAt s.tasks i).old.length<=1048576/\(taskAt s.tasks i).reads.length<=1048576/\(taskAt s.tasks i).puts.length<=1048576) (hx:(inB (taskAt s.tasks i).body 0 ((p.bodies.length:Int) - 1) && inB (taskAt s.tasks i).pc 0 ((actsAt p.bodies (taskAt s.tasks i).body.toNat).length) && inB (taskAt s.tasks i).way 0 4 && inB (taskAt s.tasks i).stage 0 5)=true) (wayx:(taskAt s.tasks i).way=0) (stx:¬ (taskAt s.tasks i).stage=0):
  Calls Try.prog 57 #[.agg ps.toArray,.agg ss.toArray,.int .i64 i] w fun e w'=>e= .returned (.bool (taskOk p s i))/\Below w.heap.size w w':=by
 have HPK:=am hp;have HSK:=am hs;have HPZ:=am hz;obtain ⟨Ac,cc,Ab,cb,rfl,-,-,-,gb⟩:=kProg_open hp;obtain ⟨A0,c0,A1,c1,A3,c3,rfl,-,-,-,g1,-⟩:=kSys_open hs;have GB:=am gb;obtain ⟨b,o,cs,rfl,hcl,hK,hcc,-⟩:=C_field g1 zTask i hi (by decide);obtain ⟨t,ht⟩:∃ x,x=taskAt s.tasks i:=⟨_,rfl⟩;rw [<-ht] at hsz hx wayx stx;rw [show s.tasks.getD i zTask=t from ht.symm] at hK;have HKT0:=am hK;obtain ⟨B3,d3,B8,d8,B9,d9,B10,d10,rfl,-,g3,-,g8,-,g9,-,g10⟩:=kTask_open hK;have HKT:=HKT0;have HC:=am hcc;have R3:=am g3;have R8:=am g8;have R9:=am g9;have R10:=am g10;have HZ3:=am hsz.1;have HZ8:=am hsz.2.1;have HZ9:=am hsz.2.2.1;have HZ10:=am hsz.2.2.2;have TX:=am ht;have HU:Aside0 (taskOk p s i=(inB t.body 0 (p.bodies.length - 1) && inB t.pc 0 (actsAt p.bodies t.body.toNat).length && inB t.way 0 4 && inB t.stage 0 5 && (decide (t.way=0) || decide (t.stage=0)) && numsOk t.regs 3 && numsOk t.old 3 && listOk t.reads s.cells.length && listOk t.puts s.cells.length && (!decide (t.stage=0) || (decide (t.at_=0) && decide (t.reads.length+t.puts.length=0))) && timesOk t s && upsOk s i && wayOk p s i)):=⟨by rw [ht];rfl⟩;have q0:(0:Int)<=(i:Int):=by omega
 have q1:(i:Int) < (s.tasks.length:Int):=by omega
 have w5:wrap64 ((p.bodies.length:Int) - 1)=(p.bodies.length:Int) - 1:=by have:=hz.bodies;unfold wrap64;omega
 clear hp hs gb g1 g3 g8 g9 g10 hcl hK hcc ht HKT0 hz hsz;simp only [Bool.and_eq_true] at hx;have H1:Aside0 ((decide ((0:Int)<=t.body) && decide (t.body<=((p.bodies.length:Int) - 1)))=true):=⟨hx.1.1.1⟩;have H3:Aside0 ((decide ((0:Int)<=t.way) && decide (t.way<=4))=true):=⟨hx.1.2⟩;have H4:Aside0 ((decide ((0:Int)<=t.stage) && decide (t.stage<=5))=true):=⟨hx.2⟩;obtain ⟨bN3,hbN3⟩:∃ x,numsOk t.regs 3=x:=⟨_,rfl⟩;have N3:=am hbN3;clear hbN3;obtain ⟨bN8,hbN8⟩:∃ x,numsOk t.old 3=x:=⟨_,rfl⟩;have N8:=am hbN8;clear hbN8;obtain ⟨bL9,hbL9⟩:∃ x,listOk t.reads s.cells.length=x:=⟨_,rfl⟩;have L9:=am hbL9;clear hbL9;obtain ⟨bL10,hbL10⟩:∃ x,listOk t.puts s.cells.length=x:=⟨_,rfl⟩;have L10:=am hbL10;clear hbL10;obtain ⟨bTM,hbTM⟩:∃ x,timesOk t s=x:=⟨_,rfl⟩;have TM:=am hbTM;clear hbTM;obtain ⟨bUP,hbUP⟩:∃ x,upsOk s i=x:=⟨_,rfl⟩;have UP:=am hbUP;clear hbUP;obtain ⟨bAC,hbAC⟩:∃ x,wayOk p s i=x:=⟨_,rfl⟩;have AC:=am hbAC;clear hbAC;have hbb:=inB_iff.1 (show inB t.body 0 ((p.bodies.length:Int) - 1)=true from H1.out);have hb0:0<=t.body:=hbb.1;have hb1:t.body < p.bodies.length:=by omega
 clear hbb;obtain ⟨kb,hkb0⟩:=Int.eq_ofNat_of_zero_le hb0;have hkb:kb < p.bodies.length:=by omega
 have v4:t.body.toNat=kb:=by omega
 obtain ⟨bb,ob,cs2,rfl,hcl2,hK2,hcc2,-⟩:=C_field GB.out ([]:List Act) kb hkb (by decide);obtain ⟨Aa,ca,rfl,la,-⟩:=hK2;have p2:=hcc2 0 _ rfl;simp only [show (Kd.slice 108 kAct).sz=1 from rfl,Nat.mul_one,Nat.add_zero] at p2;rw [show (p.bodies.getD kb []).length=(actsAt p.bodies kb).length from rfl] at p2;have P2:=am p2;obtain ⟨na,hna⟩:∃ x,x=(actsAt p.bodies kb).length:=⟨_,rfl⟩;have hnl:na<=1048576:=by rw [hna,actsAt_eq hkb];exact (HPZ.out.acts _ (List.getElem_mem hkb)).1
 rw [<-hna] at P2;have HNA:=am hna;clear hcl2 hcc2 p2 la hna hkb0;have h2:inB t.pc 0 (na:Int)=true:=by rw [HNA.out,<-v4];exact hx.1.1.2
 have hp0:0<=t.pc:=(inB_iff.1 h2).1;have H2:Aside0 ((decide ((0:Int)<=t.pc) && decide (t.pc<=(na:Int)))=true):=⟨h2⟩;clear h2 hx;have yway:(t.way != 0)=false:=by simp [wayx]
 have WY:=am (decide_eq_true wayx);clear wayx;have SX0:=am stx;clear stx;go_enter Try.func57,Try.ntmps57
 go_wp2_with (first
 |((with_reducible refine gate_dst (N:=3) rfl ?_);refine box_event rfl (N:=3) rfl (t:=48) (by go_simp<;>rfl) ?_;intro gp hg w3 hbox hb;have BP:=am hbox;clear hbox hg;have HB2:=am hb;clear hb;have HB:=HB2;clear HB2;have BPc:=zc8 BP.out)
 |((with_reducible refine gate_dst (N:=4) rfl ?_);refine box_event rfl (N:=4) rfl (t:=27) (by go_simp<;>rfl) ?_;intro gs hg w4 hbox hb;have BS:=am hbox;clear hbox hg;replace BP:=am (zb8 BP.out hb);replace HB:=am (below_step HB.out hb);clear hb BPc;have BPc:=zc8 BP.out;have BSc:=zc8 BS.out)
 |((with_reducible refine gate_dst (N:=13) rfl ?_);refine wpList_load_mid rfl 38 (.tmp 12) rfl b (o+i*13) rfl _ _ (fun j u hu=>cellB HB.out (HC.out j u hu)) Try.underlying38 rfl (by kernel_rfl) ?_)|((with_reducible refine gate_dst (N:=7) rfl ?_);refine box_event rfl (N:=7) rfl (t:=38) (by go_simp<;>rfl) ?_;intro gt hg wt hbox hb;have BT0:=am hbox;have GBT:=am hg;have HBT:=am hb;clear hbox hb hg)|((with_reducible refine gate_store (t:=38) (p:=7) rfl ?_);refine store_block rfl rfl 38 (.tmp 7) (.tmp 13) rfl rfl rfl BT0.out rfl (by kernel_rfl) (aB rfl) ?_;intro wn hbox hg;have BT:=am hbox;have hbx:=pw_below_grown HBT.out _ HBT.out.size hg (fun z hz=>by cases hz;exact Nat.le_of_eq GBT.out.symm);clear BT0 HBT hbox hg;replace BP:=am (zb8 BP.out hbx);replace BS:=am (zb8 BS.out hbx);replace HB:=am (below_step HB.out hbx);clear hbx BPc BSc;have BPc:=zc8 BP.out;have BSc:=zc8 BS.out;have BTc:=zc8 BT.out))
 refine st9 (n:=33) (S:=fun W=>W.heap[gp]? = some (.cells #[.slice Ac p.cells.length cc,.slice (some ⟨bb,ob,none⟩) p.bodies.length cb] 48 (0,0))/\W.heap[gs]? = some (.cells #[.slice A0 s.cells.length c0,.slice (some ⟨b,o,none⟩) s.tasks.length c1,.int .i64 s.clock,.slice A3 s.log.length c3] 27 (0,0))/\W.heap[gt]? = some (.cells #[.int .i64 t.body,.int .i64 t.pc,.int .i64 t.up,.slice B3 t.regs.length d3,.int .i64 t.way,.int .i64 t.stage,.int .i64 t.at_,.int .i64 t.since,.slice B8 t.old.length d8,.slice B9 t.reads.length d9,.slice B10 t.puts.length d10,.int .i64 t.when_,.int .i64 t.from_] 38 (0,0))/\W.cell? ⟨bb,ob+kb,none⟩=some (.slice Aa na ca)) (ds:= []) (by kernel_rfl) rfl ⟨blk_drew BP.out,blk_drew BS.out,blk_drew BT.out,(show wn.cell? ⟨bb,ob+kb,none⟩=_ from cellB HB.out P2.out)⟩ (fun hHeld=> ?_);have hb:=below_drew (Below.refl wn.heap.size wn);generalize wn.drew=w7 at hb hHeld ⊢;have HB7:=am (below_step HB.out hb);clear hb HB BP BS BT BPc BSc BTc;refine ba9 (fuel:=27) (n:=6) [0,1,2,3,4,5] (by kernel_rfl) (fun N _ _ _ _ h=>by cases N <;> exact h) hHeld ?_
 iterate 6 (
  refine stillS_step (v:= ?_) (a':= ?_) rfl (Or.inl ⟨by rfl, ?_⟩) ?_ ?_;rotate_left
  ·rintro W ⟨s0,s1,s2,s3⟩
   have t0:=zc8 s0;have t1:=zc8 s1;have t2:=zc8 s2;clear s0 s1 s2;go_simp;with_reducible rfl
  rotate_left
  ·simp only [Act.put,sA,sZ,sS,i64_w]
   rfl)
 refine stillS_nil ?_;refine on9 (i:=6) (N:=some 20) rfl rfl (by kernel_rfl) (by decide) (fun K hK=> ?_);refine goes_ Try.func50 (by kernel_rfl) rfl #[.int .i64 t.body,.int .i64 0,.int .i64 (wrap64 ((p.bodies.length:Int) - 1))] (by rfl) rfl rfl (by (try simp only [List.map_toArray,List.map_cons,List.map_nil]);first | done | rfl) ?_;refine (l6In_calls t.body 0 (wrap64 ((p.bodies.length:Int) - 1)) _).mono ?_;rw [w5,H1.out];rintro e9 wn ⟨rfl,rfl⟩;refine ⟨_,rfl, ?_⟩;refine hK.out _ _ hHeld (fun hHeld=> ?_);clear hK K;refine norm_ (a':= ?_) ?_ ?_;rotate_left
 ·show Act.put _ (some 20) _=_
  simp only [Act.put,sA,sZ,sS,i64_w];rfl
 refine ba9 (fuel:=15) (n:=11) [7,8,9,10,11,12,13,14,15,16,17] (by kernel_rfl) (fun N _ _ _ _ h=>by cases N <;> exact h) hHeld ?_
 iterate 11 (
  refine stillS_step (v:= ?_) (a':= ?_) rfl (Or.inl ⟨by rfl, ?_⟩) ?_ ?_;rotate_left
  ·rintro W ⟨s0,s1,s2,s3⟩
   have t0:=zc8 s0;have t1:=zc8 s1;have t2:=zc8 s2;clear s0 s1 s2;go_simp;with_reducible rfl
  rotate_left
  ·simp only [Act.put,sA,sZ,sS,i64_w]
   rfl)
 refine stillS_nil ?_;refine on9 (i:=18) (N:=some 32) rfl rfl (by kernel_rfl) (by decide) (fun K hK=> ?_);refine goes_ Try.func50 (by kernel_rfl) rfl #[.int .i64 t.pc,.int .i64 0,.int .i64 (na:Int)] (by rfl) rfl rfl (by (try simp only [List.map_toArray,List.map_cons,List.map_nil]);first | done | rfl) ?_;refine (l6In_calls t.pc 0 (na:Int) _).mono ?_;rw [H2.out];rintro e9 wn ⟨rfl,rfl⟩;refine ⟨_,rfl, ?_⟩;refine hK.out _ _ hHeld (fun hHeld=> ?_);clear hK K;refine norm_ (a':= ?_) ?_ ?_;rotate_left
 ·show Act.put _ (some 32) _=_
  simp only [Act.put,sA,sZ,sS,i64_w];rfl
 refine ba9 (fuel:=9) (n:=5) [19,20,21,22,23] (by kernel_rfl) (fun N _ _ _ _ h=>by cases N <;> exact h) hHeld ?_
 iterate 5 (
  refine stillS_step (v:= ?_) (a':= ?_) rfl (Or.inl ⟨by rfl, ?_⟩) ?_ ?_;rotate_left
  ·rintro W ⟨s0,s1,s2,s3⟩
   have t0:=zc8 s0;have t1:=zc8 s1;have t2:=zc8 s2;clear s0 s1 s2;go_simp;with_reducible rfl
  rotate_left
  ·simp only [Act.put,sA,sZ,sS,i64_w]
   rfl)
 refine stillS_nil ?_;refine on9 (i:=24) (N:=some 38) rfl rfl (by kernel_rfl) (by decide) (fun K hK=> ?_);refine goes_ Try.func50 (by kernel_rfl) rfl #[.int .i64 t.way,.int .i64 0,.int .i64 4] (by rfl) rfl rfl (by (try simp only [List.map_toArray,List.map_cons,List.map_nil]);first | done | rfl) ?_;refine (l6In_calls t.way 0 4 _).mono ?_;rw [H3.out];rintro e9 wn ⟨rfl,rfl⟩;refine ⟨_,rfl, ?_⟩;refine hK.out _ _ hHeld (fun hHeld=> ?_);clear hK K;refine norm_ (a':= ?_) ?_ ?_;rotate_left
 ·show Act.put _ (some 38) _=_
  simp only [Act.put,sA,sZ,sS,i64_w];rfl
 refine ba9 (fuel:=3) (n:=5) [25,26,27,28,29] (by kernel_rfl) (fun N _ _ _ _ h=>by cases N <;> exact h) hHeld ?_
 iterate 5 (
  refine stillS_step (v:= ?_) (a':= ?_) rfl (Or.inl ⟨by rfl, ?_⟩) ?_ ?_;rotate_left
  ·rintro W ⟨s0,s1,s2,s3⟩
   have t0:=zc8 s0;have t1:=zc8 s1;have t2:=zc8 s2;clear s0 s1 s2;go_simp;with_reducible rfl
  rotate_left
  ·simp only [Act.put,sA,sZ,sS,i64_w]
   rfl)
 refine stillS_nil ?_;refine on9 (i:=30) (N:=some 44) rfl rfl (by kernel_rfl) (by decide) (fun K hK=> ?_);refine goes_ Try.func50 (by kernel_rfl) rfl #[.int .i64 t.stage,.int .i64 0,.int .i64 5] (by rfl) rfl rfl (by (try simp only [List.map_toArray,List.map_cons,List.map_nil]);first | done | rfl) ?_;refine (l6In_calls t.stage 0 5 _).mono ?_;rw [H4.out];rintro e9 wn ⟨rfl,rfl⟩;refine ⟨_,rfl, ?_⟩;refine hK.out _ _ hHeld (fun hHeld=> ?_);clear hK K;refine norm_ (a':= ?_) ?_ ?_;rotate_left
 ·show Act.put _ (some 44) _=_
  simp only [Act.put,sA,sZ,sS,i64_w];rfl
 refine ba9 (fuel:=0) (n:=2) [31,32] (by kernel_rfl) (fun N _ _ _ _ h=>by cases N <;> exact h) hHeld ?_
 iterate 2 (
  refine stillS_step (v:= ?_) (a':= ?_) rfl (Or.inl ⟨by rfl, ?_⟩) ?_ ?_;rotate_left
  ·rintro W ⟨s0,s1,s2,s3⟩
   have t0:=zc8 s0;have t1:=zc8 s1;have t2:=zc8 s2;clear s0 s1 s2;go_simp;with_reducible rfl
  rotate_left
  ·simp only [Act.put,sA,sZ,sS,i64_w]
   rfl)
 refine stillS_nil ?_;refine done_ (by kernel_rfl) ?_;have BP:=am hHeld.1;have BS:=am hHeld.2.1;have BT:=am hHeld.2.2.1;have HB:=HB7;clear hHeld HB7;have BPc:=zc8 BP.out;have BSc:=zc8 BS.out;have BTc:=zc8 BT.out;have stx:=SX0.out;clear SX0;have yst:(t.stage != 0)=true:=by simp [stx]
 have WS:Aside0 ((decide (t.way=0) || decide (t.stage=0))=true):=⟨by rw [WY.out];rfl⟩;have SX:=am (decide_eq_false stx);clear stx
 cases bN3 with
 | false=>
  go_wp2_with (first
  |(go_at_call 91;refine (l2Nums_calls _ _ _ 3 _ (by first|exact Kd.C_below R3.out HB.out | exact Kd.C_below R8.out HB.out) (by first|exact HZ3.out | exact HZ8.out)).mono ?_;(first|rw [N3.out]);rintro e w9 ⟨rfl,rfl⟩))
  go_ret
  have hr:taskOk p s i=false:=by
   rw [HU.out,show inB t.body 0 ((p.bodies.length:Int) - 1)=true from H1.out,v4,<-HNA.out,show inB t.pc 0 (na:Int)=true from H2.out,show inB t.way 0 4=true from H3.out,show inB t.stage 0 5=true from H4.out,WS.out,N3.out];simp only [Bool.true_and,Bool.false_and,Bool.and_false,Bool.or_true,Bool.true_or,Bool.or_false,Bool.false_or,Bool.not_true,Bool.not_false,Bool.and_self,Bool.and_true,Bool.or_self]
  rw [hr]
  exact ⟨rfl,HB.out⟩
 | true=>
  cases bN8 with
  | false=>
   go_wp2_with (first
   |(go_at_call 91;refine (l2Nums_calls _ _ _ 3 _ (by first|exact Kd.C_below R3.out HB.out | exact Kd.C_below R8.out HB.out) (by first|exact HZ3.out | exact HZ8.out)).mono ?_;(first|rw [N3.out] | rw [N8.out]);rintro e w9 ⟨rfl,rfl⟩))
   go_ret
   have hr:taskOk p s i=false:=by
    rw [HU.out,show inB t.body 0 ((p.bodies.length:Int) - 1)=true from H1.out,v4,<-HNA.out,show inB t.pc 0 (na:Int)=true from H2.out,show inB t.way 0 4=true from H3.out,show inB t.stage 0 5=true from H4.out,WS.out,N3.out,N8.out];simp only [Bool.true_and,Bool.false_and,Bool.and_false,Bool.or_true,Bool.true_or,Bool.or_false,Bool.false_or,Bool.not_true,Bool.not_false,Bool.and_self,Bool.and_true,Bool.or_self]
   rw [hr]
   exact ⟨rfl,HB.out⟩
  | true=>
   cases bL9 with
   | false=>
    go_wp2_with (first
    |(go_at_call 91;refine (l2Nums_calls _ _ _ 3 _ (by first|exact Kd.C_below R3.out HB.out | exact Kd.C_below R8.out HB.out) (by first|exact HZ3.out | exact HZ8.out)).mono ?_;(first|rw [N3.out] | rw [N8.out]);rintro e w9 ⟨rfl,rfl⟩)
    |(go_at_call 92;refine (l12List_calls _ _ _ _ _ (by first|exact Kd.C_below R9.out HB.out | exact Kd.C_below R10.out HB.out) (by first|exact HZ9.out | exact HZ10.out) (by omega) (by omega)).mono ?_;(first|rw [L9.out]);rintro e w9 ⟨rfl,hb⟩;replace BP:=am (zb8 BP.out hb);replace BS:=am (zb8 BS.out hb);replace BT:=am (zb8 BT.out hb);replace HB:=am (below_step HB.out hb);clear hb BPc BSc BTc;have BPc:=zc8 BP.out;have BSc:=zc8 BS.out;have BTc:=zc8 BT.out))
    go_ret
    have hr:taskOk p s i=false:=by
     rw [HU.out,show inB t.body 0 ((p.bodies.length:Int) - 1)=true from H1.out,v4,<-HNA.out,show inB t.pc 0 (na:Int)=true from H2.out,show inB t.way 0 4=true from H3.out,show inB t.stage 0 5=true from H4.out,WS.out,N3.out,N8.out,L9.out];simp only [Bool.true_and,Bool.false_and,Bool.and_false,Bool.or_true,Bool.true_or,Bool.or_false,Bool.false_or,Bool.not_true,Bool.not_false,Bool.and_self,Bool.and_true,Bool.or_self]
    rw [hr]
    exact ⟨rfl,HB.out⟩
   | true=>
    cases bL10 with
    | false=>
     go_wp2_with (first
     |(go_at_call 91;refine (l2Nums_calls _ _ _ 3 _ (by first|exact Kd.C_below R3.out HB.out | exact Kd.C_below R8.out HB.out) (by first|exact HZ3.out | exact HZ8.out)).mono ?_;(first|rw [N3.out] | rw [N8.out]);rintro e w9 ⟨rfl,rfl⟩)
     |(go_at_call 92;refine (l12List_calls _ _ _ _ _ (by first|exact Kd.C_below R9.out HB.out | exact Kd.C_below R10.out HB.out) (by first|exact HZ9.out | exact HZ10.out) (by omega) (by omega)).mono ?_;(first|rw [L9.out] | rw [L10.out]);rintro e w9 ⟨rfl,hb⟩;replace BP:=am (zb8 BP.out hb);replace BS:=am (zb8 BS.out hb);replace BT:=am (zb8 BT.out hb);replace HB:=am (below_step HB.out hb);clear hb BPc BSc BTc;have BPc:=zc8 BP.out;have BSc:=zc8 BS.out;have BTc:=zc8 BT.out))
     go_ret
     have hr:taskOk p s i=false:=by
      rw [HU.out,show inB t.body 0 ((p.bodies.length:Int) - 1)=true from H1.out,v4,<-HNA.out,show inB t.pc 0 (na:Int)=true from H2.out,show inB t.way 0 4=true from H3.out,show inB t.stage 0 5=true from H4.out,WS.out,N3.out,N8.out,L9.out,L10.out];simp only [Bool.true_and,Bool.false_and,Bool.and_false,Bool.or_true,Bool.true_or,Bool.or_false,Bool.false_or,Bool.not_true,Bool.not_false,Bool.and_self,Bool.and_true,Bool.or_self]
     rw [hr]
     exact ⟨rfl,HB.out⟩
    | true=>
     cases bTM with
     | false=>
      go_wp2_with (first
      |(go_at_call 91;refine (l2Nums_calls _ _ _ 3 _ (by first|exact Kd.C_below R3.out HB.out | exact Kd.C_below R8.out HB.out) (by first|exact HZ3.out | exact HZ8.out)).mono ?_;(first|rw [N3.out] | rw [N8.out]);rintro e w9 ⟨rfl,rfl⟩)
      |(go_at_call 92;refine (l12List_calls _ _ _ _ _ (by first|exact Kd.C_below R9.out HB.out | exact Kd.C_below R10.out HB.out) (by first|exact HZ9.out | exact HZ10.out) (by omega) (by omega)).mono ?_;(first|rw [L9.out] | rw [L10.out]);rintro e w9 ⟨rfl,hb⟩;replace BP:=am (zb8 BP.out hb);replace BS:=am (zb8 BS.out hb);replace BT:=am (zb8 BT.out hb);replace HB:=am (below_step HB.out hb);clear hb BPc BSc BTc;have BPc:=zc8 BP.out;have BSc:=zc8 BS.out;have BTc:=zc8 BT.out)
      |((with_reducible refine gate_dst (N:=105) rfl ?_);refine wpList_load_mid rfl 38 (.tmp 7) rfl gt 0 rfl _ _ (lC BT.out) Try.underlying38 rfl (by kernel_rfl) ?_)
      |((with_reducible refine gate_dst (N:=106) rfl ?_);refine wpList_load_mid rfl 27 (.tmp 4) rfl gs 0 rfl _ _ (lC BS.out) Try.underlying27 rfl (by kernel_rfl) ?_)
      |((with_reducible refine gate_dst (N:=110) rfl ?_);refine wpList_load_mid rfl 27 (.tmp 4) rfl gs 0 rfl _ _ (lC BS.out) Try.underlying27 rfl (by kernel_rfl) ?_)
      |((with_reducible refine gate_dst (N:=115) rfl ?_);refine wpList_load_mid rfl 48 (.tmp 3) rfl gp 0 rfl _ _ (lC BP.out) Try.underlying48 rfl (by kernel_rfl) ?_)
      |((with_reducible refine gate_dst (N:=116) rfl ?_);refine wpList_load_mid rfl 27 (.tmp 4) rfl gs 0 rfl _ _ (lC BS.out) Try.underlying27 rfl (by kernel_rfl) ?_)
      |(go_at_call 93;refine (l12Times_calls t s _ _ _ (kTask.K_below HB.out HKT.out) (kSys.K_below HB.out HSK.out) hc0 hc1 hl).mono ?_;rw [TM.out];rintro e w9 ⟨rfl,hb⟩;replace BP:=am (zb8 BP.out hb);replace BS:=am (zb8 BS.out hb);replace BT:=am (zb8 BT.out hb);replace HB:=am (below_step HB.out hb);clear hb BPc BSc BTc;have BPc:=zc8 BP.out;have BSc:=zc8 BS.out;have BTc:=zc8 BT.out))
      go_ret
      have hr:taskOk p s i=false:=by
       rw [HU.out,show inB t.body 0 ((p.bodies.length:Int) - 1)=true from H1.out,v4,<-HNA.out,show inB t.pc 0 (na:Int)=true from H2.out,show inB t.way 0 4=true from H3.out,show inB t.stage 0 5=true from H4.out,WS.out,N3.out,N8.out,L9.out,L10.out,SX.out,TM.out];simp only [Bool.true_and,Bool.false_and,Bool.and_false,Bool.or_true,Bool.true_or,Bool.or_false,Bool.false_or,Bool.not_true,Bool.not_false,Bool.and_self,Bool.and_true,Bool.or_self]
      rw [hr]
      exact ⟨rfl,HB.out⟩
     | true=>
      cases bUP with
      | false=>
       go_wp2_with (first
       |(go_at_call 91;refine (l2Nums_calls _ _ _ 3 _ (by first|exact Kd.C_below R3.out HB.out | exact Kd.C_below R8.out HB.out) (by first|exact HZ3.out | exact HZ8.out)).mono ?_;(first|rw [N3.out] | rw [N8.out]);rintro e w9 ⟨rfl,rfl⟩)
       |(go_at_call 92;refine (l12List_calls _ _ _ _ _ (by first|exact Kd.C_below R9.out HB.out | exact Kd.C_below R10.out HB.out) (by first|exact HZ9.out | exact HZ10.out) (by omega) (by omega)).mono ?_;(first|rw [L9.out] | rw [L10.out]);rintro e w9 ⟨rfl,hb⟩;replace BP:=am (zb8 BP.out hb);replace BS:=am (zb8 BS.out hb);replace BT:=am (zb8 BT.out hb);replace HB:=am (below_step HB.out hb);clear hb BPc BSc BTc;have BPc:=zc8 BP.out;have BSc:=zc8 BS.out;have BTc:=zc8 BT.out)
       |((with_reducible refine gate_dst (N:=105) rfl ?_);refine wpList_load_mid rfl 38 (.tmp 7) rfl gt 0 rfl _ _ (lC BT.out) Try.underlying38 rfl (by kernel_rfl) ?_)
       |((with_reducible refine gate_dst (N:=106) rfl ?_);refine wpList_load_mid rfl 27 (.tmp 4) rfl gs 0 rfl _ _ (lC BS.out) Try.underlying27 rfl (by kernel_rfl) ?_)
       |((with_reducible refine gate_dst (N:=110) rfl ?_);refine wpList_load_mid rfl 27 (.tmp 4) rfl gs 0 rfl _ _ (lC BS.out) Try.underlying27 rfl (by kernel_rfl) ?_)
       |((with_reducible refine gate_dst (N:=115) rfl ?_);refine wpList_load_mid rfl 48 (.tmp 3) rfl gp 0 rfl _ _ (lC BP.out) Try.underlying48 rfl (by kernel_rfl) ?_)
       |((with_reducible refine gate_dst (N:=116) rfl ?_);refine wpList_load_mid rfl 27 (.tmp 4) rfl gs 0 rfl _ _ (lC BS.out) Try.underlying27 rfl (by kernel_rfl) ?_)
       |(go_at_call 93;refine (l12Times_calls t s _ _ _ (kTask.K_below HB.out HKT.out) (kSys.K_below HB.out HSK.out) hc0 hc1 hl).mono ?_;rw [TM.out];rintro e w9 ⟨rfl,hb⟩;replace BP:=am (zb8 BP.out hb);replace BS:=am (zb8 BS.out hb);replace BT:=am (zb8 BT.out hb);replace HB:=am (below_step HB.out hb);clear hb BPc BSc BTc;have BPc:=zc8 BP.out;have BSc:=zc8 BS.out;have BTc:=zc8 BT.out)
       |(go_at_call 94;refine (l12Up_calls s _ i _ (kSys.K_below HB.out HSK.out) hi hn).mono ?_;rw [UP.out];rintro e w9 ⟨rfl,hb⟩;replace BP:=am (zb8 BP.out hb);replace BS:=am (zb8 BS.out hb);replace BT:=am (zb8 BT.out hb);replace HB:=am (below_step HB.out hb);clear hb BPc BSc BTc;have BPc:=zc8 BP.out;have BSc:=zc8 BS.out;have BTc:=zc8 BT.out))
       go_ret
       have hr:taskOk p s i=false:=by
        rw [HU.out,show inB t.body 0 ((p.bodies.length:Int) - 1)=true from H1.out,v4,<-HNA.out,show inB t.pc 0 (na:Int)=true from H2.out,show inB t.way 0 4=true from H3.out,show inB t.stage 0 5=true from H4.out,WS.out,N3.out,N8.out,L9.out,L10.out,SX.out,TM.out,UP.out];simp only [Bool.true_and,Bool.false_and,Bool.and_false,Bool.or_true,Bool.true_or,Bool.or_false,Bool.false_or,Bool.not_true,Bool.not_false,Bool.and_self,Bool.and_true,Bool.or_self]
       rw [hr]
       exact ⟨rfl,HB.out⟩
      | true=>
       go_wp2_with (first
       |(go_at_call 91;refine (l2Nums_calls _ _ _ 3 _ (by first|exact Kd.C_below R3.out HB.out | exact Kd.C_below R8.out HB.out) (by first|exact HZ3.out | exact HZ8.out)).mono ?_;(first|rw [N3.out] | rw [N8.out]);rintro e w9 ⟨rfl,rfl⟩)
       |(go_at_call 92;refine (l12List_calls _ _ _ _ _ (by first|exact Kd.C_below R9.out HB.out | exact Kd.C_below R10.out HB.out) (by first|exact HZ9.out | exact HZ10.out) (by omega) (by omega)).mono ?_;(first|rw [L9.out] | rw [L10.out]);rintro e w9 ⟨rfl,hb⟩;replace BP:=am (zb8 BP.out hb);replace BS:=am (zb8 BS.out hb);replace BT:=am (zb8 BT.out hb);replace HB:=am (below_step HB.out hb);clear hb BPc BSc BTc;have BPc:=zc8 BP.out;have BSc:=zc8 BS.out;have BTc:=zc8 BT.out)
       |((with_reducible refine gate_dst (N:=105) rfl ?_);refine wpList_load_mid rfl 38 (.tmp 7) rfl gt 0 rfl _ _ (lC BT.out) Try.underlying38 rfl (by kernel_rfl) ?_)
       |((with_reducible refine gate_dst (N:=106) rfl ?_);refine wpList_load_mid rfl 27 (.tmp 4) rfl gs 0 rfl _ _ (lC BS.out) Try.underlying27 rfl (by kernel_rfl) ?_)
       |((with_reducible refine gate_dst (N:=110) rfl ?_);refine wpList_load_mid rfl 27 (.tmp 4) rfl gs 0 rfl _ _ (lC BS.out) Try.underlying27 rfl (by kernel_rfl) ?_)
       |((with_reducible refine gate_dst (N:=115) rfl ?_);refine wpList_load_mid rfl 48 (.tmp 3) rfl gp 0 rfl _ _ (lC BP.out) Try.underlying48 rfl (by kernel_rfl) ?_)
       |((with_reducible refine gate_dst (N:=116) rfl ?_);refine wpList_load_mid rfl 27 (.tmp 4) rfl gs 0 rfl _ _ (lC BS.out) Try.underlying27 rfl (by kernel_rfl) ?_)
       |(go_at_call 93;refine (l12Times_calls t s _ _ _ (kTask.K_below HB.out HKT.out) (kSys.K_below HB.out HSK.out) hc0 hc1 hl).mono ?_;rw [TM.out];rintro e w9 ⟨rfl,hb⟩;replace BP:=am (zb8 BP.out hb);replace BS:=am (zb8 BS.out hb);replace BT:=am (zb8 BT.out hb);replace HB:=am (below_step HB.out hb);clear hb BPc BSc BTc;have BPc:=zc8 BP.out;have BSc:=zc8 BS.out;have BTc:=zc8 BT.out)
       |(go_at_call 94;refine (l12Up_calls s _ i _ (kSys.K_below HB.out HSK.out) hi hn).mono ?_;rw [UP.out];rintro e w9 ⟨rfl,hb⟩;replace BP:=am (zb8 BP.out hb);replace BS:=am (zb8 BS.out hb);replace BT:=am (zb8 BT.out hb);replace HB:=am (below_step HB.out hb);clear hb BPc BSc BTc;have BPc:=zc8 BP.out;have BSc:=zc8 BS.out;have BTc:=zc8 BT.out)
       |(go_at_call 95;refine (l12Act_calls p _ s _ i _ (kProg.K_below HB.out HPK.out) (kSys.K_below HB.out HSK.out) HPZ.out hi hn (by rw [<-TX.out];exact hb0) (by rw [<-TX.out];exact hb1) (by rw [<-TX.out];exact hp0) (by rw [<-TX.out];exact HZ9.out) (by rw [<-TX.out];exact HZ10.out)).mono ?_;rw [AC.out];rintro e w9 ⟨rfl,hb⟩;replace BP:=am (zb8 BP.out hb);replace BS:=am (zb8 BS.out hb);replace BT:=am (zb8 BT.out hb);replace HB:=am (below_step HB.out hb);clear hb BPc BSc BTc;have BPc:=zc8 BP.out;have BSc:=zc8 BS.out;have BTc:=zc8 BT.out))
       go_ret
       have hr:taskOk p s i=bAC:=by
        rw [HU.out,show inB t.body 0 ((p.bodies.length:Int) - 1)=true from H1.out,v4,<-HNA.out,show inB t.pc 0 (na:Int)=true from H2.out,show inB t.way 0 4=true from H3.out,show inB t.stage 0 5=true from H4.out,WS.out,N3.out,N8.out,L9.out,L10.out,SX.out,TM.out,UP.out,AC.out];simp only [Bool.true_and,Bool.false_and,Bool.and_false,Bool.or_true,Bool.true_or,Bool.or_false,Bool.false_or,Bool.not_true,Bool.not_false,Bool.and_self,Bool.and_true,Bool.or_self]
       rw [hr];exact ⟨rfl,HB.out⟩
theorem l12Task_ny (p:Prog) (ps:List Value) (s:Sys) (ss:List Value) (i:Nat) (w:World) (hp:kProg.K w p ps) (hs:kSys.K w s ss) (hz:ProgSz p) (hi:i < s.tasks.length) (hn:s.tasks.length<=1048576) (hm:s.cells.length<=1048576) (hl:s.log.length<=1048576) (hc0:0<=s.clock) (hc1:s.clock<=200) (hsz:(taskAt s.tasks i).regs.length<=1048576/\(taskAt s.tasks i).old.length<=1048576/\(taskAt s.tasks i).reads.length<=1048576/\(taskAt s.tasks i).puts.length<=1048576) (hx:(inB (taskAt s.tasks i).body 0 ((p.bodies.length:Int) - 1) && inB (taskAt s.tasks i).pc 0 ((actsAt p.bodies (taskAt s.tasks i).body.toNat).length) && inB (taskAt s.tasks i).way 0 4 && inB (taskAt s.tasks i).stage 0 5)=true) (wayx:¬ (taskAt s.tasks i).way=0) (stx:(taskAt s.tasks i).stage=0):
  Calls Try.prog 57 #[.agg ps.toArray,.agg ss.toArray,.int .i64 i] w fun e w'=>e= .returned (.bool (taskOk p s i))/\Below w.heap.size w w':=by
 have HPK:=am hp;have HSK:=am hs;have HPZ:=am hz;obtain ⟨Ac,cc,Ab,cb,rfl,-,-,-,gb⟩:=kProg_open hp;obtain ⟨A0,c0,A1,c1,A3,c3,rfl,-,-,-,g1,-⟩:=kSys_open hs;have GB:=am gb;obtain ⟨b,o,cs,rfl,hcl,hK,hcc,-⟩:=C_field g1 zTask i hi (by decide);obtain ⟨t,ht⟩:∃ x,x=taskAt s.tasks i:=⟨_,rfl⟩;rw [<-ht] at hsz hx wayx stx;rw [show s.tasks.getD i zTask=t from ht.symm] at hK;have HKT0:=am hK;obtain ⟨B3,d3,B8,d8,B9,d9,B10,d10,rfl,-,g3,-,g8,-,g9,-,g10⟩:=kTask_open hK;have HKT:=HKT0;have HC:=am hcc;have R3:=am g3;have R8:=am g8;have R9:=am g9;have R10:=am g10;have HZ3:=am hsz.1;have HZ8:=am hsz.2.1;have HZ9:=am hsz.2.2.1;have HZ10:=am hsz.2.2.2;have TX:=am ht;have HU:Aside0 (taskOk p s i=(inB t.body 0 (p.bodies.length - 1) && inB t.pc 0 (actsAt p.bodies t.body.toNat).length && inB t.way 0 4 && inB t.stage 0 5 && (decide (t.way=0) || decide (t.stage=0)) && numsOk t.regs 3 && numsOk t.old 3 && listOk t.reads s.cells.length && listOk t.puts s.cells.length && (!decide (t.stage=0) || (decide (t.at_=0) && decide (t.reads.length+t.puts.length=0))) && timesOk t s && upsOk s i && wayOk p s i)):=⟨by rw [ht];rfl⟩;have q0:(0:Int)<=(i:Int):=by omega
 have q1:(i:Int) < (s.tasks.length:Int):=by omega
 have w5:wrap64 ((p.bodies.length:Int) - 1)=(p.bodies.length:Int) - 1:=by have:=hz.bodies;unfold wrap64;omega
 clear hp hs gb g1 g3 g8 g9 g10 hcl hK hcc ht HKT0 hz hsz;simp only [Bool.and_eq_true] at hx;have H1:Aside0 ((decide ((0:Int)<=t.body) && decide (t.body<=((p.bodies.length:Int) - 1)))=true):=⟨hx.1.1.1⟩;have H3:Aside0 ((decide ((0:Int)<=t.way) && decide (t.way<=4))=true):=⟨hx.1.2⟩;have H4:Aside0 ((decide ((0:Int)<=t.stage) && decide (t.stage<=5))=true):=⟨hx.2⟩;obtain ⟨bN3,hbN3⟩:∃ x,numsOk t.regs 3=x:=⟨_,rfl⟩;have N3:=am hbN3;clear hbN3;obtain ⟨bN8,hbN8⟩:∃ x,numsOk t.old 3=x:=⟨_,rfl⟩;have N8:=am hbN8;clear hbN8;obtain ⟨bL9,hbL9⟩:∃ x,listOk t.reads s.cells.length=x:=⟨_,rfl⟩;have L9:=am hbL9;clear hbL9;obtain ⟨bL10,hbL10⟩:∃ x,listOk t.puts s.cells.length=x:=⟨_,rfl⟩;have L10:=am hbL10;clear hbL10;obtain ⟨bTM,hbTM⟩:∃ x,timesOk t s=x:=⟨_,rfl⟩;have TM:=am hbTM;clear hbTM;obtain ⟨bUP,hbUP⟩:∃ x,upsOk s i=x:=⟨_,rfl⟩;have UP:=am hbUP;clear hbUP;obtain ⟨bAC,hbAC⟩:∃ x,wayOk p s i=x:=⟨_,rfl⟩;have AC:=am hbAC;clear hbAC;have hbb:=inB_iff.1 (show inB t.body 0 ((p.bodies.length:Int) - 1)=true from H1.out);have hb0:0<=t.body:=hbb.1;have hb1:t.body < p.bodies.length:=by omega
 clear hbb;obtain ⟨kb,hkb0⟩:=Int.eq_ofNat_of_zero_le hb0;have hkb:kb < p.bodies.length:=by omega
 have v4:t.body.toNat=kb:=by omega
 obtain ⟨bb,ob,cs2,rfl,hcl2,hK2,hcc2,-⟩:=C_field GB.out ([]:List Act) kb hkb (by decide);obtain ⟨Aa,ca,rfl,la,-⟩:=hK2;have p2:=hcc2 0 _ rfl;simp only [show (Kd.slice 108 kAct).sz=1 from rfl,Nat.mul_one,Nat.add_zero] at p2;rw [show (p.bodies.getD kb []).length=(actsAt p.bodies kb).length from rfl] at p2;have P2:=am p2;obtain ⟨na,hna⟩:∃ x,x=(actsAt p.bodies kb).length:=⟨_,rfl⟩;have hnl:na<=1048576:=by rw [hna,actsAt_eq hkb];exact (HPZ.out.acts _ (List.getElem_mem hkb)).1
 rw [<-hna] at P2;have HNA:=am hna;clear hcl2 hcc2 p2 la hna hkb0;have h2:inB t.pc 0 (na:Int)=true:=by rw [HNA.out,<-v4];exact hx.1.1.2
 have hp0:0<=t.pc:=(inB_iff.1 h2).1;have H2:Aside0 ((decide ((0:Int)<=t.pc) && decide (t.pc<=(na:Int)))=true):=⟨h2⟩;clear h2 hx;have yway:(t.way != 0)=true:=by simp [wayx]
 have WY:=am (decide_eq_false wayx);clear wayx;have SX0:=am stx;clear stx;go_enter Try.func57,Try.ntmps57
 go_wp2_with (first
 |((with_reducible refine gate_dst (N:=3) rfl ?_);refine box_event rfl (N:=3) rfl (t:=48) (by go_simp<;>rfl) ?_;intro gp hg w3 hbox hb;have BP:=am hbox;clear hbox hg;have HB2:=am hb;clear hb;have HB:=HB2;clear HB2;have BPc:=zc8 BP.out)
 |((with_reducible refine gate_dst (N:=4) rfl ?_);refine box_event rfl (N:=4) rfl (t:=27) (by go_simp<;>rfl) ?_;intro gs hg w4 hbox hb;have BS:=am hbox;clear hbox hg;replace BP:=am (zb8 BP.out hb);replace HB:=am (below_step HB.out hb);clear hb BPc;have BPc:=zc8 BP.out;have BSc:=zc8 BS.out)
 |((with_reducible refine gate_dst (N:=13) rfl ?_);refine wpList_load_mid rfl 38 (.tmp 12) rfl b (o+i*13) rfl _ _ (fun j u hu=>cellB HB.out (HC.out j u hu)) Try.underlying38 rfl (by kernel_rfl) ?_)|((with_reducible refine gate_dst (N:=7) rfl ?_);refine box_event rfl (N:=7) rfl (t:=38) (by go_simp<;>rfl) ?_;intro gt hg wt hbox hb;have BT0:=am hbox;have GBT:=am hg;have HBT:=am hb;clear hbox hb hg)|((with_reducible refine gate_store (t:=38) (p:=7) rfl ?_);refine store_block rfl rfl 38 (.tmp 7) (.tmp 13) rfl rfl rfl BT0.out rfl (by kernel_rfl) (aB rfl) ?_;intro wn hbox hg;have BT:=am hbox;have hbx:=pw_below_grown HBT.out _ HBT.out.size hg (fun z hz=>by cases hz;exact Nat.le_of_eq GBT.out.symm);clear BT0 HBT hbox hg;replace BP:=am (zb8 BP.out hbx);replace BS:=am (zb8 BS.out hbx);replace HB:=am (below_step HB.out hbx);clear hbx BPc BSc;have BPc:=zc8 BP.out;have BSc:=zc8 BS.out;have BTc:=zc8 BT.out))
 refine st9 (n:=33) (S:=fun W=>W.heap[gp]? = some (.cells #[.slice Ac p.cells.length cc,.slice (some ⟨bb,ob,none⟩) p.bodies.length cb] 48 (0,0))/\W.heap[gs]? = some (.cells #[.slice A0 s.cells.length c0,.slice (some ⟨b,o,none⟩) s.tasks.length c1,.int .i64 s.clock,.slice A3 s.log.length c3] 27 (0,0))/\W.heap[gt]? = some (.cells #[.int .i64 t.body,.int .i64 t.pc,.int .i64 t.up,.slice B3 t.regs.length d3,.int .i64 t.way,.int .i64 t.stage,.int .i64 t.at_,.int .i64 t.since,.slice B8 t.old.length d8,.slice B9 t.reads.length d9,.slice B10 t.puts.length d10,.int .i64 t.when_,.int .i64 t.from_] 38 (0,0))/\W.cell? ⟨bb,ob+kb,none⟩=some (.slice Aa na ca)) (ds:= []) (by kernel_rfl) rfl ⟨blk_drew BP.out,blk_drew BS.out,blk_drew BT.out,(show wn.cell? ⟨bb,ob+kb,none⟩=_ from cellB HB.out P2.out)⟩ (fun hHeld=> ?_);have hb:=below_drew (Below.refl wn.heap.size wn);generalize wn.drew=w7 at hb hHeld ⊢;have HB7:=am (below_step HB.out hb);clear hb HB BP BS BT BPc BSc BTc;refine ba9 (fuel:=27) (n:=6) [0,1,2,3,4,5] (by kernel_rfl) (fun N _ _ _ _ h=>by cases N <;> exact h) hHeld ?_
 iterate 6 (
  refine stillS_step (v:= ?_) (a':= ?_) rfl (Or.inl ⟨by rfl, ?_⟩) ?_ ?_;rotate_left
  ·rintro W ⟨s0,s1,s2,s3⟩
   have t0:=zc8 s0;have t1:=zc8 s1;have t2:=zc8 s2;clear s0 s1 s2;go_simp;with_reducible rfl
  rotate_left
  ·simp only [Act.put,sA,sZ,sS,i64_w]
   rfl)
 refine stillS_nil ?_;refine on9 (i:=6) (N:=some 20) rfl rfl (by kernel_rfl) (by decide) (fun K hK=> ?_);refine goes_ Try.func50 (by kernel_rfl) rfl #[.int .i64 t.body,.int .i64 0,.int .i64 (wrap64 ((p.bodies.length:Int) - 1))] (by rfl) rfl rfl (by (try simp only [List.map_toArray,List.map_cons,List.map_nil]);first | done | rfl) ?_;refine (l6In_calls t.body 0 (wrap64 ((p.bodies.length:Int) - 1)) _).mono ?_;rw [w5,H1.out];rintro e9 wn ⟨rfl,rfl⟩;refine ⟨_,rfl, ?_⟩;refine hK.out _ _ hHeld (fun hHeld=> ?_);clear hK K;refine norm_ (a':= ?_) ?_ ?_;rotate_left
 ·show Act.put _ (some 20) _=_
  simp only [Act.put,sA,sZ,sS,i64_w];rfl
 refine ba9 (fuel:=15) (n:=11) [7,8,9,10,11,12,13,14,15,16,17] (by kernel_rfl) (fun N _ _ _ _ h=>by cases N <;> exact h) hHeld ?_
 iterate 11 (
  refine stillS_step (v:= ?_) (a':= ?_) rfl (Or.inl ⟨by rfl, ?_⟩) ?_ ?_;rotate_left
  ·rintro W ⟨s0,s1,s2,s3⟩
   have t0:=zc8 s0;have t1:=zc8 s1;have t2:=zc8 s2;clear s0 s1 s2;go_simp;with_reducible rfl
  rotate_left
  ·simp only [Act.put,sA,sZ,sS,i64_w]
   rfl)
 refine stillS_nil ?_;refine on9 (i:=18) (N:=some 32) rfl rfl (by kernel_rfl) (by decide) (fun K hK=> ?_);refine goes_ Try.func50 (by kernel_rfl) rfl #[.int .i64 t.pc,.int .i64 0,.int .i64 (na:Int)] (by rfl) rfl rfl (by (try simp only [List.map_toArray,List.map_cons,List.map_nil]);first | done | rfl) ?_;refine (l6In_calls t.pc 0 (na:Int) _).mono ?_;rw [H2.out];rintro e9 wn ⟨rfl,rfl⟩;refine ⟨_,rfl, ?_⟩;refine hK.out _ _ hHeld (fun hHeld=> ?_);clear hK K;refine norm_ (a':= ?_) ?_ ?_;rotate_left
 ·show Act.put _ (some 32) _=_
  simp only [Act.put,sA,sZ,sS,i64_w];rfl
 refine ba9 (fuel:=9) (n:=5) [19,20,21,22,23] (by kernel_rfl) (fun N _ _ _ _ h=>by cases N <;> exact h) hHeld ?_
 iterate 5 (
  refine stillS_step (v:= ?_) (a':= ?_) rfl (Or.inl ⟨by rfl, ?_⟩) ?_ ?_;rotate_left
  ·rintro W ⟨s0,s1,s2,s3⟩
   have t0:=zc8 s0;have t1:=zc8 s1;have t2:=zc8 s2;clear s0 s1 s2;go_simp;with_reducible rfl
  rotate_left
  ·simp only [Act.put,sA,sZ,sS,i64_w]
   rfl)
 refine stillS_nil ?_;refine on9 (i:=24) (N:=some 38) rfl rfl (by kernel_rfl) (by decide) (fun K hK=> ?_);refine goes_ Try.func50 (by kernel_rfl) rfl #[.int .i64 t.way,.int .i64 0,.int .i64 4] (by rfl) rfl rfl (by (try simp only [List.map_toArray,List.map_cons,List.map_nil]);first | done | rfl) ?_;refine (l6In_calls t.way 0 4 _).mono ?_;rw [H3.out];rintro e9 wn ⟨rfl,rfl⟩;refine ⟨_,rfl, ?_⟩;refine hK.out _ _ hHeld (fun hHeld=> ?_);clear hK K;refine norm_ (a':= ?_) ?_ ?_;rotate_left
 ·show Act.put _ (some 38) _=_
  simp only [Act.put,sA,sZ,sS,i64_w];rfl
 refine ba9 (fuel:=3) (n:=5) [25,26,27,28,29] (by kernel_rfl) (fun N _ _ _ _ h=>by cases N <;> exact h) hHeld ?_
 iterate 5 (
  refine stillS_step (v:= ?_) (a':= ?_) rfl (Or.inl ⟨by rfl, ?_⟩) ?_ ?_;rotate_left
  ·rintro W ⟨s0,s1,s2,s3⟩
   have t0:=zc8 s0;have t1:=zc8 s1;have t2:=zc8 s2;clear s0 s1 s2;go_simp;with_reducible rfl
  rotate_left
  ·simp only [Act.put,sA,sZ,sS,i64_w]
   rfl)
 refine stillS_nil ?_;refine on9 (i:=30) (N:=some 44) rfl rfl (by kernel_rfl) (by decide) (fun K hK=> ?_);refine goes_ Try.func50 (by kernel_rfl) rfl #[.int .i64 t.stage,.int .i64 0,.int .i64 5] (by rfl) rfl rfl (by (try simp only [List.map_toArray,List.map_cons,List.map_nil]);first | done | rfl) ?_;refine (l6In_calls t.stage 0 5 _).mono ?_;rw [H4.out];rintro e9 wn ⟨rfl,rfl⟩;refine ⟨_,rfl, ?_⟩;refine hK.out _ _ hHeld (fun hHeld=> ?_);clear hK K;refine norm_ (a':= ?_) ?_ ?_;rotate_left
 ·show Act.put _ (some 44) _=_
  simp only [Act.put,sA,sZ,sS,i64_w];rfl
 refine ba9 (fuel:=0) (n:=2) [31,32] (by kernel_rfl) (fun N _ _ _ _ h=>by cases N <;> exact h) hHeld ?_
 iterate 2 (
  refine stillS_step (v:= ?_) (a':= ?_) rfl (Or.inl ⟨by rfl, ?_⟩) ?_ ?_;rotate_left
  ·rintro W ⟨s0,s1,s2,s3⟩
   have t0:=zc8 s0;have t1:=zc8 s1;have t2:=zc8 s2;clear s0 s1 s2;go_simp;with_reducible rfl
  rotate_left
  ·simp only [Act.put,sA,sZ,sS,i64_w]
   rfl)
 refine stillS_nil ?_;refine done_ (by kernel_rfl) ?_;have BP:=am hHeld.1;have BS:=am hHeld.2.1;have BT:=am hHeld.2.2.1;have HB:=HB7;clear hHeld HB7;have BPc:=zc8 BP.out;have BSc:=zc8 BS.out;have BTc:=zc8 BT.out;have stx:=SX0.out;clear SX0;have yst:(t.stage != 0)=false:=by simp [stx]
 have WS:Aside0 ((decide (t.way=0) || decide (t.stage=0))=true):=⟨by simp [stx]⟩;have SX:=am (decide_eq_true stx);clear stx
 cases bN3 with
 | false=>
  go_wp2_with (first
  |(go_at_call 91;refine (l2Nums_calls _ _ _ 3 _ (by first|exact Kd.C_below R3.out HB.out | exact Kd.C_below R8.out HB.out) (by first|exact HZ3.out | exact HZ8.out)).mono ?_;(first|rw [N3.out]);rintro e w9 ⟨rfl,rfl⟩))
  go_ret
  have hr:taskOk p s i=false:=by
   rw [HU.out,show inB t.body 0 ((p.bodies.length:Int) - 1)=true from H1.out,v4,<-HNA.out,show inB t.pc 0 (na:Int)=true from H2.out,show inB t.way 0 4=true from H3.out,show inB t.stage 0 5=true from H4.out,WS.out,N3.out];simp only [Bool.true_and,Bool.false_and,Bool.and_false,Bool.or_true,Bool.true_or,Bool.or_false,Bool.false_or,Bool.not_true,Bool.not_false,Bool.and_self,Bool.and_true,Bool.or_self]
  rw [hr]
  exact ⟨rfl,HB.out⟩
 | true=>
  cases bN8 with
  | false=>
   go_wp2_with (first
   |(go_at_call 91;refine (l2Nums_calls _ _ _ 3 _ (by first|exact Kd.C_below R3.out HB.out | exact Kd.C_below R8.out HB.out) (by first|exact HZ3.out | exact HZ8.out)).mono ?_;(first|rw [N3.out] | rw [N8.out]);rintro e w9 ⟨rfl,rfl⟩))
   go_ret
   have hr:taskOk p s i=false:=by
    rw [HU.out,show inB t.body 0 ((p.bodies.length:Int) - 1)=true from H1.out,v4,<-HNA.out,show inB t.pc 0 (na:Int)=true from H2.out,show inB t.way 0 4=true from H3.out,show inB t.stage 0 5=true from H4.out,WS.out,N3.out,N8.out];simp only [Bool.true_and,Bool.false_and,Bool.and_false,Bool.or_true,Bool.true_or,Bool.or_false,Bool.false_or,Bool.not_true,Bool.not_false,Bool.and_self,Bool.and_true,Bool.or_self]
   rw [hr]
   exact ⟨rfl,HB.out⟩
  | true=>
   cases bL9 with
   | false=>
    go_wp2_with (first
    |(go_at_call 91;refine (l2Nums_calls _ _ _ 3 _ (by first|exact Kd.C_below R3.out HB.out | exact Kd.C_below R8.out HB.out) (by first|exact HZ3.out | exact HZ8.out)).mono ?_;(first|rw [N3.out] | rw [N8.out]);rintro e w9 ⟨rfl,rfl⟩)
    |(go_at_call 92;refine (l12List_calls _ _ _ _ _ (by first|exact Kd.C_below R9.out HB.out | exact Kd.C_below R10.out HB.out) (by first|exact HZ9.out | exact HZ10.out) (by omega) (by omega)).mono ?_;(first|rw [L9.out]);rintro e w9 ⟨rfl,hb⟩;replace BP:=am (zb8 BP.out hb);replace BS:=am (zb8 BS.out hb);replace BT:=am (zb8 BT.out hb);replace HB:=am (below_step HB.out hb);clear hb BPc BSc BTc;have BPc:=zc8 BP.out;have BSc:=zc8 BS.out;have BTc:=zc8 BT.out))
    go_ret
    have hr:taskOk p s i=false:=by
     rw [HU.out,show inB t.body 0 ((p.bodies.length:Int) - 1)=true from H1.out,v4,<-HNA.out,show inB t.pc 0 (na:Int)=true from H2.out,show inB t.way 0 4=true from H3.out,show inB t.stage 0 5=true from H4.out,WS.out,N3.out,N8.out,L9.out];simp only [Bool.true_and,Bool.false_and,Bool.and_false,Bool.or_true,Bool.true_or,Bool.or_false,Bool.false_or,Bool.not_true,Bool.not_false,Bool.and_self,Bool.and_true,Bool.or_self]
    rw [hr]
    exact ⟨rfl,HB.out⟩
   | true=>
    cases bL10 with
    | false=>
     go_wp2_with (first
     |(go_at_call 91;refine (l2Nums_calls _ _ _ 3 _ (by first|exact Kd.C_below R3.out HB.out | exact Kd.C_below R8.out HB.out) (by first|exact HZ3.out | exact HZ8.out)).mono ?_;(first|rw [N3.out] | rw [N8.out]);rintro e w9 ⟨rfl,rfl⟩)
     |(go_at_call 92;refine (l12List_calls _ _ _ _ _ (by first|exact Kd.C_below R9.out HB.out | exact Kd.C_below R10.out HB.out) (by first|exact HZ9.out | exact HZ10.out) (by omega) (by omega)).mono ?_;(first|rw [L9.out] | rw [L10.out]);rintro e w9 ⟨rfl,hb⟩;replace BP:=am (zb8 BP.out hb);replace BS:=am (zb8 BS.out hb);replace BT:=am (zb8 BT.out hb);replace HB:=am (below_step HB.out hb);clear hb BPc BSc BTc;have BPc:=zc8 BP.out;have BSc:=zc8 BS.out;have BTc:=zc8 BT.out))
     go_ret
     have hr:taskOk p s i=false:=by
      rw [HU.out,show inB t.body 0 ((p.bodies.length:Int) - 1)=true from H1.out,v4,<-HNA.out,show inB t.pc 0 (na:Int)=true from H2.out,show inB t.way 0 4=true from H3.out,show inB t.stage 0 5=true from H4.out,WS.out,N3.out,N8.out,L9.out,L10.out];simp only [Bool.true_and,Bool.false_and,Bool.and_false,Bool.or_true,Bool.true_or,Bool.or_false,Bool.false_or,Bool.not_true,Bool.not_false,Bool.and_self,Bool.and_true,Bool.or_self]
     rw [hr]
     exact ⟨rfl,HB.out⟩
    | true=>
     by_cases atx:t.at_=0
     ·have yat:(t.at_ == 0)=true:=by simp [atx]
      have AT:=am (decide_eq_true atx);clear atx;have zz:wrap64 ((t.reads.length:Int)+(t.puts.length:Int))=(t.reads.length:Int)+(t.puts.length:Int):=by have:=HZ9.out;have:=HZ10.out;unfold wrap64;omega
      by_cases sux:t.reads.length+t.puts.length=0
      ·have ysu:((t.reads.length:Int)+(t.puts.length:Int) == 0)=true:=by simp;omega
       have SU:=am (decide_eq_true sux);clear sux
       cases bTM with
       | false=>
        go_wp2_with (first
        |(go_at_call 91;refine (l2Nums_calls _ _ _ 3 _ (by first|exact Kd.C_below R3.out HB.out | exact Kd.C_below R8.out HB.out) (by first|exact HZ3.out | exact HZ8.out)).mono ?_;(first|rw [N3.out] | rw [N8.out]);rintro e w9 ⟨rfl,rfl⟩)
        |(go_at_call 92;refine (l12List_calls _ _ _ _ _ (by first|exact Kd.C_below R9.out HB.out | exact Kd.C_below R10.out HB.out) (by first|exact HZ9.out | exact HZ10.out) (by omega) (by omega)).mono ?_;(first|rw [L9.out] | rw [L10.out]);rintro e w9 ⟨rfl,hb⟩;replace BP:=am (zb8 BP.out hb);replace BS:=am (zb8 BS.out hb);replace BT:=am (zb8 BT.out hb);replace HB:=am (below_step HB.out hb);clear hb BPc BSc BTc;have BPc:=zc8 BP.out;have BSc:=zc8 BS.out;have BTc:=zc8 BT.out)
        |((with_reducible refine gate_dst (N:=105) rfl ?_);refine wpList_load_mid rfl 38 (.tmp 7) rfl gt 0 rfl _ _ (lC BT.out) Try.underlying38 rfl (by kernel_rfl) ?_)
        |((with_reducible refine gate_dst (N:=106) rfl ?_);refine wpList_load_mid rfl 27 (.tmp 4) rfl gs 0 rfl _ _ (lC BS.out) Try.underlying27 rfl (by kernel_rfl) ?_)
        |((with_reducible refine gate_dst (N:=110) rfl ?_);refine wpList_load_mid rfl 27 (.tmp 4) rfl gs 0 rfl _ _ (lC BS.out) Try.underlying27 rfl (by kernel_rfl) ?_)
        |((with_reducible refine gate_dst (N:=115) rfl ?_);refine wpList_load_mid rfl 48 (.tmp 3) rfl gp 0 rfl _ _ (lC BP.out) Try.underlying48 rfl (by kernel_rfl) ?_)
        |((with_reducible refine gate_dst (N:=116) rfl ?_);refine wpList_load_mid rfl 27 (.tmp 4) rfl gs 0 rfl _ _ (lC BS.out) Try.underlying27 rfl (by kernel_rfl) ?_)
        |(go_at_call 93;refine (l12Times_calls t s _ _ _ (kTask.K_below HB.out HKT.out) (kSys.K_below HB.out HSK.out) hc0 hc1 hl).mono ?_;rw [TM.out];rintro e w9 ⟨rfl,hb⟩;replace BP:=am (zb8 BP.out hb);replace BS:=am (zb8 BS.out hb);replace BT:=am (zb8 BT.out hb);replace HB:=am (below_step HB.out hb);clear hb BPc BSc BTc;have BPc:=zc8 BP.out;have BSc:=zc8 BS.out;have BTc:=zc8 BT.out))
        go_ret
        have hr:taskOk p s i=false:=by
         rw [HU.out,show inB t.body 0 ((p.bodies.length:Int) - 1)=true from H1.out,v4,<-HNA.out,show inB t.pc 0 (na:Int)=true from H2.out,show inB t.way 0 4=true from H3.out,show inB t.stage 0 5=true from H4.out,WS.out,N3.out,N8.out,L9.out,L10.out,SX.out,AT.out,SU.out,TM.out];simp only [Bool.true_and,Bool.false_and,Bool.and_false,Bool.or_true,Bool.true_or,Bool.or_false,Bool.false_or,Bool.not_true,Bool.not_false,Bool.and_self,Bool.and_true,Bool.or_self]
        rw [hr]
        exact ⟨rfl,HB.out⟩
       | true=>
        cases bUP with
        | false=>
         go_wp2_with (first
         |(go_at_call 91;refine (l2Nums_calls _ _ _ 3 _ (by first|exact Kd.C_below R3.out HB.out | exact Kd.C_below R8.out HB.out) (by first|exact HZ3.out | exact HZ8.out)).mono ?_;(first|rw [N3.out] | rw [N8.out]);rintro e w9 ⟨rfl,rfl⟩)
         |(go_at_call 92;refine (l12List_calls _ _ _ _ _ (by first|exact Kd.C_below R9.out HB.out | exact Kd.C_below R10.out HB.out) (by first|exact HZ9.out | exact HZ10.out) (by omega) (by omega)).mono ?_;(first|rw [L9.out] | rw [L10.out]);rintro e w9 ⟨rfl,hb⟩;replace BP:=am (zb8 BP.out hb);replace BS:=am (zb8 BS.out hb);replace BT:=am (zb8 BT.out hb);replace HB:=am (below_step HB.out hb);clear hb BPc BSc BTc;have BPc:=zc8 BP.out;have BSc:=zc8 BS.out;have BTc:=zc8 BT.out)
         |((with_reducible refine gate_dst (N:=105) rfl ?_);refine wpList_load_mid rfl 38 (.tmp 7) rfl gt 0 rfl _ _ (lC BT.out) Try.underlying38 rfl (by kernel_rfl) ?_)
         |((with_reducible refine gate_dst (N:=106) rfl ?_);refine wpList_load_mid rfl 27 (.tmp 4) rfl gs 0 rfl _ _ (lC BS.out) Try.underlying27 rfl (by kernel_rfl) ?_)
         |((with_reducible refine gate_dst (N:=110) rfl ?_);refine wpList_load_mid rfl 27 (.tmp 4) rfl gs 0 rfl _ _ (lC BS.out) Try.underlying27 rfl (by kernel_rfl) ?_)
         |((with_reducible refine gate_dst (N:=115) rfl ?_);refine wpList_load_mid rfl 48 (.tmp 3) rfl gp 0 rfl _ _ (lC BP.out) Try.underlying48 rfl (by kernel_rfl) ?_)
         |((with_reducible refine gate_dst (N:=116) rfl ?_);refine wpList_load_mid rfl 27 (.tmp 4) rfl gs 0 rfl _ _ (lC BS.out) Try.underlying27 rfl (by kernel_rfl) ?_)
         |(go_at_call 93;refine (l12Times_calls t s _ _ _ (kTask.K_below HB.out HKT.out) (kSys.K_below HB.out HSK.out) hc0 hc1 hl).mono ?_;rw [TM.out];rintro e w9 ⟨rfl,hb⟩;replace BP:=am (zb8 BP.out hb);replace BS:=am (zb8 BS.out hb);replace BT:=am (zb8 BT.out hb);replace HB:=am (below_step HB.out hb);clear hb BPc BSc BTc;have BPc:=zc8 BP.out;have BSc:=zc8 BS.out;have BTc:=zc8 BT.out)
         |(go_at_call 94;refine (l12Up_calls s _ i _ (kSys.K_below HB.out HSK.out) hi hn).mono ?_;rw [UP.out];rintro e w9 ⟨rfl,hb⟩;replace BP:=am (zb8 BP.out hb);replace BS:=am (zb8 BS.out hb);replace BT:=am (zb8 BT.out hb);replace HB:=am (below_step HB.out hb);clear hb BPc BSc BTc;have BPc:=zc8 BP.out;have BSc:=zc8 BS.out;have BTc:=zc8 BT.out))
         go_ret
         have hr:taskOk p s i=false:=by
          rw [HU.out,show inB t.body 0 ((p.bodies.length:Int) - 1)=true from H1.out,v4,<-HNA.out,show inB t.pc 0 (na:Int)=true from H2.out,show inB t.way 0 4=true from H3.out,show inB t.stage 0 5=true from H4.out,WS.out,N3.out,N8.out,L9.out,L10.out,SX.out,AT.out,SU.out,TM.out,UP.out];simp only [Bool.true_and,Bool.false_and,Bool.and_false,Bool.or_true,Bool.true_or,Bool.or_false,Bool.false_or,Bool.not_true,Bool.not_false,Bool.and_self,Bool.and_true,Bool.or_self]
         rw [hr]
         exact ⟨rfl,HB.out⟩
        | true=>
         go_wp2_with (first
         |(go_at_call 91;refine (l2Nums_calls _ _ _ 3 _ (by first|exact Kd.C_below R3.out HB.out | exact Kd.C_below R8.out HB.out) (by first|exact HZ3.out | exact HZ8.out)).mono ?_;(first|rw [N3.out] | rw [N8.out]);rintro e w9 ⟨rfl,rfl⟩)
         |(go_at_call 92;refine (l12List_calls _ _ _ _ _ (by first|exact Kd.C_below R9.out HB.out | exact Kd.C_below R10.out HB.out) (by first|exact HZ9.out | exact HZ10.out) (by omega) (by omega)).mono ?_;(first|rw [L9.out] | rw [L10.out]);rintro e w9 ⟨rfl,hb⟩;replace BP:=am (zb8 BP.out hb);replace BS:=am (zb8 BS.out hb);replace BT:=am (zb8 BT.out hb);replace HB:=am (below_step HB.out hb);clear hb BPc BSc BTc;have BPc:=zc8 BP.out;have BSc:=zc8 BS.out;have BTc:=zc8 BT.out)
         |((with_reducible refine gate_dst (N:=105) rfl ?_);refine wpList_load_mid rfl 38 (.tmp 7) rfl gt 0 rfl _ _ (lC BT.out) Try.underlying38 rfl (by kernel_rfl) ?_)
         |((with_reducible refine gate_dst (N:=106) rfl ?_);refine wpList_load_mid rfl 27 (.tmp 4) rfl gs 0 rfl _ _ (lC BS.out) Try.underlying27 rfl (by kernel_rfl) ?_)
         |((with_reducible refine gate_dst (N:=110) rfl ?_);refine wpList_load_mid rfl 27 (.tmp 4) rfl gs 0 rfl _ _ (lC BS.out) Try.underlying27 rfl (by kernel_rfl) ?_)
         |((with_reducible refine gate_dst (N:=115) rfl ?_);refine wpList_load_mid rfl 48 (.tmp 3) rfl gp 0 rfl _ _ (lC BP.out) Try.underlying48 rfl (by kernel_rfl) ?_)
         |((with_reducible refine gate_dst (N:=116) rfl ?_);refine wpList_load_mid rfl 27 (.tmp 4) rfl gs 0 rfl _ _ (lC BS.out) Try.underlying27 rfl (by kernel_rfl) ?_)
         |(go_at_call 93;refine (l12Times_calls t s _ _ _ (kTask.K_below HB.out HKT.out) (kSys.K_below HB.out HSK.out) hc0 hc1 hl).mono ?_;rw [TM.out];rintro e w9 ⟨rfl,hb⟩;replace BP:=am (zb8 BP.out hb);replace BS:=am (zb8 BS.out hb);replace BT:=am (zb8 BT.out hb);replace HB:=am (below_step HB.out hb);clear hb BPc BSc BTc;have BPc:=zc8 BP.out;have BSc:=zc8 BS.out;have BTc:=zc8 BT.out)
         |(go_at_call 94;refine (l12Up_calls s _ i _ (kSys.K_below HB.out HSK.out) hi hn).mono ?_;rw [UP.out];rintro e w9 ⟨rfl,hb⟩;replace BP:=am (zb8 BP.out hb);replace BS:=am (zb8 BS.out hb);replace BT:=am (zb8 BT.out hb);replace HB:=am (below_step HB.out hb);clear hb BPc BSc BTc;have BPc:=zc8 BP.out;have BSc:=zc8 BS.out;have BTc:=zc8 BT.out)
         |(go_at_call 95;refine (l12Act_calls p _ s _ i _ (kProg.K_below HB.out HPK.out) (kSys.K_below HB.out HSK.out) HPZ.out hi hn (by rw [<-TX.out];exact hb0) (by rw [<-TX.out];exact hb1) (by rw [<-TX.out];exact hp0) (by rw [<-TX.out];exact HZ9.out) (by rw [<-TX.out];exact HZ10.out)).mono ?_;rw [AC.out];rintro e w9 ⟨rfl,hb⟩;replace BP:=am (zb8 BP.out hb);replace BS:=am (zb8 BS.out hb);replace BT:=am (zb8 BT.out hb);replace HB:=am (below_step HB.out hb);clear hb BPc BSc BTc;have BPc:=zc8 BP.out;have BSc:=zc8 BS.out;have BTc:=zc8 BT.out))
         go_ret
         have hr:taskOk p s i=bAC:=by
          rw [HU.out,show inB t.body 0 ((p.bodies.length:Int) - 1)=true from H1.out,v4,<-HNA.out,show inB t.pc 0 (na:Int)=true from H2.out,show inB t.way 0 4=true from H3.out,show inB t.stage 0 5=true from H4.out,WS.out,N3.out,N8.out,L9.out,L10.out,SX.out,AT.out,SU.out,TM.out,UP.out,AC.out];simp only [Bool.true_and,Bool.false_and,Bool.and_false,Bool.or_true,Bool.true_or,Bool.or_false,Bool.false_or,Bool.not_true,Bool.not_false,Bool.and_self,Bool.and_true,Bool.or_self]
         rw [hr];exact ⟨rfl,HB.out⟩
      ·have ysu:((t.reads.length:Int)+(t.puts.length:Int) == 0)=false:=by simp;omega
       have SU:=am (decide_eq_false sux);clear sux
       go_wp2_with (first
       |(go_at_call 91;refine (l2Nums_calls _ _ _ 3 _ (by first|exact Kd.C_below R3.out HB.out | exact Kd.C_below R8.out HB.out) (by first|exact HZ3.out | exact HZ8.out)).mono ?_;(first|rw [N3.out] | rw [N8.out]);rintro e w9 ⟨rfl,rfl⟩)
       |(go_at_call 92;refine (l12List_calls _ _ _ _ _ (by first|exact Kd.C_below R9.out HB.out | exact Kd.C_below R10.out HB.out) (by first|exact HZ9.out | exact HZ10.out) (by omega) (by omega)).mono ?_;(first|rw [L9.out] | rw [L10.out]);rintro e w9 ⟨rfl,hb⟩;replace BP:=am (zb8 BP.out hb);replace BS:=am (zb8 BS.out hb);replace BT:=am (zb8 BT.out hb);replace HB:=am (below_step HB.out hb);clear hb BPc BSc BTc;have BPc:=zc8 BP.out;have BSc:=zc8 BS.out;have BTc:=zc8 BT.out))
       go_ret
       have hr:taskOk p s i=false:=by
        rw [HU.out,show inB t.body 0 ((p.bodies.length:Int) - 1)=true from H1.out,v4,<-HNA.out,show inB t.pc 0 (na:Int)=true from H2.out,show inB t.way 0 4=true from H3.out,show inB t.stage 0 5=true from H4.out,WS.out,N3.out,N8.out,L9.out,L10.out,SX.out,AT.out,SU.out];simp only [Bool.true_and,Bool.false_and,Bool.and_false,Bool.or_true,Bool.true_or,Bool.or_false,Bool.false_or,Bool.not_true,Bool.not_false,Bool.and_self,Bool.and_true,Bool.or_self]
       rw [hr];exact ⟨rfl,HB.out⟩
     ·have yat:(t.at_ == 0)=false:=by simp [atx]
      have AT:=am (decide_eq_false atx);clear atx
      go_wp2_with (first
      |(go_at_call 91;refine (l2Nums_calls _ _ _ 3 _ (by first|exact Kd.C_below R3.out HB.out | exact Kd.C_below R8.out HB.out) (by first|exact HZ3.out | exact HZ8.out)).mono ?_;(first|rw [N3.out] | rw [N8.out]);rintro e w9 ⟨rfl,rfl⟩)
      |(go_at_call 92;refine (l12List_calls _ _ _ _ _ (by first|exact Kd.C_below R9.out HB.out | exact Kd.C_below R10.out HB.out) (by first|exact HZ9.out | exact HZ10.out) (by omega) (by omega)).mono ?_;(first|rw [L9.out] | rw [L10.out]);rintro e w9 ⟨rfl,hb⟩;replace BP:=am (zb8 BP.out hb);replace BS:=am (zb8 BS.out hb);replace BT:=am (zb8 BT.out hb);replace HB:=am (below_step HB.out hb);clear hb BPc BSc BTc;have BPc:=zc8 BP.out;have BSc:=zc8 BS.out;have BTc:=zc8 BT.out))
      go_ret
      have hr:taskOk p s i=false:=by
       rw [HU.out,show inB t.body 0 ((p.bodies.length:Int) - 1)=true from H1.out,v4,<-HNA.out,show inB t.pc 0 (na:Int)=true from H2.out,show inB t.way 0 4=true from H3.out,show inB t.stage 0 5=true from H4.out,WS.out,N3.out,N8.out,L9.out,L10.out,SX.out,AT.out];simp only [Bool.true_and,Bool.false_and,Bool.and_false,Bool.or_true,Bool.true_or,Bool.or_false,Bool.false_or,Bool.not_true,Bool.not_false,Bool.and_self,Bool.and_true,Bool.or_self]
      rw [hr];exact ⟨rfl,HB.out⟩
theorem l12Task_nn (p:Prog) (ps:List Value) (s:Sys) (ss:List Value) (i:Nat) (w:World) (hp:kProg.K w p ps) (hs:kSys.K w s ss) (hz:ProgSz p) (hi:i < s.tasks.length) (hn:s.tasks.length<=1048576) (hm:s.cells.length<=1048576) (hl:s.log.length<=1048576) (hc0:0<=s.clock) (hc1:s.clock<=200) (hsz:(taskAt s.tasks i).regs.length<=1048576/\(taskAt s.tasks i).old.length<=1048576/\(taskAt s.tasks i).reads.length<=1048576/\(taskAt s.tasks i).puts.length<=1048576) (hx:(inB (taskAt s.tasks i).body 0 ((p.bodies.length:Int) - 1) && inB (taskAt s.tasks i).pc 0 ((actsAt p.bodies (taskAt s.tasks i).body.toNat).length) && inB (taskAt s.tasks i).way 0 4 && inB (taskAt s.tasks i).stage 0 5)=true) (wayx:¬ (taskAt s.tasks i).way=0) (stx:¬ (taskAt s.tasks i).stage=0):
  Calls Try.prog 57 #[.agg ps.toArray,.agg ss.toArray,.int .i64 i] w fun e w'=>e= .returned (.bool (taskOk p s i))/\Below w.heap.size w w':=by
 have HPK:=am hp;have HSK:=am hs;have HPZ:=am hz;obtain ⟨Ac,cc,Ab,cb,rfl,-,-,-,gb⟩:=kProg_open hp;obtain ⟨A0,c0,A1,c1,A3,c3,rfl,-,-,-,g1,-⟩:=kSys_open hs;have GB:=am gb;obtain ⟨b,o,cs,rfl,hcl,hK,hcc,-⟩:=C_field g1 zTask i hi (by decide);obtain ⟨t,ht⟩:∃ x,x=taskAt s.tasks i:=⟨_,rfl⟩;rw [<-ht] at hsz hx wayx stx;rw [show s.tasks.getD i zTask=t from ht.symm] at hK;have HKT0:=am hK;obtain ⟨B3,d3,B8,d8,B9,d9,B10,d10,rfl,-,g3,-,g8,-,g9,-,g10⟩:=kTask_open hK;have HKT:=HKT0;have HC:=am hcc;have R3:=am g3;have R8:=am g8;have R9:=am g9;have R10:=am g10;have HZ3:=am hsz.1;have HZ8:=am hsz.2.1;have HZ9:=am hsz.2.2.1;have HZ10:=am hsz.2.2.2;have TX:=am ht;have HU:Aside0 (taskOk p s i=(inB t.body 0 (p.bodies.length - 1) && inB t.pc 0 (actsAt p.bodies t.body.toNat).length && inB t.way 0 4 && inB t.stage 0 5 && (decide (t.way=0) || decide (t.stage=0)) && numsOk t.regs 3 && numsOk t.old 3 && listOk t.reads s.cells.length && listOk t.puts s.cells.length && (!decide (t.stage=0) || (decide (t.at_=0) && decide (t.reads.length+t.puts.length=0))) && timesOk t s && upsOk s i && wayOk p s i)):=⟨by rw [ht];rfl⟩;have q0:(0:Int)<=(i:Int):=by omega
 have q1:(i:Int) < (s.tasks.length:Int):=by omega
 have w5:wrap64 ((p.bodies.length:Int) - 1)=(p.bodies.length:Int) - 1:=by have:=hz.bodies;unfold wrap64;omega
 clear hp hs gb g1 g3 g8 g9 g10 hcl hK hcc ht HKT0 hz hsz;simp only [Bool.and_eq_true] at hx;have H1:Aside0 ((decide ((0:Int)<=t.body) && decide (t.body<=((p.bodies.length:Int) - 1)))=true):=⟨hx.1.1.1⟩;have H3:Aside0 ((decide ((0:Int)<=t.way) && decide (t.way<=4))=true):=⟨hx.1.2⟩;have H4:Aside0 ((decide ((0:Int)<=t.stage) && decide (t.stage<=5))=true):=⟨hx.2⟩;obtain ⟨bN3,hbN3⟩:∃ x,numsOk t.regs 3=x:=⟨_,rfl⟩;have N3:=am hbN3;clear hbN3;obtain ⟨bN8,hbN8⟩:∃ x,numsOk t.old 3=x:=⟨_,rfl⟩;have N8:=am hbN8;clear hbN8;obtain ⟨bL9,hbL9⟩:∃ x,listOk t.reads s.cells.length=x:=⟨_,rfl⟩;have L9:=am hbL9;clear hbL9;obtain ⟨bL10,hbL10⟩:∃ x,listOk t.puts s.cells.length=x:=⟨_,rfl⟩;have L10:=am hbL10;clear hbL10;obtain ⟨bTM,hbTM⟩:∃ x,timesOk t s=x:=⟨_,rfl⟩;have TM:=am hbTM;clear hbTM;obtain ⟨bUP,hbUP⟩:∃ x,upsOk s i=x:=⟨_,rfl⟩;have UP:=am hbUP;clear hbUP;obtain ⟨bAC,hbAC⟩:∃ x,wayOk p s i=x:=⟨_,rfl⟩;have AC:=am hbAC;clear hbAC;have hbb:=inB_iff.1 (show inB t.body 0 ((p.bodies.length:Int) - 1)=true from H1.out);have hb0:0<=t.body:=hbb.1;have hb1:t.body < p.bodies.length:=by omega
 clear hbb;obtain ⟨kb,hkb0⟩:=Int.eq_ofNat_of_zero_le hb0;have hkb:kb < p.bodies.length:=by omega
 have v4:t.body.toNat=kb:=by omega
 obtain ⟨bb,ob,cs2,rfl,hcl2,hK2,hcc2,-⟩:=C_field GB.out ([]:List Act) kb hkb (by decide);obtain ⟨Aa,ca,rfl,la,-⟩:=hK2;have p2:=hcc2 0 _ rfl;simp only [show (Kd.slice 108 kAct).sz=1 from rfl,Nat.mul_one,Nat.add_zero] at p2;rw [show (p.bodies.getD kb []).length=(actsAt p.bodies kb).length from rfl] at p2;have P2:=am p2;obtain ⟨na,hna⟩:∃ x,x=(actsAt p.bodies kb).length:=⟨_,rfl⟩;have hnl:na<=1048576:=by rw [hna,actsAt_eq hkb];exact (HPZ.out.acts _ (List.getElem_mem hkb)).1
 rw [<-hna] at P2;have HNA:=am hna;clear hcl2 hcc2 p2 la hna hkb0;have h2:inB t.pc 0 (na:Int)=true:=by rw [HNA.out,<-v4];exact hx.1.1.2
 have hp0:0<=t.pc:=(inB_iff.1 h2).1;have H2:Aside0 ((decide ((0:Int)<=t.pc) && decide (t.pc<=(na:Int)))=true):=⟨h2⟩;clear h2 hx;have yway:(t.way != 0)=true:=by simp [wayx]
 have WY:=am (decide_eq_false wayx);clear wayx;have SX0:=am stx;clear stx;go_enter Try.func57,Try.ntmps57
 go_wp2_with (first
 |((with_reducible refine gate_dst (N:=3) rfl ?_);refine box_event rfl (N:=3) rfl (t:=48) (by go_simp<;>rfl) ?_;intro gp hg w3 hbox hb;have BP:=am hbox;clear hbox hg;have HB2:=am hb;clear hb;have HB:=HB2;clear HB2;have BPc:=zc8 BP.out)
 |((with_reducible refine gate_dst (N:=4) rfl ?_);refine box_event rfl (N:=4) rfl (t:=27) (by go_simp<;>rfl) ?_;intro gs hg w4 hbox hb;have BS:=am hbox;clear hbox hg;replace BP:=am (zb8 BP.out hb);replace HB:=am (below_step HB.out hb);clear hb BPc;have BPc:=zc8 BP.out;have BSc:=zc8 BS.out)
 |((with_reducible refine gate_dst (N:=13) rfl ?_);refine wpList_load_mid rfl 38 (.tmp 12) rfl b (o+i*13) rfl _ _ (fun j u hu=>cellB HB.out (HC.out j u hu)) Try.underlying38 rfl (by kernel_rfl) ?_)|((with_reducible refine gate_dst (N:=7) rfl ?_);refine box_event rfl (N:=7) rfl (t:=38) (by go_simp<;>rfl) ?_;intro gt hg wt hbox hb;have BT0:=am hbox;have GBT:=am hg;have HBT:=am hb;clear hbox hb hg)|((with_reducible refine gate_store (t:=38) (p:=7) rfl ?_);refine store_block rfl rfl 38 (.tmp 7) (.tmp 13) rfl rfl rfl BT0.out rfl (by kernel_rfl) (aB rfl) ?_;intro wn hbox hg;have BT:=am hbox;have hbx:=pw_below_grown HBT.out _ HBT.out.size hg (fun z hz=>by cases hz;exact Nat.le_of_eq GBT.out.symm);clear BT0 HBT hbox hg;replace BP:=am (zb8 BP.out hbx);replace BS:=am (zb8 BS.out hbx);replace HB:=am (below_step HB.out hbx);clear hbx BPc BSc;have BPc:=zc8 BP.out;have BSc:=zc8 BS.out;have BTc:=zc8 BT.out))
 refine st9 (n:=33) (S:=fun W=>W.heap[gp]? = some (.cells #[.slice Ac p.cells.length cc,.slice (some ⟨bb,ob,none⟩) p.bodies.length cb] 48 (0,0))/\W.heap[gs]? = some (.cells #[.slice A0 s.cells.length c0,.slice (some ⟨b,o,none⟩) s.tasks.length c1,.int .i64 s.clock,.slice A3 s.log.length c3] 27 (0,0))/\W.heap[gt]? = some (.cells #[.int .i64 t.body,.int .i64 t.pc,.int .i64 t.up,.slice B3 t.regs.length d3,.int .i64 t.way,.int .i64 t.stage,.int .i64 t.at_,.int .i64 t.since,.slice B8 t.old.length d8,.slice B9 t.reads.length d9,.slice B10 t.puts.length d10,.int .i64 t.when_,.int .i64 t.from_] 38 (0,0))/\W.cell? ⟨bb,ob+kb,none⟩=some (.slice Aa na ca)) (ds:= []) (by kernel_rfl) rfl ⟨blk_drew BP.out,blk_drew BS.out,blk_drew BT.out,(show wn.cell? ⟨bb,ob+kb,none⟩=_ from cellB HB.out P2.out)⟩ (fun hHeld=> ?_);have hb:=below_drew (Below.refl wn.heap.size wn);generalize wn.drew=w7 at hb hHeld ⊢;have HB7:=am (below_step HB.out hb);clear hb HB BP BS BT BPc BSc BTc;refine ba9 (fuel:=27) (n:=6) [0,1,2,3,4,5] (by kernel_rfl) (fun N _ _ _ _ h=>by cases N <;> exact h) hHeld ?_
 iterate 6 (
  refine stillS_step (v:= ?_) (a':= ?_) rfl (Or.inl ⟨by rfl, ?_⟩) ?_ ?_;rotate_left
  ·rintro W ⟨s0,s1,s2,s3⟩
   have t0:=zc8 s0;have t1:=zc8 s1;have t2:=zc8 s2;clear s0 s1 s2;go_simp;with_reducible rfl
  rotate_left
  ·simp only [Act.put,sA,sZ,sS,i64_w]
   rfl)
 refine stillS_nil ?_;refine on9 (i:=6) (N:=some 20) rfl rfl (by kernel_rfl) (by decide) (fun K hK=> ?_);refine goes_ Try.func50 (by kernel_rfl) rfl #[.int .i64 t.body,.int .i64 0,.int .i64 (wrap64 ((p.bodies.length:Int) - 1))] (by rfl) rfl rfl (by (try simp only [List.map_toArray,List.map_cons,List.map_nil]);first | done | rfl) ?_;refine (l6In_calls t.body 0 (wrap64 ((p.bodies.length:Int) - 1)) _).mono ?_;rw [w5,H1.out];rintro e9 wn ⟨rfl,rfl⟩;refine ⟨_,rfl, ?_⟩;refine hK.out _ _ hHeld (fun hHeld=> ?_);clear hK K;refine norm_ (a':= ?_) ?_ ?_;rotate_left
 ·show Act.put _ (some 20) _=_
  simp only [Act.put,sA,sZ,sS,i64_w];rfl
 refine ba9 (fuel:=15) (n:=11) [7,8,9,10,11,12,13,14,15,16,17] (by kernel_rfl) (fun N _ _ _ _ h=>by cases N <;> exact h) hHeld ?_
 iterate 11 (
  refine stillS_step (v:= ?_) (a':= ?_) rfl (Or.inl ⟨by rfl, ?_⟩) ?_ ?_;rotate_left
  ·rintro W ⟨s0,s1,s2,s3⟩
   have t0:=zc8 s0;have t1:=zc8 s1;have t2:=zc8 s2;clear s0 s1 s2;go_simp;with_reducible rfl
  rotate_left
  ·simp only [Act.put,sA,sZ,sS,i64_w]
   rfl)
 refine stillS_nil ?_;refine on9 (i:=18) (N:=some 32) rfl rfl (by kernel_rfl) (by decide) (fun K hK=> ?_);refine goes_ Try.func50 (by kernel_rfl) rfl #[.int .i64 t.pc,.int .i64 0,.int .i64 (na:Int)] (by rfl) rfl rfl (by (try simp only [List.map_toArray,List.map_cons,List.map_nil]);first | done | rfl) ?_;refine (l6In_calls t.pc 0 (na:Int) _).mono ?_;rw [H2.out];rintro e9 wn ⟨rfl,rfl⟩;refine ⟨_,rfl, ?_⟩;refine hK.out _ _ hHeld (fun hHeld=> ?_);clear hK K;refine norm_ (a':= ?_) ?_ ?_;rotate_left
 ·show Act.put _ (some 32) _=_
  simp only [Act.put,sA,sZ,sS,i64_w];rfl
 refine ba9 (fuel:=9) (n:=5) [19,20,21,22,23] (by kernel_rfl) (fun N _ _ _ _ h=>by cases N <;> exact h) hHeld ?_
 iterate 5 (
  refine stillS_step (v:= ?_) (a':= ?_) rfl (Or.inl ⟨by rfl, ?_⟩) ?_ ?_;rotate_left
  ·rintro W ⟨s0,s1,s2,s3⟩
   have t0:=zc8 s0;have t1:=zc8 s1;have t2:=zc8 s2;clear s0 s1 s2;go_simp;with_reducible rfl
  rotate_left
  ·simp only [Act.put,sA,sZ,sS,i64_w]
   rfl)
 refine stillS_nil ?_;refine on9 (i:=24) (N:=some 38) rfl rfl (by kernel_rfl) (by decide) (fun K hK=> ?_);refine goes_ Try.func50 (by kernel_rfl) rfl #[.int .i64 t.way,.int .i64 0,.int .i64 4] (by rfl) rfl rfl (by (try simp only [List.map_toArray,List.map_cons,List.map_nil]);first | done | rfl) ?_;refine (l6In_calls t.way 0 4 _).mono ?_;rw [H3.out];rintro e9 wn ⟨rfl,rfl⟩;refine ⟨_,rfl, ?_⟩;refine hK.out _ _ hHeld (fun hHeld=> ?_);clear hK K;refine norm_ (a':= ?_) ?_ ?_;rotate_left
 ·show Act.put _ (some 38) _=_
  simp only [Act.put,sA,sZ,sS,i64_w];rfl
 refine ba9 (fuel:=3) (n:=5) [25,26,27,28,29] (by kernel_rfl) (fun N _ _ _ _ h=>by cases N <;> exact h) hHeld ?_
 iterate 5 (
  refine stillS_step (v:= ?_) (a':= ?_) rfl (Or.inl ⟨by rfl, ?_⟩) ?_ ?_;rotate_left
  ·rintro W ⟨s0,s1,s2,s3⟩
   have t0:=zc8 s0;have t1:=zc8 s1;have t2:=zc8 s2;clear s0 s1 s2;go_simp;with_reducible rfl
  rotate_left
  ·simp only [Act.put,sA,sZ,sS,i64_w]
   rfl)
 refine stillS_nil ?_;refine on9 (i:=30) (N:=some 44) rfl rfl (by kernel_rfl) (by decide) (fun K hK=> ?_);refine goes_ Try.func50 (by kernel_rfl) rfl #[.int .i64 t.stage,.int .i64 0,.int .i64 5] (by rfl) rfl rfl (by (try simp only [List.map_toArray,List.map_cons,List.map_nil]);first | done | rfl) ?_;refine (l6In_calls t.stage 0 5 _).mono ?_;rw [H4.out];rintro e9 wn ⟨rfl,rfl⟩;refine ⟨_,rfl, ?_⟩;refine hK.out _ _ hHeld (fun hHeld=> ?_);clear hK K;refine norm_ (a':= ?_) ?_ ?_;rotate_left
 ·show Act.put _ (some 44) _=_
  simp only [Act.put,sA,sZ,sS,i64_w];rfl
 refine ba9 (fuel:=0) (n:=2) [31,32] (by kernel_rfl) (fun N _ _ _ _ h=>by cases N <;> exact h) hHeld ?_
 iterate 2 (
  refine stillS_step (v:= ?_) (a':= ?_) rfl (Or.inl ⟨by rfl, ?_⟩) ?_ ?_;rotate_left
  ·rintro W ⟨s0,s1,s2,s3⟩
   have t0:=zc8 s0;have t1:=zc8 s1;have t2:=zc8 s2;clear s0 s1 s2;go_simp;with_reducible rfl
  rotate_left
  ·simp only [Act.put,sA,sZ,sS,i64_w]
   rfl)
 refine stillS_nil ?_;refine done_ (by kernel_rfl) ?_;have BP:=am hHeld.1;have BS:=am hHeld.2.1;have BT:=am hHeld.2.2.1;have HB:=HB7;clear hHeld HB7;have BPc:=zc8 BP.out;have BSc:=zc8 BS.out;have BTc:=zc8 BT.out;have stx:=SX0.out;clear SX0;have yst:(t.stage != 0)=true:=by simp [stx]
 have WS:Aside0 ((decide (t.way=0) || decide (t.stage=0))=false):=⟨by rw [WY.out];simp [stx]⟩;clear stx;go_wp2;go_ret
 have hr:taskOk p s i=false:=by
  rw [HU.out,show inB t.body 0 ((p.bodies.length:Int) - 1)=true from H1.out,v4,<-HNA.out,show inB t.pc 0 (na:Int)=true from H2.out,show inB t.way 0 4=true from H3.out,show inB t.stage 0 5=true from H4.out,WS.out];simp only [Bool.true_and,Bool.false_and,Bool.and_false,Bool.or_true,Bool.true_or,Bool.or_false,Bool.false_or,Bool.not_true,Bool.not_false,Bool.and_self,Bool.and_true,Bool.or_self]
 rw [hr];exact ⟨rfl,HB.out⟩
theorem l12Task_calls (p:Prog) (ps:List Value) (s:Sys) (ss:List Value) (i:Nat) (w:World) (hp:kProg.K w p ps) (hs:kSys.K w s ss) (hz:ProgSz p) (hi:i < s.tasks.length) (hn:s.tasks.length<=1048576) (hm:s.cells.length<=1048576) (hl:s.log.length<=1048576) (hc0:0<=s.clock) (hc1:s.clock<=200) (hsz:(taskAt s.tasks i).regs.length<=1048576/\(taskAt s.tasks i).old.length<=1048576/\(taskAt s.tasks i).reads.length<=1048576/\(taskAt s.tasks i).puts.length<=1048576):
  Calls Try.prog 57 #[.agg ps.toArray,.agg ss.toArray,.int .i64 i] w fun e w'=>e= .returned (.bool (taskOk p s i))/\Below w.heap.size w w':=by
 cases hx:(inB (taskAt s.tasks i).body 0 ((p.bodies.length:Int) - 1) && inB (taskAt s.tasks i).pc 0 ((actsAt p.bodies (taskAt s.tasks i).body.toNat).length) && inB (taskAt s.tasks i).way 0 4 && inB (taskAt s.tasks i).stage 0 5) with
 | false=>exact l12Task_bad p ps s ss i w hp hs hz hi hn hm hl hc0 hc1 hsz hx
 | true=>
  by_cases wayx:(taskAt s.tasks i).way=0
  ·by_cases stx:(taskAt s.tasks i).stage=0
   ·exact l12Task_yy p ps s ss i w hp hs hz hi hn hm hl hc0 hc1 hsz hx wayx stx
   ·exact l12Task_yn p ps s ss i w hp hs hz hi hn hm hl hc0 hc1 hsz hx wayx stx
  ·by_cases stx:(taskAt s.tasks i).stage=0
   ·exact l12Task_ny p ps s ss i w hp hs hz hi hn hm hl hc0 hc1 hsz hx wayx stx
   ·exact l12Task_nn p ps s ss i w hp hs hz hi hn hm hl hc0 hc1 hsz hx wayx stx
end Go.Proofs.Ytimamoimphjakaa.Eq
