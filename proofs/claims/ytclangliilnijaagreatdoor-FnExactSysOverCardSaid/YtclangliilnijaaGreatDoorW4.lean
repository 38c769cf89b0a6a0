import Derived.Test.YtclangliilnijaaGreatDoorW3
set_option maxHeartbeats 8000000
set_option maxRecDepth 100000
set_option linter.unusedVariables false
set_option linter.unusedSimpArgs false
namespace Go.Proofs.YtclangliilnijaaGreatDoor.Eq
open Go.RowKit Go.Proofs.YtclangliilnijaaGreatDoorW.PrintWords Go.Proofs.YtclangliilnijaaGreatDoorW.PrintLast Go.Proofs.YtclangliilnijaaGreatDoorW.PrintMore
theorem poEF {q:Prop} (h:q:=by
  go_wp2_with (go_at_call 163;refine oEb (allNums_calls _ _ _ _ (Kd.C_below GC.out M.out.below) HZ.out.cells) Y2.out ?_)
  go_ret;rw [HU.out];exact ⟨by simp,M.out.below⟩):q:=h
theorem iprogOk_calls (p:Prog) (ps:List Value) (w:World) (hp:kProg.K w p ps) (hz:ProgSz p):
  Calls Tryz.prog 125 #[.agg ps.toArray] w fun e w'=>e= .returned (.bool (progOk p))/\Below w.heap.size w w':=by
 have HPK:=am hp;have HZ:=am hz;obtain ⟨Ac,cc,Ab,cb,rfl,-,gc,-,gb⟩:=kProg_open hp;have GC:=am gc;have GB:=am gb;have M:=am (Own.nil w);have C:=M.out.cl;obtain ⟨b1,y1⟩:∃ b,decide ((3:Int) < (p.cells.length:Int))=b:=⟨_,rfl⟩;obtain ⟨b2,y2⟩:∃ b,numsB p.cells=b:=⟨_,rfl⟩;obtain ⟨b3,y3⟩:∃ b,decide ((p.bodies.length:Int) < 1)=b:=⟨_,rfl⟩;obtain ⟨b4,y4⟩:∃ b,decide ((4:Int) < (p.bodies.length:Int))=b:=⟨_,rfl⟩
 have HU:Aside0 (progOk p=(!b1 && b2 && !b3 && !b4 && (allB p.bodies.length fun i=>bodyOk p.cells.length p.bodies.length i (actsAt p.bodies i)) && decide (treeOf p 0<=7))):=⟨by
  rw [<-y1,<-y2,<-y3,<-y4,show decide ((3:Int) < (p.cells.length:Int))= !decide (p.cells.length<=3) from by rw [Bool.eq_iff_iff];simp <;> omega];rw [show (!decide ((p.bodies.length:Int) < 1))=decide (1<=(p.bodies.length:Int)) from by rw [Bool.eq_iff_iff];simp <;> omega,show (!decide ((4:Int) < (p.bodies.length:Int)))=decide ((p.bodies.length:Int)<=4) from by rw [Bool.eq_iff_iff];simp];unfold progOk formOk numsB inB;cases decide (p.cells.length<=3) <;> cases decide (1<=(p.bodies.length:Int)) <;> cases decide ((p.bodies.length:Int)<=4) <;> simp⟩
 have Y1:=am y1;have Y2:=am y2;have Y3:=am y3;have Y4:=am y4;clear hp gc gb y2;go_enter Tryz.func125,Tryz.ntmps125
 go_upto_region 1 with (first
 |((first|with_reducible refine gB ?_ | with_reducible refine gA ?_);refine oB rfl M.out ?_;clear M C;intro g W M C;simp only [Cl] at C))
 cases b1
 case true=>exact poEF
 cases b2
 case false=>exact poEF
 cases b3
 case true=>exact poEF
 cases b4
 case true=>exact poEF
 have hc3:p.cells.length<=3:=by have:=of_decide_eq_false Y1.out;omega
 have hb4:p.bodies.length<=4:=by have:=of_decide_eq_false Y4.out;omega
 have hb1:1<=p.bodies.length:=by have:=of_decide_eq_false Y3.out;omega
 go_wp2_with (first
 |(go_at_call 163;refine oEb (allNums_calls _ _ _ _ (Kd.C_below GC.out M.out.below) HZ.out.cells) Y2.out ?_))
 obtain ⟨L,EL,ML⟩:=Own.named M;go_loopw [3,4,30] (fun _ _ j w'=>∃ kb:Nat,kb<=p.bodies.length/\j= .int .i64 kb/\Aside0 (∀ i,i < kb->bodyOk p.cells.length p.bodies.length i (actsAt p.bodies i)=true)/\Aside0 (Own w w' L)) (fun _ _ j _=>p.bodies.length - (intOf j).toNat)
 case atStart=>exact ⟨0,Nat.zero_le _,rfl,⟨fun i hi=>by omega⟩,ML⟩
 case round=>
  obtain ⟨kb,hkb0,rfl,HJ,M2⟩:=hrel;have e_:=EL.out;subst e_;clear M C ML EL;have M:=M2;clear M2;have C:=M.out.cl;simp only [Cl] at C;by_cases hkb:kb < p.bodies.length
  ·have q0:(0:Int)<=(kb:Int):=by omega
   have q1:(kb:Int) < (p.bodies.length:Int):=by omega
   have hz2:=HZ.out.acts _ (List.getElem_mem hkb);rw [<-actsAt_eq hkb] at hz2;have HZ2:=am hz2.2;have hz3:=hz2.1;clear hz2;obtain ⟨bb,ob,cs2,rfl,hcl2,hK2,hcc2,-⟩:=C_field GB.out ([]:List Act) kb hkb (by decide);obtain ⟨Aa,ca,rfl,la,ga2⟩:=hK2;have p2:=hcc2 0 _ rfl;simp only [show (Kd.slice 68 kAct).sz=1 from rfl,Nat.mul_one,Nat.add_zero] at p2;have GA2:=am (show kAct.C w Aa (actsAt p.bodies kb).length (actsAt p.bodies kb) from ga2);rw [show (p.bodies.getD kb []).length=(actsAt p.bodies kb).length from rfl] at p2;clear hcl2 hcc2 la ga2;replace M:=am (M.out.far p2);clear C p2;have C:=M.out.cl;simp only [Cl] at C;obtain ⟨b5,y5⟩:∃ b,decide ((4:Int) < ((actsAt p.bodies kb).length:Int))=b:=⟨_,rfl⟩;have HB5:Aside0 (decide ((actsAt p.bodies kb).length<=4)= !b5):=⟨by rw [<-y5,Bool.eq_iff_iff];simp;omega⟩;cases b5;rotate_left
   ·go_wp2
    go_ret;rw [HU.out,show (allB p.bodies.length fun i=>bodyOk p.cells.length p.bodies.length i (actsAt p.bodies i))=false from allB_no hkb (by unfold bodyOk;rw [HB5.out];rfl)];exact ⟨by simp,M.out.below⟩
   go_wp2_with fail
   obtain ⟨L,EL,ML⟩:=Own.named M;go_loopw [6,40] (fun _ j w'=>∃ k:Nat,k<=(actsAt p.bodies kb).length/\j= .int .i64 k/\Aside0 (∀ i,i < k->actOk p.cells.length p.bodies.length kb (actAt (actsAt p.bodies kb) i)=true)/\Aside0 (Own w w' L)) (fun _ j _=>(actsAt p.bodies kb).length - (intOf j).toNat)
   case atStart=>exact ⟨0,Nat.zero_le _,rfl,⟨fun i hi=>by omega⟩,ML⟩
   case round=>
    obtain ⟨k,hk,rfl,HK,M2⟩:=hrel;have e_:=EL.out;subst e_;clear M C ML EL;have M:=M2;clear M2;have C:=M.out.cl;simp only [Cl] at C;by_cases hlt:k < (actsAt p.bodies kb).length
    ·have HZ4:=HZ2.out
     obtain ⟨ba,oa,cs3,rfl,hcl3,hK3,hcc3,-⟩:=C_field GA2.out zAct k hlt (by decide);obtain ⟨a,hax⟩:∃ x,x=actAt (actsAt p.bodies kb) k:=⟨_,rfl⟩;rw [show (actsAt p.bodies kb).getD k zAct=a from hax.symm] at hK3
     have hmem:a ∈ actsAt p.bodies kb:=by
      rw [hax,show actAt (actsAt p.bodies kb) k=(actsAt p.bodies kb)[k] by simp [actAt,hlt]];exact List.getElem_mem hlt
     have AX:=am hax;obtain ⟨Ad,cd,Ak,ck,rfl,-,gd,-,gk⟩:=kAct_open hK3;have HKS:=am gk;have HDS:=am gd;have HC:=am hcc3;have r0:(0:Int)<=(k:Int):=by omega
     have r1:(k:Int) < ((actsAt p.bodies kb).length:Int):=by omega
     clear hcl3 hK3 hcc3 hax gk gd;have HZ5:=am (HZ4 a hmem);obtain ⟨bx,yx⟩:∃ b,actOk p.cells.length p.bodies.length kb a=b:=⟨_,rfl⟩;have YX:=am yx;clear HZ4 hmem yx
     go_wp2_with (first
     |((first|with_reducible refine gB ?_ | with_reducible refine gA ?_);refine oB rfl M.out ?_;clear M C;intro g W M C;simp only [Cl] at C)
     |((with_reducible refine gL ?_);refine oR rfl rfl M.out HC.out ?_)
     |((with_reducible refine gS ?_);refine oS rfl rfl rfl M.out ?_;clear M C;intro W M C;simp only [Cl] at C))
     refine dS M.out ?_;clear M C;intro W M;refine dN [0,2,3,4,5,6,7,8] M.out ?_;refine sL rfl rfl ?_;iterate 7 (first|refine sP rfl ?_ | refine sG rfl ?_ | refine sU rfl ?_)
     refine stillS_nil ?_;refine dC 1 rfl ?_;refine oC M.out (partOfAct_calls a _ _ _ _ _) ?_;intro W M C;refine ⟨_,rfl,M,dA ?_⟩;refine dC 9 rfl ?_;refine oCb M.out (actOk_calls a _ _ _ _ _ _ _ _ (Kd.C_below HDS.out M.out.below) (Kd.C_below HKS.out M.out.below) HZ5.out ⟨by omega,by omega⟩) YX.out ?_;intro W M C;refine ⟨_,rfl,M,dA ?_⟩;refine dN [10] M.out ?_;iterate 1 (first|refine sP rfl ?_ | refine sG rfl ?_ | refine sU rfl ?_)
     refine stillS_nil ?_;refine dD ?_;clear C;have C:=M.out.cl;simp only [Cl] at C;cases bx
     ·go_wp2
      go_ret;rw [HU.out,show (allB p.bodies.length fun i=>bodyOk p.cells.length p.bodies.length i (actsAt p.bodies i))=false from allB_no hkb (by unfold bodyOk;rw [allB_no hlt (by rw [<-AX.out];exact YX.out),Bool.and_false])];exact ⟨by simp,M.out.below⟩
     ·go_wp2
      go_roundw
      case rel=>exact ⟨k+1,by omega,by go_num,⟨fun i hi=>by rcases Nat.lt_or_ge i k with h | h;exact HK.out i h;obtain rfl:i=k:=(by omega);rw [<-AX.out];exact YX.out⟩,⟨M.out.pop⟩⟩
      case measure=>simp [intOf];omega
    ·obtain rfl:k=(actsAt p.bodies kb).length:=by omega
     have s1:¬ ((actsAt p.bodies kb).length:Int) < ((actsAt p.bodies kb).length:Int):=by omega
     go_wp2;go_roundw
     case rel=>exact ⟨kb+1,by omega,by go_num,⟨fun i hi=>by rcases Nat.lt_or_ge i kb with h | h;exact HJ.out i h;obtain rfl:i=kb:=(by omega);unfold bodyOk;rw [HB5.out,allB_iff.2 HK.out];rfl⟩,⟨M.out.pop⟩⟩
     case measure=>simp [intOf];omega
  ·obtain rfl:kb=p.bodies.length:=by omega
   have s1:¬ (p.bodies.length:Int) < (p.bodies.length:Int):=by omega
   have HAL:Aside0 ((allB p.bodies.length fun i=>bodyOk p.cells.length p.bodies.length i (actsAt p.bodies i))=true):=⟨allB_iff.2 HJ.out⟩;have HFO:Aside0 (formOk p=true):=⟨by unfold formOk;rw [HAL.out,decide_eq_true hc3,show (allB p.cells.length fun i=>inB (numAt p.cells i) 0 99)=true from Y2.out,show inB p.bodies.length 1 4=true from inB_iff.2 ⟨by omega,by omega⟩];rfl⟩;have ht:(treeOf p 0:Int)<=1000000:=by have:=treeOf_le HFO.out (b:=0) (by omega) (by omega);omega
   go_wp2_with (first
   |((with_reducible refine gL ?_);refine oL rfl rfl M.out ?_)
   |(go_at_call 166;refine oC M.out (treeOf_calls p _ HFO.out p.bodies.length 0 _ (kProg.K_below M.out.below HPK.out) (by omega) (by omega) (by omega)) ?_;clear M C;intro W M C;simp only [Cl] at C))
   go_ret;rw [HU.out,HAL.out,show decide (treeOf p 0<=7)=decide ((treeOf p 0:Int)<=7) from by rw [Bool.eq_iff_iff];simp <;> omega];exact ⟨by simp,M.out.below⟩
def isysB (p:Prog) (s:Sys):Bool:=
 progOk p && ((s.cells.length:Int) == (p.cells.length:Int)) && !decide (s.clock < 0) && !decide (200 < s.clock) && cellsB s && !decide ((s.tasks.length:Int) < 1) && !decide (7 < (s.tasks.length:Int)) &&
 allB s.tasks.length (fun i=>formB p s (taskAt s.tasks i) && stageB p s (taskAt s.tasks i)) && allB s.tasks.length (fun i=>upsOk s i && wayB p s i) && locksOk s && logB p s
structure Fine (p:Prog) (s:Sys) (t:Task):Prop where
 body:0<=t.body/\t.body < p.bodies.length
 pc:0<=t.pc/\t.pc<=(actsAt p.bodies t.body.toNat).length
 puts:PutsIn s.cells.length t.puts
theorem fine_of {p:Prog} {s:Sys} {t:Task} (h:formB p s t=true):Fine p s t:=by
 simp only [formB,placeB,Bool.and_eq_true,Bool.not_eq_true',decide_eq_true_eq,decide_eq_false_iff_not] at h;obtain ⟨⟨⟨⟨⟨⟨⟨⟨⟨⟨⟨⟨h1,h2⟩,h3⟩,-⟩,-⟩,-⟩,-⟩,-⟩,-⟩,-⟩,-⟩,-⟩,h13⟩:=h;exact ⟨h1,⟨by omega,by omega⟩,putsIn_of h13⟩
theorem stage_at {p:Prog} {s:Sys} {t:Task} (h:stageB p s t=true):0<=t.at_/\(t.stage=2\/t.stage=5->t.at_<=t.puts.length):=by
 unfold stageB at h;split at h
 ·simp only [Bool.and_eq_true,beq_iff_eq] at h
  omega
 ·simp only [Bool.and_eq_true] at h
  have h:=h.2;unfold restB placeB at h;repeat' split at h
  all_goals try simp only [Bool.and_eq_true,beq_iff_eq,decide_eq_true_eq] at h
  all_goals first | omega|(cases h)
theorem soEF {q:Prop} (h:q:=by
  go_wp2_with (first
  |((with_reducible refine gL ?_);refine oL rfl rfl M.out ?_)
  |(go_at_call 125;refine oCb M.out (iprogOk_calls p _ _ (kProg.K_below M.out.below HPK.out) HPZ.out) Y1.out ?_;clear M C;intro W M C;simp only [Cl] at C)
  |(go_at_call 126;refine oCb M.out (cellsOk_calls s _ _ (kSys.K_below M.out.below HSK.out) HSZ.out.cells) Y5.out ?_;clear M C;intro W M C;simp only [Cl] at C))
  go_ret;rw [HU.out];exact ⟨by simp,M.out.below⟩):q:=h
theorem isysOk_calls (p:Prog) (ps:List Value) (s:Sys) (ss:List Value) (w:World) (hp:kProg.K w p ps) (hs:kSys.K w s ss) (hpz:ProgSz p) (hsz:SysSz s):
  Calls Tryz.prog 89 #[.agg ps.toArray,.agg ss.toArray] w fun e w'=>e= .returned (.bool (isysB p s))/\Below w.heap.size w w':=by
 have HPK:=am hp;have HSK:=am hs;have HPZ:=am hpz;have HSZ:=am hsz;obtain ⟨Ac,cc,Ab,cb,rfl,-⟩:=kProg_open hp;obtain ⟨A0,c0,A1,c1,A3,c3,rfl,-,-,-,g1,-⟩:=kSys_open hs;have G1:=am g1;have HN:=HSZ.out.tasks;have M:=am (Own.nil w);have C:=M.out.cl;obtain ⟨b1,y1⟩:∃ b,progOk p=b:=⟨_,rfl⟩;obtain ⟨b2,y2⟩:∃ b,((s.cells.length:Int) == (p.cells.length:Int))=b:=⟨_,rfl⟩;obtain ⟨b3,y3⟩:∃ b,decide (s.clock < 0)=b:=⟨_,rfl⟩;obtain ⟨b4,y4⟩:∃ b,decide (200 < s.clock)=b:=⟨_,rfl⟩;obtain ⟨b5,y5⟩:∃ b,cellsB s=b:=⟨_,rfl⟩;obtain ⟨b6,y6⟩:∃ b,decide ((s.tasks.length:Int) < 1)=b:=⟨_,rfl⟩;obtain ⟨b7,y7⟩:∃ b,decide (7 < (s.tasks.length:Int))=b:=⟨_,rfl⟩;have HU:Aside0 (isysB p s=(b1 && b2 && !b3 && !b4 && b5 && !b6 && !b7 && allB s.tasks.length (fun i=>formB p s (taskAt s.tasks i) && stageB p s (taskAt s.tasks i)) && allB s.tasks.length (fun i=>upsOk s i && wayB p s i) && locksOk s && logB p s)):=⟨by rw [<-y1,<-y2,<-y3,<-y4,<-y5,<-y6,<-y7];rfl⟩;have y2n:((s.cells.length:Int) != (p.cells.length:Int))= !b2:=by rw [<-y2];rfl
 have Y1:=am y1;have Y2:=am y2;have Y3:=am y3;have Y4:=am y4;have Y5:=am y5;have Y6:=am y6;have Y7:=am y7;clear hp hs hpz hsz g1 y1 y5 y2;go_enter Tryz.func89,Tryz.ntmps89
 go_upto_region 1 with (first
 |((first|with_reducible refine gB ?_ | with_reducible refine gA ?_);refine oB rfl M.out ?_;clear M C;intro g W M C;simp only [Cl] at C))
 cases b1
 case false=>exact soEF
 cases b2
 case false=>exact soEF
 cases b3
 case true=>exact soEF
 cases b4
 case true=>exact soEF
 cases b5
 case false=>exact soEF
 cases b6
 case true=>exact soEF
 cases b7
 case true=>exact soEF
 have hk:0<=s.clock/\s.clock<=200:=⟨by have:=of_decide_eq_false Y3.out;omega,by have:=of_decide_eq_false Y4.out;omega⟩
 go_wp2_with (first
 |((with_reducible refine gL ?_);refine oL rfl rfl M.out ?_)
 |(go_at_call 125;refine oCb M.out (iprogOk_calls p _ _ (kProg.K_below M.out.below HPK.out) HPZ.out) Y1.out ?_;clear M C;intro W M C;simp only [Cl] at C)
 |(go_at_call 126;refine oCb M.out (cellsOk_calls s _ _ (kSys.K_below M.out.below HSK.out) HSZ.out.cells) Y5.out ?_;clear M C;intro W M C;simp only [Cl] at C))
 obtain ⟨L,EL,ML⟩:=Own.named M;go_loopw [6,48] (fun _ j w'=>∃ k:Nat,k<=s.tasks.length/\j= .int .i64 k/\Aside0 (∀ i,i < k->formB p s (taskAt s.tasks i)=true/\stageB p s (taskAt s.tasks i)=true)/\Aside0 (Own w w' L)) (fun _ j _=>s.tasks.length - (intOf j).toNat)
 case atStart=>exact ⟨0,Nat.zero_le _,rfl,⟨fun i hi=>by omega⟩,ML⟩
 case round=>
  obtain ⟨k,hk0,rfl,HJ,M2⟩:=hrel;have e_:=EL.out;subst e_;clear M C ML EL;have M:=M2;clear M2;have C:=M.out.cl;simp only [Cl] at C;by_cases hlt:k < s.tasks.length
  ·have q0:(0:Int)<=(k:Int):=by omega
   have q1:(k:Int) < (s.tasks.length:Int):=by omega
   obtain ⟨b,o,cs,rfl,hcl,hK,hcc,-⟩:=C_field G1.out zTask k hlt (by decide);obtain ⟨t,ht⟩:∃ x,x=taskAt s.tasks k:=⟨_,rfl⟩;rw [show s.tasks.getD k zTask=t from ht.symm] at hK;have HTK:=am hK;obtain ⟨B3,d3,B8,d8,B9,d9,B10,d10,rfl,-⟩:=kTask_open hK;have HC:=am hcc;have HT:=am ht;have HZT:=am (ht ▸ HSZ.out.task k hlt);obtain ⟨f1,z1⟩:∃ b,formB p s t=b:=⟨_,rfl⟩;obtain ⟨f2,z2⟩:∃ b,stageB p s t=b:=⟨_,rfl⟩;have Z1:=am z1;have Z2:=am z2;have HK:=am hk;clear hcl hK hcc ht z1 z2 hk;cases f1
   ·go_wp2_with (first
    |((first|with_reducible refine gB ?_ | with_reducible refine gA ?_);refine oB rfl M.out ?_;clear M C;intro g W M C;simp only [Cl] at C)
    |((with_reducible refine gL ?_);refine oR rfl rfl M.out HC.out ?_)
    |((with_reducible refine gS ?_);refine oS rfl rfl rfl M.out ?_;clear M C;intro W M C;simp only [Cl] at C)
    |((with_reducible refine gL ?_);refine oL rfl rfl M.out ?_)
    |(go_at_call 127;refine oCb M.out (formOk_calls p _ s _ t _ _ (kProg.K_below M.out.below HPK.out) (kSys.K_below M.out.below HSK.out) (kTask.K_below M.out.below HTK.out) HZT.out) Z1.out ?_;clear M C;intro W M C;simp only [Cl] at C))
    go_ret;rw [HU.out,show (allB s.tasks.length (fun i=>formB p s (taskAt s.tasks i) && stageB p s (taskAt s.tasks i)))=false from allB_no hlt (by rw [<-HT.out,Z1.out,Bool.false_and])];exact ⟨by simp,M.out.below⟩
   cases f2
   ·go_wp2_with (first
    |((first|with_reducible refine gB ?_ | with_reducible refine gA ?_);refine oB rfl M.out ?_;clear M C;intro g W M C;simp only [Cl] at C)
    |((with_reducible refine gL ?_);refine oR rfl rfl M.out HC.out ?_)
    |((with_reducible refine gS ?_);refine oS rfl rfl rfl M.out ?_;clear M C;intro W M C;simp only [Cl] at C)
    |((with_reducible refine gL ?_);refine oL rfl rfl M.out ?_)
    |(go_at_call 127;refine oCb M.out (formOk_calls p _ s _ t _ _ (kProg.K_below M.out.below HPK.out) (kSys.K_below M.out.below HSK.out) (kTask.K_below M.out.below HTK.out) HZT.out) Z1.out ?_;clear M C;intro W M C;simp only [Cl] at C)
    |(go_at_call 128;refine oCb M.out (stageOk_calls p _ s _ t _ _ (kProg.K_below M.out.below HPK.out) (kSys.K_below M.out.below HSK.out) (kTask.K_below M.out.below HTK.out) HPZ.out HK.out (fine_of Z1.out).body (fine_of Z1.out).pc) Z2.out ?_;clear M C;intro W M C;simp only [Cl] at C))
    go_ret;rw [HU.out,show (allB s.tasks.length (fun i=>formB p s (taskAt s.tasks i) && stageB p s (taskAt s.tasks i)))=false from allB_no hlt (by rw [<-HT.out,Z2.out,Bool.and_false])];exact ⟨by simp,M.out.below⟩
   go_wp2_with (first
   |((first|with_reducible refine gB ?_ | with_reducible refine gA ?_);refine oB rfl M.out ?_;clear M C;intro g W M C;simp only [Cl] at C)
   |((with_reducible refine gL ?_);refine oR rfl rfl M.out HC.out ?_)
   |((with_reducible refine gS ?_);refine oS rfl rfl rfl M.out ?_;clear M C;intro W M C;simp only [Cl] at C)
   |((with_reducible refine gL ?_);refine oL rfl rfl M.out ?_)
   |(go_at_call 127;refine oCb M.out (formOk_calls p _ s _ t _ _ (kProg.K_below M.out.below HPK.out) (kSys.K_below M.out.below HSK.out) (kTask.K_below M.out.below HTK.out) HZT.out) Z1.out ?_;clear M C;intro W M C;simp only [Cl] at C)
   |(go_at_call 128;refine oCb M.out (stageOk_calls p _ s _ t _ _ (kProg.K_below M.out.below HPK.out) (kSys.K_below M.out.below HSK.out) (kTask.K_below M.out.below HTK.out) HPZ.out HK.out (fine_of Z1.out).body (fine_of Z1.out).pc) Z2.out ?_;clear M C;intro W M C;simp only [Cl] at C))
   go_roundw
   case rel=>exact ⟨k+1,by omega,by go_num,⟨fun i hi=>by rcases Nat.lt_or_ge i k with h | h;exact HJ.out i h;obtain rfl:i=k:=(by omega);rw [<-HT.out];exact ⟨Z1.out,Z2.out⟩⟩,⟨M.out.pop⟩⟩
   case measure=>simp [intOf];omega
  ·obtain rfl:k=s.tasks.length:=by omega
   have HJ1:Aside0 (allB s.tasks.length (fun i=>formB p s (taskAt s.tasks i) && stageB p s (taskAt s.tasks i))=true):=⟨allB_iff.2 fun i hi=>by rw [(HJ.out i hi).1,(HJ.out i hi).2];rfl⟩;have s1:¬ (s.tasks.length:Int) < (s.tasks.length:Int):=by omega
   go_wp2_with fail
   clear s1 hk0 hlt;obtain ⟨L,EL,ML⟩:=Own.named M;go_loopw [7,68] (fun _ j w'=>∃ k:Nat,k<=s.tasks.length/\j= .int .i64 k/\Aside0 (∀ i,i < k->upsOk s i=true/\wayB p s i=true)/\Aside0 (Own w w' L)) (fun _ j _=>s.tasks.length - (intOf j).toNat)
   case atStart=>exact ⟨0,Nat.zero_le _,rfl,⟨fun i hi=>by omega⟩,ML⟩
   case round=>
    obtain ⟨k,hk0,rfl,HW,M2⟩:=hrel;have e_:=EL.out;subst e_;clear M C ML EL;have M:=M2;clear M2;have C:=M.out.cl;simp only [Cl] at C;by_cases hlt:k < s.tasks.length
    ·have q0:(0:Int)<=(k:Int):=by omega
     have q1:(k:Int) < (s.tasks.length:Int):=by omega
     have HFI:=am (fine_of (HJ.out k hlt).1);obtain ⟨f1,z1⟩:∃ b,upsOk s k=b:=⟨_,rfl⟩;obtain ⟨f2,z2⟩:∃ b,wayB p s k=b:=⟨_,rfl⟩;have Z1:=am z1;have Z2:=am z2;clear z1 z2;cases f1
     ·go_wp2_with (first
      |((with_reducible refine gL ?_);refine oL rfl rfl M.out ?_)
      |(go_at_call 129;refine oCb M.out (upOk_calls s _ k _ (kSys.K_below M.out.below HSK.out) hlt HN) Z1.out ?_;clear M C;intro W M C;simp only [Cl] at C))
      go_ret;rw [HU.out,show (allB s.tasks.length (fun i=>upsOk s i && wayB p s i))=false from allB_no hlt (by rw [Z1.out,Bool.false_and])];exact ⟨by simp,M.out.below⟩
     cases f2
     ·go_wp2_with (first
      |((with_reducible refine gL ?_);refine oL rfl rfl M.out ?_)
      |(go_at_call 129;refine oCb M.out (upOk_calls s _ k _ (kSys.K_below M.out.below HSK.out) hlt HN) Z1.out ?_;clear M C;intro W M C;simp only [Cl] at C)
      |(go_at_call 130;refine oCb M.out (wayOk_calls p _ s _ k _ (kProg.K_below M.out.below HPK.out) (kSys.K_below M.out.below HSK.out) HPZ.out hlt HN HFI.out.body HFI.out.pc) Z2.out ?_;clear M C;intro W M C;simp only [Cl] at C))
      go_ret;rw [HU.out,show (allB s.tasks.length (fun i=>upsOk s i && wayB p s i))=false from allB_no hlt (by rw [Z2.out,Bool.and_false])];exact ⟨by simp,M.out.below⟩
     go_wp2_with (first
     |((with_reducible refine gL ?_);refine oL rfl rfl M.out ?_)
     |(go_at_call 129;refine oCb M.out (upOk_calls s _ k _ (kSys.K_below M.out.below HSK.out) hlt HN) Z1.out ?_;clear M C;intro W M C;simp only [Cl] at C)
     |(go_at_call 130;refine oCb M.out (wayOk_calls p _ s _ k _ (kProg.K_below M.out.below HPK.out) (kSys.K_below M.out.below HSK.out) HPZ.out hlt HN HFI.out.body HFI.out.pc) Z2.out ?_;clear M C;intro W M C;simp only [Cl] at C))
     go_roundw
     case rel=>exact ⟨k+1,by omega,by go_num,⟨fun i hi=>by rcases Nat.lt_or_ge i k with h | h;exact HW.out i h;obtain rfl:i=k:=(by omega);exact ⟨Z1.out,Z2.out⟩⟩,M⟩
     case measure=>simp [intOf];omega
    ·obtain rfl:k=s.tasks.length:=by omega
     have HW1:Aside0 (allB s.tasks.length (fun i=>upsOk s i && wayB p s i)=true):=⟨allB_iff.2 fun i hi=>by rw [(HW.out i hi).1,(HW.out i hi).2];rfl⟩;have s1:¬ (s.tasks.length:Int) < (s.tasks.length:Int):=by omega
     obtain ⟨f1,z1⟩:∃ b,locksOk s=b:=⟨_,rfl⟩;have Z1:=am z1;clear z1;cases f1
     all_goals
      go_wp2_with (first
      |((with_reducible refine gL ?_);refine oL rfl rfl M.out ?_)
      |(go_at_call 131;refine oCb M.out (locksOk_calls s _ _ (kSys.K_below M.out.below HSK.out) HN HSZ.out.cells (fun i hi=>⟨(fine_of (HJ.out i hi).1).puts,(HSZ.out.task i hi).2.2.2,(stage_at (HJ.out i hi).2).1,(stage_at (HJ.out i hi).2).2⟩)) Z1.out ?_;clear M C;intro W M C;simp only [Cl] at C)
      |(go_at_call 132;refine oCb M.out (logOk_calls p _ s _ _ (kProg.K_below M.out.below HPK.out) (kSys.K_below M.out.below HSK.out) HSZ.out.log (fun i hi=>(fine_of (HJ.out i hi).1).body) HSZ.out.logs) rfl ?_;clear M C;intro W M C;simp only [Cl] at C))
      go_ret;rw [HU.out,HJ1.out,HW1.out,Z1.out];exact ⟨by simp,M.out.below⟩
theorem task_iff {p:Prog} {s:Sys} {i:Nat} (hb:begunTo s (kids s.tasks i) (kids s.tasks i).length=kidsN s.tasks i 0+kidsN s.tasks i 1+kidsN s.tasks i 2+kidsN s.tasks i 3):
  (formB p s (taskAt s.tasks i)=true/\stageB p s (taskAt s.tasks i)=true/\upsOk s i=true/\wayB p s i=true) ↔ taskOk p s i=true:=by
 unfold taskOk wayB wayOk;simp only [hb];generalize kidsN s.tasks i 0+kidsN s.tasks i 1+kidsN s.tasks i 2+kidsN s.tasks i 3=nb;generalize upsOk s i=u;generalize taskAt s.tasks i=t;unfold formB stageB timesOk;generalize actsAt p.bodies t.body.toNat=acts;generalize actAt acts t.pc.toNat=a;generalize numsOk t.regs 3=n1;generalize numsOk t.old 3=n2;generalize listOk t.reads s.cells.length=l1;generalize listOk t.puts s.cells.length=l2;unfold restB timedB stOk placeB inB;by_cases h0:t.stage=0
 ·simp only [h0,if_true,if_false,Bool.and_eq_true,Bool.or_eq_true,Bool.not_eq_true',decide_eq_true_eq,decide_eq_false_iff_not,beq_iff_eq]
  by_cases w0:t.way=0
  ·simp [w0];grind
  ·by_cases w1:t.way=1
   ·simp [w1];grind
   ·by_cases w2:t.way=2
    ·simp [w2];grind
    ·simp [w0,w1,w2];grind
 ·by_cases w0:t.way=0
  ·by_cases h1:t.stage=1
   ·simp [h1,w0];grind
   ·by_cases h2:t.stage=2
    ·simp [h2,w0];grind
    ·by_cases h3:t.stage=3
     ·simp [h3,w0];grind
     ·by_cases h4:t.stage=4
      ·simp [h4,w0];grind
      ·by_cases h5:t.stage=5
       ·simp [h5,w0];grind
       ·simp [h0,h1,h2,h3,h4,h5,w0];grind
  ·simp [h0,w0]
theorem cntTo_congr {f g:Nat->Bool}:∀ {n:Nat},(∀ i,i < n->f i=g i)->cntTo f n=cntTo g n
 | 0,_=>rfl
 | n+1,h=>by
  unfold cntTo;rw [cntTo_congr (fun i hi=>h i (by omega)),h n (by omega)]
theorem rd_lt {xs ys:List Int} {j:Nat} (h:j < xs.length):rd (xs ++ ys) (j:Int)=rd xs (j:Int):=by
 simp [rd,List.getD_eq_getElem?_getD,List.getElem?_append_left h]
theorem cnt_pick (p:Nat->Bool) (f:Int->Bool):∀ n:Nat,cntTo (fun j=>f (rd (pickTo p n) (j:Int))) (pickTo p n).length=cntTo (fun k=>p k && f (k:Int)) n
 | 0=>rfl
 | n+1=>by
  have ih:=cnt_pick p f n
  cases hp:p n with
  | false=>
   rw [pickTo_no hp,ih];show _=cntTo _ n+_
   simp [hp]
  | true=>
   rw [pickTo_yes hp,List.length_append];show cntTo _ (pickTo p n).length+(if _ then 1 else 0)=cntTo _ n+(if _ then 1 else 0);rw [cntTo_congr (g:=fun j=>f (rd (pickTo p n) (j:Int))) (fun j hj=>by rw [rd_lt hj]),ih];have:rd (pickTo p n ++ [(n:Int)]) ((pickTo p n).length:Int)=(n:Int):=by simp [rd]
   simp [this,hp]
theorem begun_eq {s:Sys} (hu:∀ k,k < s.tasks.length->upsOk s k=true) (hw:∀ k,k < s.tasks.length->0<=(taskAt s.tasks k).way/\(taskAt s.tasks k).way<=4) (i:Nat):
  begunTo s (kids s.tasks i) (kids s.tasks i).length=kidsN s.tasks i 0+kidsN s.tasks i 1+kidsN s.tasks i 2+kidsN s.tasks i 3:=by
 unfold begunTo kids;rw [cnt_pick (isKid s.tasks i) (fun x=> !decide ((taskAt s.tasks x.toNat).way=4))];unfold kidsN
 have key:∀ n,n<=s.tasks.length->cntTo (fun k=>isKid s.tasks i k && !decide ((taskAt s.tasks (k:Int).toNat).way=4)) n=
   cntTo (fun k=>decide ((taskAt s.tasks k).up=i) && decide ((taskAt s.tasks k).way=0)) n+cntTo (fun k=>decide ((taskAt s.tasks k).up=i) && decide ((taskAt s.tasks k).way=1)) n+
   cntTo (fun k=>decide ((taskAt s.tasks k).up=i) && decide ((taskAt s.tasks k).way=2)) n+cntTo (fun k=>decide ((taskAt s.tasks k).up=i) && decide ((taskAt s.tasks k).way=3)) n:=by
  intro n
  induction n with
  | zero=>intro _;rfl
  | succ n ih=>
   intro hn;unfold cntTo;rw [ih (by omega)];have h1:=hu n (by omega);have h2:=hw n (by omega);unfold upsOk at h1;unfold isKid;simp only [Int.toNat_natCast];by_cases hup:(taskAt s.tasks n).up=(i:Int)
   ·have hlt:(i:Int) < (n:Int):=by
     simp only [hup] at h1;split at h1
     ·simp at h1
     ·simp only [Bool.and_eq_true,inB_iff] at h1;omega
    simp only [hup,hlt,decide_true,Bool.and_true,Bool.true_and,show (0:Int)<=(i:Int) by omega];rcases (show (taskAt s.tasks n).way=0\/(taskAt s.tasks n).way=1\/(taskAt s.tasks n).way=2\/(taskAt s.tasks n).way=3\/(taskAt s.tasks n).way=4 by omega) with h | h | h | h | h <;> simp [h] <;> omega
   ·simp [hup]
 exact key _ (Nat.le_refl _)
theorem isys_eq (p:Prog) (s:Sys):isysB p s=sysOk p s:=by
 rw [Bool.eq_iff_iff]
 have hT:(∀ i,i < s.tasks.length->formB p s (taskAt s.tasks i)=true/\stageB p s (taskAt s.tasks i)=true)/\(∀ i,i < s.tasks.length->upsOk s i=true/\wayB p s i=true) ↔ ∀ i,i < s.tasks.length->taskOk p s i=true:=by
  constructor
  ·rintro ⟨h1,h2⟩ i hi
   refine (task_iff (begun_eq (fun k hk=>(h2 k hk).1) (fun k hk=> ?_) i)).1 ⟨(h1 i hi).1,(h1 i hi).2,(h2 i hi).1,(h2 i hi).2⟩
   have:=(h1 k hk).1
   unfold formB at this;simp only [Bool.and_eq_true,Bool.not_eq_true',decide_eq_false_iff_not] at this;omega
  ·intro h
   have hu:∀ k,k < s.tasks.length->upsOk s k=true/\(0<=(taskAt s.tasks k).way/\(taskAt s.tasks k).way<=4):=fun k hk=>by
    have:=h k hk
    unfold taskOk at this;simp only [Bool.and_eq_true,inB_iff] at this;grind
   exact ⟨fun i hi=>have:=(task_iff (begun_eq (fun k hk=>(hu k hk).1) (fun k hk=>(hu k hk).2) i)).2 (h i hi);⟨this.1,this.2.1⟩,fun i hi=>have:=(task_iff (begun_eq (fun k hk=>(hu k hk).1) (fun k hk=>(hu k hk).2) i)).2 (h i hi);this.2.2⟩
 have hC:(∀ i,i < s.tasks.length->formB p s (taskAt s.tasks i)=true/\stageB p s (taskAt s.tasks i)=true)->(cellsB s=true/\locksOk s=true ↔ cellsOk s=true):=by
  intro h;rw [locks_iff (fun i hi=>(fine_of (h i hi).1).puts) (fun i hi=>(stage_at (h i hi).2).1)];unfold cellsB cellsOk;simp only [allB_iff,Bool.and_eq_true,inB_iff,decide_eq_true_eq];constructor
  ·rintro ⟨h1,h2⟩ i hi
   refine ⟨⟨⟨(h1 i hi).1,(h1 i hi).2⟩,(h2 i hi).1⟩,fun k hk=> ?_⟩;rw [Bool.eq_iff_iff,(h2 i hi).2 k hk,decide_eq_true_eq]
  ·intro h2
   refine ⟨fun i hi=>(h2 i hi).1.1,fun i hi=>⟨(h2 i hi).1.2,fun k hk=> ?_⟩⟩;rw [(h2 i hi).2 k hk,decide_eq_true_eq]
 have hL:logB p s=logOk p s:=by
  unfold logB logOk logAt placeB inB
  congr 1
  funext i
  rw [Bool.eq_iff_iff];simp only [Bool.and_eq_true,Bool.not_eq_true',decide_eq_true_eq,decide_eq_false_iff_not];grind
 unfold isysB sysOk;simp only [hL,Bool.and_eq_true,Bool.not_eq_true',decide_eq_true_eq,decide_eq_false_iff_not,beq_iff_eq,allB_iff,inB_iff];constructor
 ·rintro ⟨⟨⟨⟨⟨⟨⟨⟨⟨⟨a,b⟩,c⟩,d⟩,e⟩,f⟩,g⟩,h⟩,i⟩,j⟩,k⟩
  exact ⟨⟨⟨⟨⟨⟨a,by omega⟩,by omega⟩,by omega⟩,hT.1 ⟨h,i⟩⟩,(hC h).1 ⟨e,j⟩⟩,k⟩
 ·rintro ⟨⟨⟨⟨⟨⟨a,b⟩,c⟩,d⟩,e⟩,f⟩,g⟩
  obtain ⟨h,i⟩:=hT.2 e;obtain ⟨x,y⟩:=(hC h).2 f;exact ⟨⟨⟨⟨⟨⟨⟨⟨⟨⟨a,by omega⟩,by omega⟩,by omega⟩,x⟩,by omega⟩,by omega⟩,h⟩,i⟩,y⟩,g⟩
theorem Own.copied {w W W1:World} {l:Bx} {own:Nat->Nat} {s:Sys} {vc vt vl:Value} (M:Own w W l) (hb:Below W.heap.size W W1) (hS:Sy W.heap.size own s vc vt vl W1):Own w W1 (.r (Tagged own) (SyF w.heap.size own s vc vt vl) :: l):=
 M.row hb (fun k hk=>⟨Nat.le_of_not_lt fun hlt=>hk (hS.low k hlt),Nat.lt_of_not_le fun hle=>hk (hS.new0 k hle)⟩) sy_stab (hS.lower M.below.size)
theorem Own.first2 {w W:World} {e1 e2:En} {l:Bx} (h:Own w W (e1 :: e2 :: l)):Own w W [e1,e2]:=by
 have ha:=h.apart;rw [List.pairwise_cons] at ha;refine ⟨h.below, ?_,fun e he=>h.fresh e (by simp at he;rcases he with rfl|rfl <;> simp),by simpa using ha.1 e2 (by simp)⟩;have hl:=h.lies;cases e1 <;> cases e2 <;> exact ⟨hl.1,hl.2.1,trivial⟩
def Runs (w:World) (p:Prog) (s:Sys) (g:Nat) (w':World):Prop:=∃ own vp vb vc vt vl,kProg.K w p [vp,vb]/\Own w w' [.b g #[vp,vb,vc,vt,.int .i64 s.clock,vl] 112,.r (Tagged own) (SyF w.heap.size own s vc vt vl)]
theorem newOk_calls (p:Prog) (ps:List Value) (s:Sys) (ss:List Value) (a:Addr) (w:World) (hp:kProg.K w p ps) (hs:kSys.K w s ss) (hpz:ProgSz p) (hsz:SysSz s) (he:w.cell? ⟨0,0,none⟩=some (.iface 253 (.pointer (some a)))) (ho:sysOk p s=true):
  Calls Tryz.prog 55 #[.agg ps.toArray,.agg ss.toArray] w fun e w'=>∃ g,e= .returned (.tuple #[.pointer (some ⟨g,0,none⟩),.nilIface])/\Runs w p s g w':=by
 have HPK:=am hp;have HSK:=am hs;obtain ⟨Ac,cc,Ab,cb,rfl,-⟩:=kProg_open hp;obtain ⟨A0,c0,A1,c1,A3,c3,rfl,-⟩:=kSys_open hs;have HPZ:=am hpz;have HSZ:=am hsz;have YO:=am ho;have M:=am (Own.nil w);have C:=M.out.cl;replace M:=am (M.out.far he);clear C;have C:=M.out.cl;simp only [Cl] at C;clear hp hs he ho;go_enter Tryz.func55,Tryz.ntmps55
 go_wp2_with (first
 |((first|with_reducible refine gB ?_ | with_reducible refine gA ?_);refine oB rfl M.out ?_;clear M C;intro g W M C;simp only [Cl] at C)
 |((with_reducible refine gL ?_);refine oL rfl rfl M.out ?_)
 |(go_at_call 89;refine oCb M.out (isysOk_calls p _ s _ _ (kProg.K_below M.out.below HPK.out) (kSys.K_below M.out.below HSK.out) HPZ.out HSZ.out) ((isys_eq p s).trans YO.out) ?_;clear M C;intro W M C;simp only [Cl] at C))
 refine eS [] (fun _ h=>h) M.out ?_;clear M C;intro W M;refine eN [0,1] M.out ?_;refine sL rfl rfl ?_;refine sL rfl rfl ?_;refine stillS_nil ?_;have C:=M.out.cl;simp only [Cl] at C;refine eO 2 rfl ?_
 go_wp2_with (first
 |(go_at_call 90;refine (sysCopy_calls s _ _ (kSys.K_below M.out.below HSK.out) HSZ.out.cells HSZ.out.tasks HSZ.out.log (fun i hi=>HSZ.out.task i hi) (fun i hi=>HSZ.out.logs i hi)).mono ?_;rintro e W1 ⟨own,vc,vt,vl,rfl,hS,hb⟩;obtain ⟨a0,d0,rfl⟩:=Kd.R_slice hS.cells;obtain ⟨a1,n1,d1,rfl⟩:=hS.slice3;obtain ⟨a3,d3,rfl⟩:=Kd.R_slice hS.log;replace M:=am (M.out.copied hb hS);clear C;have C:=M.out.cl;simp only [Cl] at C;clear hb hS))
 refine nI M.out.pop ?_
 try refine eA ?_
 refine eN [3] M.out.pop ?_
 (first|refine sP rfl ?_ | refine sG rfl ?_ | refine sU rfl ?_ | refine sN rfl ?_)
 refine stillS_nil ?_;refine eO 4 rfl ?_
 go_wp2_with (first
 |((first|with_reducible refine gB ?_ | with_reducible refine gA ?_);refine oB rfl M.out ?_;clear M C;intro g W M C;simp only [Cl] at C))
 refine nI M.out.pop.pop ?_
 try refine eA ?_
 refine eN [5,6] M.out.pop.pop ?_
 (first|refine sP rfl ?_ | refine sG rfl ?_ | refine sU rfl ?_ | refine sN rfl ?_)
 (first|refine sP rfl ?_ | refine sG rfl ?_ | refine sU rfl ?_ | refine sN rfl ?_)
 refine stillS_nil ?_;refine eD ?_
 go_wp2_with (first
  | fail)
 go_ret2;exact ⟨_,rfl,own,_,_,_,_,_,HPK.out,M.out.first2⟩
theorem newNo_calls (p:Prog) (ps:List Value) (s:Sys) (ss:List Value) (a:Addr) (w:World) (hp:kProg.K w p ps) (hs:kSys.K w s ss) (hpz:ProgSz p) (hsz:SysSz s) (he:w.cell? ⟨0,0,none⟩=some (.iface 253 (.pointer (some a)))) (ho:sysOk p s=false):
  Calls Tryz.prog 55 #[.agg ps.toArray,.agg ss.toArray] w fun e w'=>e= .returned (.tuple #[.pointer none,.iface 253 (.pointer (some a))])/\Below w.heap.size w w':=by
 have HPK:=am hp;have HSK:=am hs;obtain ⟨Ac,cc,Ab,cb,rfl,-⟩:=kProg_open hp;obtain ⟨A0,c0,A1,c1,A3,c3,rfl,-⟩:=kSys_open hs;have HPZ:=am hpz;have HSZ:=am hsz;have YO:=am ho;have M:=am (Own.nil w);have C:=M.out.cl;replace M:=am (M.out.far he);clear C;have C:=M.out.cl;simp only [Cl] at C;clear hp hs he ho;go_enter Tryz.func55,Tryz.ntmps55
 go_wp2_with (first
 |((first|with_reducible refine gB ?_ | with_reducible refine gA ?_);refine oB rfl M.out ?_;clear M C;intro g W M C;simp only [Cl] at C)
 |((with_reducible refine gL ?_);refine oL rfl rfl M.out ?_)
 |(go_at_call 89;refine oCb M.out (isysOk_calls p _ s _ _ (kProg.K_below M.out.below HPK.out) (kSys.K_below M.out.below HSK.out) HPZ.out HSZ.out) ((isys_eq p s).trans YO.out) ?_;clear M C;intro W M C;simp only [Cl] at C))
 refine eS [] (fun _ h=>h) M.out ?_;clear M C;intro W M;refine eN [0,1,2] M.out ?_;(first|refine sP rfl ?_ | refine sG rfl ?_ | refine sU rfl ?_ | refine sN rfl ?_);(first|refine sP rfl ?_ | refine sG rfl ?_ | refine sU rfl ?_ | refine sN rfl ?_);(first|refine sP rfl ?_ | refine sG rfl ?_ | refine sU rfl ?_ | refine sN rfl ?_);refine stillS_nil ?_;refine eD ?_
 go_wp2_with (first
  | fail)
 go_ret2;exact ⟨rfl,M.out.below⟩
end Go.Proofs.YtclangliilnijaaGreatDoor.Eq









namespace Go.Proofs.YtclangliilnijaaGreatDoor.Eq
section
variable {p:Prog} {s s':Sys} {i:Nat} {N:Nat}
theorem cntTo_pos {f:Nat->Bool}:∀ {n:Nat},0 < cntTo f n ↔ ∃ k,k < n/\f k=true
 | 0=>⟨fun h=>absurd h (Nat.lt_irrefl _),fun ⟨k,hk,_⟩=>absurd hk (Nat.not_lt_zero _)⟩
 | n+1=>by
  unfold cntTo;constructor
  ·intro h
   by_cases hf:f n=true
   ·exact ⟨n,Nat.lt_succ_self _,hf⟩
   ·rw [if_neg hf] at h
    obtain ⟨k,hk,hfk⟩:=cntTo_pos.1 (by omega:0 < cntTo f n);exact ⟨k,by omega,hfk⟩
  ·rintro ⟨k,hk,hfk⟩
   by_cases hkn:k=n
   ·rw [if_pos (hkn ▸ hfk)];omega
   ·have:=cntTo_pos.2 ⟨k,(by omega:k < n),hfk⟩
    omega
theorem kidsN_pos {ts:List Task} {w:Int}:0 < kidsN ts i w ↔ ∃ k,k < ts.length/\(taskAt ts k).up=i/\(taskAt ts k).way=w:=by
 unfold kidsN;rw [cntTo_pos];simp
end
end Go.Proofs.YtclangliilnijaaGreatDoor.Eq
namespace Go.Proofs.YtclangliilnijaaGreatDoor.Eq
open Go.RowKit Go.Proofs.YtclangliilnijaaGreatDoorW.PrintWords Go.Proofs.YtclangliilnijaaGreatDoorW.PrintLast Go.Proofs.YtclangliilnijaaGreatDoorW.PrintMore
def RU (p:Prog) (s:Sys) (g:Nat) (w:World):Prop:=∃ vp vb vc vt vl,w.heap[g]? = some (.cells #[vp,vb,vc,vt,.int .i64 s.clock,vl] 112 (0,0))/\kProg.K w p [vp,vb]/\kSys.K w s [vc,vt,.int .i64 s.clock,vl]
theorem RU.below {p:Prog} {s:Sys} {g:Nat} {w w':World} (h:RU p s g w) (hb:Below w.heap.size w w'):RU p s g w':=by
 obtain ⟨vp,vb,vc,vt,vl,h1,h2,h3⟩:=h;exact ⟨vp,vb,vc,vt,vl,zb8 h1 hb,kProg.K_below hb h2,kSys.K_below hb h3⟩
theorem Runs.ru {w w':World} {p:Prog} {s:Sys} {g:Nat} (h:Runs w p s g w'):RU p s g w':=by
 obtain ⟨own,vp,vb,vc,vt,vl,hp,M⟩:=h;have hS:Sy w.heap.size own s vc vt vl w':=M.get (F:=SyF _ _ _ _ _ _);exact ⟨vp,vb,vc,vt,vl,M.lies.1,kProg.K_below M.below hp,hS.read⟩
theorem Own.known {w W:World} {l:Bx} {g:Nat} {cs:Array Value} {t:TypeId} (h:Own w W l) (hb:w.heap[g]? = some (.cells cs t (0,0))):Own w W (.kp g cs t :: l):=
 ⟨h.below,⟨zb8 hb h.below,h.lies⟩,fun e he=>by
  rcases List.mem_cons.1 he with rfl | he
  ·exact blk_lt hb
  ·exact h.fresh e he,List.Pairwise.cons (fun e he k hk=>by cases hk) h.apart⟩
theorem gU {P:Program} {ops:Array Oper} {rest:List Oper} {a:Go.Act} {Q:Exit->Go.Act->World->Prop} {W:World} {t:TypeId} {x:Operand} {N:Tmp} {ty:TypeId} {ps:String} {af:Array Edge} {j:Nat} {b:Bool} (hy:yielded ops a.tmps j=some b)
  (h:wpList P ops Q ({dst:=some N,op:=.load t x,type:=ty,pos:=ps,after:=af,guard:=none} :: rest) a W):wpList P ops Q ({dst:=some N,op:=.load t x,type:=ty,pos:=ps,after:=af,guard:=some (j,b)} :: rest) a W:=by
 have hw:Region.wanted {dst:=some N,op:=.load t x,type:=ty,pos:=ps,after:=af,guard:=some (j,b)} (yielded ops a.tmps)=true:=by rw [wanted_some rfl hy,beq_self_eq_true]
 unfold wpList at h ⊢;rw [if_pos (wanted_none rfl)] at h;rw [if_pos hw];exact h
def anyT (s:Sys) (f:Task->Bool) (ks:List Int) (n:Nat):Bool:=(ks.take n).any fun x=>f (taskAt s.tasks x.toNat)
theorem anyT_next {s:Sys} {f:Task->Bool} {ks:List Int} {k:Nat} (h:k < ks.length):anyT s f ks (k+1)=(anyT s f ks k || f (taskAt s.tasks (rd ks k).toNat)):=by
 unfold anyT;rw [List.take_succ_eq_append_getElem h,List.any_append];simp [rd,h]
def isFailed (t:Task):Bool:=decide (t.way=3)
theorem kidsI_calls (p:Prog) (s:Sys) (g:Nat) (task:Int) (w:World) (h:RU p s g w) (hn:s.tasks.length<=1048576):
  Calls Tryz.prog 137 #[.pointer (some ⟨g,0,none⟩),.int .i64 task] w fun e w'=>e= .returned (.tuple #[.bool (anyT s isFailed (kids s.tasks task) (kids s.tasks task).length),.bool (anyT s isLive (kids s.tasks task) (kids s.tasks task).length)])/\Below w.heap.size w w':=by
 obtain ⟨vp,vb,vc,vt,vl,hblk,-,hs⟩:=h;have HSK:=am hs;obtain ⟨A0,c0,A1,c1,A3,c3,he,-,-,-,g1,-⟩:=kSys_open hs;simp only [List.cons.injEq,and_true,true_and] at he;obtain ⟨rfl,rfl,rfl⟩:=he;have HG:=am hblk;have G1:=am g1;have HN:=am hn;obtain ⟨ks,hks⟩:∃ x,x=kids s.tasks task:=⟨_,rfl⟩;have HKS:=am hks;have M:=am (Own.nil w);have C:=M.out.cl;replace M:=am (M.out.known hblk);clear C;have C:=M.out.cl;simp only [Cl] at C;clear hblk hs g1 hks;go_enter Tryz.func137,Tryz.ntmps137
 go_wp2_with (first
 |((with_reducible refine gL ?_);refine oR rfl rfl M.out (fun j u hj=>seg6 HG.out hj) ?_)
 |(go_at_call 148;refine (implKids_calls s _ _ _ (kSys.K_below M.out.below HSK.out) HN.out).mono ?_;rintro e W1 ⟨v,rfl,hv,hb⟩;obtain ⟨A,c,rfl,-,hcv⟩:=Kd.R_reads hv;have HB0:=am (below_step M.out.below hb);have KX:=am hcv;clear hv hcv;have M1:=am (M.out.step hb).rebase;simp only [List.map_cons,List.map_nil,En.old] at M1;clear M C hb;have M:=M1;clear M1;have C:=M.out.cl;simp only [Cl] at C))
 rw [<-HKS.out] at KX ⊢;obtain ⟨L,EL,ML⟩:=Own.named M;go_loopw [4,5,7,15] (fun fv av _ j w'=>∃ k:Nat,k<=ks.length/\fv= .bool (anyT s isFailed ks k)/\av= .bool (anyT s isLive ks k)/\j= .int .i64 k/\Aside0 (Own W1 w' L)) (fun _ _ _ j _=>ks.length - (intOf j).toNat)
 case atStart=>exact ⟨0,Nat.zero_le _,rfl,rfl,rfl,ML⟩
 case round=>
  obtain ⟨k,hk,rfl,rfl,rfl,M2⟩:=hrel;have e:=EL.out;subst e;clear M C ML EL;have M:=M2;clear M2;have C:=M.out.cl;simp only [Cl] at C;obtain ⟨bf,yf⟩:∃ b,anyT s isFailed ks k=b:=⟨_,rfl⟩;obtain ⟨ba,ya⟩:∃ b,anyT s isLive ks k=b:=⟨_,rfl⟩;by_cases hlt:k < ks.length
  ·have s0:(0:Int)<=(k:Int):=by omega
   have s1:(k:Int) < (ks.length:Int):=by omega
   obtain ⟨ad,ed,hx⟩:=Kd.at_int KX.out (k:Int) s0 s1;cases ed;simp only [Int.toNat_natCast] at hx;obtain ⟨n,hn,-,-,-,hkn⟩:=mem_kids.1 (show rd ks (k:Int) ∈ kids s.tasks task by rw [<-HKS.out];exact rd_mem hlt);rw [hkn] at hx;obtain ⟨b',o',cs',eb,hcl',hK',hcc',-⟩:=C_field (Kd.C_below G1.out HB0.out) zTask n hn (by decide);cases eb;obtain ⟨t,ht⟩:∃ x,x=taskAt s.tasks n:=⟨_,rfl⟩;rw [show s.tasks.getD n zTask=t from ht.symm] at hK';have HKT:=am hK';have HCC:=am hcc';obtain ⟨B3',d3',B8',d8',B9',d9',B10',d10',rfl,-⟩:=kTask_open hK';have p4:=hcc' 4 _ rfl;simp only [show kTask.sz=13 from rfl] at p4;have HL:ks.length<=1048576:=by rw [HKS.out];exact Nat.le_trans (pickTo_length _ _) HN.out
   replace M:=am ((M.out.far hx).far p4);clear C;have C:=M.out.cl;simp only [Cl] at C;have n0:(0:Int)<=(n:Int):=by omega
   have n1:(n:Int) < (s.tasks.length:Int):=by omega
   have hb1:anyT s isFailed ks (k+1)=(bf || decide (t.way=3)):=by rw [anyT_next hlt,hkn,Int.toNat_natCast,yf,ht];rfl
   have hb2:anyT s isLive ks (k+1)=(ba || isLive t):=by rw [anyT_next hlt,hkn,Int.toNat_natCast,ya,ht]
   have HX:=am (And.intro hb1 hb2);obtain ⟨bl,yl⟩:∃ b,isLive t=b:=⟨_,rfl⟩;have YL:=am yl;obtain ⟨b3,y3⟩:∃ b,decide (t.way=3)=b:=⟨_,rfl⟩;have z3:(t.way == 3)=b3:=by rw [<-y3];rfl
   rw [y3,yl] at HX;rw [yf,ya];clear hx hK' hcc' hcl' p4 hkn hb1 hb2 yl y3 yf ya ht;cases bf <;> cases ba <;> cases b3 <;> cases bl
   all_goals
    go_wp2_with (first
    |((with_reducible refine gU ?_ ?_);rfl;refine oR rfl rfl M.out HCC.out ?_)
    |(go_at_call 80;refine oCb M.out (live_calls _ _ _ (kTask.K_below M.out.below HKT.out)) YL.out ?_;clear M C;intro W M C;simp only [Cl] at C))
    go_roundw
    case rel=>exact ⟨k+1,by omega,by rw [HX.out.1];rfl,by rw [HX.out.2];rfl,by go_num,⟨M.out.pop.pop⟩⟩
    case measure=>simp [intOf];omega
  ·obtain rfl:k=ks.length:=by omega
   have s1:¬ (ks.length:Int) < (ks.length:Int):=by omega
   rw [yf,ya];go_wp2;go_ret2;exact ⟨by rw [<-HKS.out,yf,ya];first | rfl | simp,below_step HB0.out M.out.below⟩
theorem canDo_kids {p:Prog} {s:Sys} {N:Nat} (h:Inv p s N) {k:Nat} (hk:k < s.tasks.length) (h1:(tk s k).way=1) (hc:s.clock < 200):ready s k=(anyT s isFailed (kids s.tasks k) (kids s.tasks k).length || !anyT s isLive (kids s.tasks k) (kids s.tasks k).length):=by
 have hm:∀ x,x ∈ kids s.tasks k ↔ ∃ i:Nat,i < s.tasks.length/\(taskAt s.tasks i).up=(k:Int)/\x=(i:Int):=fun x=>by
  rw [mem_kids];constructor
  ·rintro ⟨i,a,b,c,d,e⟩;exact ⟨i,a,c,e⟩
  ·rintro ⟨i,a,b,c⟩;exact ⟨i,a,by omega,b,by have:=(h.task i a).up1;have e:(tk s i).up=(k:Int):=b;omega,c⟩
 have e1:anyT s isFailed (kids s.tasks k) (kids s.tasks k).length=decide (0 < kidsN s.tasks k 3):=by
  rw [Bool.eq_iff_iff,decide_eq_true_eq,kidsN_pos];unfold anyT;rw [List.take_length,List.any_eq_true];constructor
  ·rintro ⟨x,hx,hf⟩
   obtain ⟨i,a,b,rfl⟩:=(hm x).1 hx;exact ⟨i,a,b,by simpa [isFailed] using hf⟩
  ·rintro ⟨i,a,b,c⟩
   exact ⟨(i:Int),(hm _).2 ⟨i,a,b,rfl⟩,by simpa [isFailed] using c⟩
 have e2:anyT s isLive (kids s.tasks k) (kids s.tasks k).length= !decide (kidsN s.tasks k 0+kidsN s.tasks k 1=0):=by
  rw [Bool.eq_iff_iff,Bool.not_eq_true',decide_eq_false_iff_not];unfold anyT;rw [List.take_length,List.any_eq_true];constructor
  ·rintro ⟨x,hx,hf⟩
   obtain ⟨i,a,b,rfl⟩:=(hm x).1 hx;rw [Int.toNat_natCast] at hf;simp only [isLive,Bool.or_eq_true,decide_eq_true_eq] at hf;rcases hf with hf | hf
   ·have:=(kidsN_pos (i:=k)).2 ⟨i,a,b,hf⟩;omega
   ·have:=(kidsN_pos (i:=k)).2 ⟨i,a,b,hf⟩;omega
  ·intro hne
   rcases Nat.eq_zero_or_pos (kidsN s.tasks k 0) with h0 | h0
   ·obtain ⟨i,a,b,c⟩:=(kidsN_pos (i:=k)).1 (show 0 < kidsN s.tasks k 1 by omega)
    exact ⟨(i:Int),(hm _).2 ⟨i,a,b,rfl⟩,by rw [Int.toNat_natCast];simp [isLive,c]⟩
   ·obtain ⟨i,a,b,c⟩:=(kidsN_pos (i:=k)).1 h0
    exact ⟨(i:Int),(hm _).2 ⟨i,a,b,rfl⟩,by rw [Int.toNat_natCast];simp [isLive,c]⟩
 rw [e1,e2,Bool.not_not];unfold ready;simp only [];rw [if_neg (by omega),if_neg (by omega),if_pos h1]
theorem readyI_calls {N:Nat} (p:Prog) (s:Sys) (g:Nat) (task:Int) (w:World) (h:RU p s g w) (hi:Inv p s N) (hn:s.tasks.length<=1048576):
  Calls Tryz.prog 93 #[.pointer (some ⟨g,0,none⟩),.int .i64 task] w fun e w'=>e= .returned (.bool (canDo s task))/\Below w.heap.size w w':=by
 have HRU:=am h;obtain ⟨vp,vb,vc,vt,vl,hblk,-,hs⟩:=h;obtain ⟨A0,c0,A1,c1,A3,c3,he,-,-,-,g1,-⟩:=kSys_open hs;simp only [List.cons.injEq,and_true,true_and] at he;obtain ⟨rfl,rfl,rfl⟩:=he;have G1:=am g1;have HN:=am hn;have HI:=am hi;have M:=am (Own.nil w);have C:=M.out.cl;replace M:=am (M.out.known hblk);clear C;have C:=M.out.cl;simp only [Cl] at C;clear hblk hs g1 hi;go_enter Tryz.func93,Tryz.ntmps93;obtain ⟨bp,yp⟩:∃ b,(decide (0<=task) && decide (task < (s.tasks.length:Int)))=b:=⟨_,rfl⟩;have YP:=am yp;clear yp;cases bp
 ·have HU:=am (show canDo s task=false by unfold canDo;rw [inB_not.2 (by have:=YP.out;simp at this;omega)];rfl)
  go_wp2_with (first
  |(go_at_call 136;refine (isPlace_calls _ _ _).mono ?_;rintro e W ⟨rfl,rfl⟩;rw [YP.out]))
  go_ret;rw [HU.out];exact ⟨rfl,M.out.below⟩
 ·have hpl:0<=task/\task < (s.tasks.length:Int):=by have:=YP.out;simpa using this
  obtain ⟨k,rfl⟩:=Int.eq_ofNat_of_zero_le hpl.1;have hk:k < s.tasks.length:=by omega
  have HCD:=am (show canDo s (k:Int)=ready s k by unfold canDo;rw [inB_iff.2 (by omega)];rfl);obtain ⟨b,o,cs,rfl,hcl,hK,hcc,-⟩:=C_field G1.out zTask k hk (by decide);obtain ⟨t,ht⟩:∃ x,x=tk s k:=⟨_,rfl⟩;rw [show s.tasks.getD k zTask=t from ht.symm] at hK;have HT:=am ht;obtain ⟨B3,d3,B8,d8,B9,d9,B10,d10,rfl,-⟩:=kTask_open hK;have p4:=hcc 4 _ rfl;have p5:=hcc 5 _ rfl;have p11:=hcc 11 _ rfl;simp only [show kTask.sz=13 from rfl] at p4 p5 p11;replace M:=am (((M.out.far p4).far p5).far p11);clear C;have C:=M.out.cl;simp only [Cl] at C;have q0:(0:Int)<=(k:Int):=by omega
  have q1:(k:Int) < (s.tasks.length:Int):=by omega
  have HK:=am hk;clear hcl hK hcc ht p4 p5 p11 hpl hk;by_cases hc:200<=s.clock
  ·have yc:decide (200<=s.clock)=true:=decide_eq_true hc
   have HU:=am (show canDo s (k:Int)=false by rw [HCD.out];unfold ready;simp only [];rw [if_pos hc])
   go_wp2_with (first
   |(go_at_call 136;refine (isPlace_calls _ _ _).mono ?_;rintro e W ⟨rfl,rfl⟩;rw [YP.out]))
   go_ret;rw [HU.out];exact ⟨rfl,M.out.below⟩
  ·have yc:decide (200<=s.clock)=false:=decide_eq_false hc
   have HC:=am hc;clear hc;by_cases h0:t.way=0
   ·have y0:(t.way == 0)=true:=by simp [h0]
    obtain ⟨b5,y5⟩:∃ b,(t.stage != 0)=b:=⟨_,rfl⟩;obtain ⟨bw,yw⟩:∃ b,decide (t.when_<=s.clock)=b:=⟨_,rfl⟩;have HU:=am (show canDo s (k:Int)=(b5 || bw) by rw [HCD.out,<-y5,<-yw];unfold ready;simp only [];rw [if_neg HC.out,<-HT.out,if_pos h0];congr 1);clear h0;cases b5
    all_goals
     go_wp2_with (first
     |(go_at_call 136;refine (isPlace_calls _ _ _).mono ?_;rintro e W ⟨rfl,rfl⟩;rw [YP.out]))
     refine dS M.out ?_;clear M C;intro W M;refine dN [0,1,2,3,4,5,6,7,8,9,10,11,12,13,14,15,16,17] M.out ?_;iterate 18 (first|refine sP rfl ?_ | refine sG rfl ?_ | refine sU rfl ?_ | refine sN rfl ?_)
     refine stillS_nil ?_;refine dD ?_;have C:=M.out.cl;simp only [Cl] at C;go_wp2;go_ret;rw [HU.out];exact ⟨rfl,M.out.below⟩
   ·have y0:(t.way == 0)=false:=by simpa using h0
    by_cases h1:t.way=1
    ·have y1:(t.way == 1)=true:=by simp [h1]
     obtain ⟨bf,yf⟩:∃ b,anyT s isFailed (kids s.tasks k) (kids s.tasks k).length=b:=⟨_,rfl⟩;obtain ⟨bl,yl⟩:∃ b,anyT s isLive (kids s.tasks k) (kids s.tasks k).length=b:=⟨_,rfl⟩;have YF:=am yf;have YL:=am yl;have HU:=am (show canDo s (k:Int)=(bf || !bl) by rw [HCD.out,canDo_kids HI.out HK.out (by rw [<-HT.out];exact h1) (by have:=HC.out;omega),yf,yl]);clear h0 h1 yf yl;cases bf <;> cases bl
     all_goals
      go_wp2_with (first
      |(go_at_call 136;refine (isPlace_calls _ _ _).mono ?_;rintro e W ⟨rfl,rfl⟩;rw [YP.out])
      |(go_at_call 137;refine (kidsI_calls p s g _ _ (HRU.out.below M.out.below) HN.out).mono ?_;rintro e W ⟨rfl,hb⟩;rw [YF.out,YL.out];replace M:=am (M.out.step hb);clear C;have C:=M.out.cl;simp only [Cl] at C;clear hb))
      go_ret;rw [HU.out];exact ⟨rfl,M.out.below⟩
    ·have y1:(t.way == 1)=false:=by simpa using h1
     have HU:=am (show canDo s (k:Int)=false by rw [HCD.out];unfold ready;simp only [];rw [if_neg HC.out,<-HT.out,if_neg h0,if_neg h1]);clear h0 h1
     go_wp2_with (first
     |(go_at_call 136;refine (isPlace_calls _ _ _).mono ?_;rintro e W ⟨rfl,rfl⟩;rw [YP.out]))
     go_ret;rw [HU.out];exact ⟨rfl,M.out.below⟩
theorem Own.none_ {α:Type} {d:Kd α} {e:Nat} {w W:World} {l:Bx} (M:Own w W l):Own w W (.r (fun _=>False) (Rw d e w.heap.size (fun _=>False) (.slice none 0 0) ([]:List α)) :: l):=
 M.row (Below.refl _ _) (fun k hk=>hk.elim) (fun V V' hs hk hV=>Kd.R_step hV (fun k h1 h2=>hk k h1 h2)) (Kd.R_nil _ _ _ _ _)
theorem Own.grew {α:Type} {d:Kd α} {e:Nat} {ok:Nat->Prop} {v v1:Value} {xs ys:List α} {w W W1:World} {l:Bx} (M:Own w W (.r ok (Rw d e w.heap.size ok v xs) :: l)) (hg:W.grownBy W1 v.ownBlock) (hr:d.R e W1 w.heap.size (fun k=>ok k\/W.heap.size<=k) v1 ys):
  ∃ ok',Own w W1 (.r ok' (Rw d e w.heap.size ok' v1 ys) :: l):=
 ⟨fun k=>(ok k\/W.heap.size<=k)/\k < W1.heap.size,M.turn hg (fun k hk=>(M.gotten:d.R e W w.heap.size ok v xs).1 k hk) (fun k hk=>hk) (fun V V' hs hk hV=>Kd.R_step hV (fun k h1 h2=>hk k h1 h2)) (Kd.R_mono (Kd.R_bound hr) (fun k hk=>⟨hk.1,hk.2.2.1⟩))⟩
theorem readyL_calls {N:Nat} (p:Prog) (s:Sys) (g:Nat) (w:World) (h:RU p s g w) (hi:Inv p s N) (hn:s.tasks.length<=1048576):
  Calls Tryz.prog 57 #[.pointer (some ⟨g,0,none⟩)] w fun e w'=>∃ v,e= .returned v/\(Kd.int .i64).R 3 w' w.heap.size (fun _=>True) v (pickTo (fun i=>ready s i) s.tasks.length)/\Below w.heap.size w w':=by
 have HRU:=am h;obtain ⟨vp,vb,vc,vt,vl,hblk,-,hs⟩:=h;obtain ⟨A0,c0,A1,c1,A3,c3,he,-⟩:=kSys_open hs;simp only [List.cons.injEq,and_true,true_and] at he;obtain ⟨rfl,rfl,rfl⟩:=he;have HN:=am hn;have HI:=am hi;have M:=am (Own.nil w);have C:=M.out.cl;replace M:=am ((M.out.known hblk).none_ (d:=Kd.int .i64) (e:=3));clear C;have C:=M.out.cl;simp only [Cl] at C;clear hblk hs hi;go_enter Tryz.func57,Tryz.ntmps57
 go_wp2_with (first
  | fail)
 obtain ⟨L,EL,ML⟩:=Own.namedT M;obtain ⟨f,hf⟩:∃ f,f=fun i=>ready s i:=⟨_,rfl⟩
 have HF:=am hf;clear hf;go_loopw [3,4,11] (fun v _ j w'=>∃ (k:Nat) (ok:Nat->Prop),k<=s.tasks.length/\j= .int .i64 k/\Aside0 (Own w w' (.r ok (Rw (Kd.int .i64) 3 w.heap.size ok v (pickTo f k)) :: L))) (fun _ _ j _=>s.tasks.length - (intOf j).toNat)
 case atStart=>exact ⟨0,_,Nat.zero_le _,rfl,ML⟩
 case round=>
  obtain ⟨k,ok,hk,rfl,M2⟩:=hrel;have e:=EL.out;subst e;clear M C ML EL;have M:=M2;clear M2;have C:=M.out.cl;simp only [Cl] at C;have hlen:=pickTo_length f k;by_cases hlt:k < s.tasks.length
  ·have q0:(0:Int)<=(k:Int):=by omega
   have q1:(k:Int) < (s.tasks.length:Int):=by omega
   obtain ⟨b,yb⟩:∃ b,f k=b:=⟨_,rfl⟩;have YB:=am yb;have YR:=am (show canDo s (k:Int)=b by unfold canDo;rw [inB_iff.2 (by omega),<-yb,HF.out];rfl);clear yb;cases b
   ·go_wp2_with (first
    |(go_at_call 93;refine (readyI_calls p s g _ _ (HRU.out.below M.out.below) HI.out HN.out).mono ?_;rintro e W ⟨rfl,hb⟩;rw [YR.out];replace M:=am (M.out.step hb);clear C;have C:=M.out.cl;simp only [Cl] at C;clear hb))
    go_roundw
    case rel=>exact ⟨k+1,ok,by omega,by go_num,⟨by rw [pickTo_no YB.out];exact M.out⟩⟩
    case measure=>simp [intOf];omega
   ·go_wp2_with (first
    |(go_at_call 93;refine (readyI_calls p s g _ _ (HRU.out.below M.out.below) HI.out HN.out).mono ?_;rintro e W ⟨rfl,hb⟩;rw [YR.out];replace M:=am (M.out.step hb);clear C;have C:=M.out.cl;simp only [Cl] at C;clear hb)
    |((with_reducible refine gate_builtin (b:=.append) (xs:=#[.tmp 17,.tmp 19]) rfl ?_);at_builtin;refine Kd.R_append (Kd.int .i64) (w0:=w) w.heap.size rfl (.tmp 17) (.tmp 19) 22 3 (.int .i64 0) 8 rfl Tryz.underlying22 info_int rfl (by decide) (by omega) _ (pickTo f k) (k:Int) [.int .i64 (k:Int)] (fun q=>ok q\/W.heap.size<=q) (fun _=>False) rfl rfl rfl (fun _ hk=>hk.elim) (fun q hq=> .inr hq) (Kd.R_mono M.out.gotten (fun q hq=> .inl hq)) M.out.below M.out.below.size (by omega) ?_;intro v1 W1 hv hb hg _;obtain ⟨ok2,m2⟩:=M.out.grew hg hv;replace M:=am (m2);clear C;have C:=M.out.cl;simp only [Cl] at C;clear m2 hv hb hg))
    go_roundw
    case rel=>exact ⟨k+1,ok2,by omega,by go_num,⟨by rw [pickTo_yes YB.out];exact M.out⟩⟩
    case measure=>simp [intOf];omega
  ·obtain rfl:k=s.tasks.length:=by omega
   have q1:¬ (s.tasks.length:Int) < (s.tasks.length:Int):=by omega
   go_wp2;go_ret;exact ⟨_,rfl,by rw [<-HF.out];exact Kd.R_mono M.out.gotten (fun _ _=>trivial),M.out.below⟩
def readyIn (s:Sys):List Int:=pickTo (fun i=>ready s i) s.tasks.length
def readyB (p:Prog) (s:Sys):List Int:=if sysOk p s then readyIn s else []
def overB (p:Prog) (s:Sys):Bool:=sysOk p s && decide (readyIn s= [])
theorem eqNil (w:World):(binOp .eql 93 .nilIface .nilIface).run Tryz.prog w= .ok (.bool true) w:=by
 have h:∀ d:Nat,(Op.equalIn (d+1) 93 .nilIface .nilIface).run Tryz.prog w= .ok true w:=fun d=>by simp [Op.equalIn,run_underlying Tryz.underlying93]
 simp only [binOp];simp [Op.equal,Op.maxDepth,h 9999]
theorem eqErr (tp:TypeId) (v:Value) (w:World):(binOp .eql 93 (.iface tp v) .nilIface).run Tryz.prog w= .ok (.bool false) w:=by
 have h:∀ d:Nat,(Op.equalIn (d+1) 93 (.iface tp v) .nilIface).run Tryz.prog w= .ok false w:=fun d=>by simp [Op.equalIn,run_underlying Tryz.underlying93]
 simp only [binOp];simp [Op.equal,Op.maxDepth,h 9999]
theorem len_zero (l:List Int):((l.length:Int) == 0)=decide (l= []):=by
 rw [Bool.eq_iff_iff,decide_eq_true_eq,beq_iff_eq,<-List.length_eq_zero_iff];omega
theorem implOver_calls (p:Prog) (ps:List Value) (s:Sys) (ss:List Value) (w:World) (hp:kProg.K w p ps) (hs:kSys.K w s ss) (hpz:ProgSz p) (hsz:SysSz s) (a:Addr) (he:w.cell? ⟨0,0,none⟩=some (.iface 253 (.pointer (some a)))):
  Calls Tryz.prog 28 #[.agg ps.toArray,.agg ss.toArray] w fun e w'=>e= .returned (.bool (overB p s))/\Below w.heap.size w w':=by
 have HPK:=am hp;have HSK:=am hs;obtain ⟨Ac,cc,Ab,cb,rfl,-⟩:=kProg_open hp;obtain ⟨A0,c0,A1,c1,A3,c3,rfl,-⟩:=kSys_open hs;have HPZ:=am hpz;have HSZ:=am hsz;have HE:=am he;have e1:=eqNil;have e2:=eqErr;obtain ⟨ok,yo⟩:∃ b,sysOk p s=b:=⟨_,rfl⟩;have YO:=am yo;have M:=am (Own.nil w);have C:=M.out.cl;clear hp hs hpz hsz he yo;go_enter Tryz.func28,Tryz.ntmps28;cases ok
 ·have HU:=am (show overB p s=false by unfold overB;rw [YO.out];rfl)
  go_wp2_with (first
  |((first|with_reducible refine gB ?_ | with_reducible refine gA ?_);refine oB rfl M.out ?_;clear M C;intro g W M C;simp only [Cl] at C)
  |((with_reducible refine gL ?_);refine oL rfl rfl M.out ?_)
  |(go_at_call 55;refine (newNo_calls p _ s _ a _ (kProg.K_below M.out.below HPK.out) (kSys.K_below M.out.below HSK.out) HPZ.out HSZ.out (pw_cell_below M.out.below HE.out) YO.out).mono ?_;rintro e W ⟨rfl,hb⟩;replace M:=am (M.out.step hb);clear C;have C:=M.out.cl;simp only [Cl] at C;clear hb))
  go_ret;rw [HU.out];exact ⟨rfl,M.out.below⟩
 ·have HI:=am (Inv.ofOk YO.out)
  obtain ⟨bl,yl⟩:∃ b,(((pickTo (fun i=>ready s i) s.tasks.length).length:Int) == 0)=b:=⟨_,rfl⟩;have HU:=am (show overB p s=bl by unfold overB readyIn;rw [YO.out,<-yl,len_zero];rfl)
  go_wp2_with (first
  |((first|with_reducible refine gB ?_ | with_reducible refine gA ?_);refine oB rfl M.out ?_;clear M C;intro g W M C;simp only [Cl] at C)
  |((with_reducible refine gL ?_);refine oL rfl rfl M.out ?_)
  |(go_at_call 55;refine (newOk_calls p _ s _ a _ (kProg.K_below M.out.below HPK.out) (kSys.K_below M.out.below HSK.out) HPZ.out HSZ.out (pw_cell_below M.out.below HE.out) YO.out).mono ?_;rintro e W ⟨g,rfl,hr⟩;have HRU:=am hr.ru;obtain ⟨_,_,_,_,_,_,_,hM⟩:=hr;replace M:=am (M.out.step hM.below);clear C;have C:=M.out.cl;simp only [Cl] at C;clear hM)
  |(go_at_call 57;refine (readyL_calls p s g _ HRU.out HI.out HSZ.out.tasks).mono ?_;rintro e W1 ⟨v,rfl,hv,hb⟩;obtain ⟨A,c,rfl⟩:=Kd.R_slice hv;replace M:=am (M.out.made hb hv);clear C;have C:=M.out.cl;simp only [Cl] at C;clear hb hv))
  go_ret;rw [HU.out];exact ⟨rfl,M.out.below⟩
theorem specReady_calls (p:Prog) (ps:List Value) (s:Sys) (ss:List Value) (w:World) (hp:kProg.K w p ps) (hs:kSys.K w s ss) (hpz:ProgSz p) (hsz:SysSz s):
  Calls Tryz.prog 16 #[.agg ps.toArray,.agg ss.toArray] w fun e w'=>∃ v,e= .returned v/\(Kd.int .i64).R 3 w' w.heap.size (fun _=>True) v (readyB p s)/\Below w.heap.size w w':=by
 have HPK:=am hp;have HSK:=am hs;obtain ⟨Ac,cc,Ab,cb,rfl,-⟩:=kProg_open hp;obtain ⟨A0,c0,A1,c1,A3,c3,rfl,-⟩:=kSys_open hs;have HPZ:=am hpz;have HSZ:=am hsz;obtain ⟨ok,yo⟩:∃ b,sysOk p s=b:=⟨_,rfl⟩;have YO:=am yo;have M:=am (Own.nil w);have C:=M.out.cl;clear hp hs hpz hsz yo;go_enter Tryz.func16,Tryz.ntmps16;cases ok
 ·have HU:=am (show readyB p s= [] by unfold readyB;rw [YO.out];rfl)
  go_wp2_with (first
  |((first|with_reducible refine gB ?_ | with_reducible refine gA ?_);refine oB rfl M.out ?_;clear M C;intro g W M C;simp only [Cl] at C)
  |((with_reducible refine gate_dst (N:=8) rfl ?_);refine Kd.R_lit (w0:=_) (Kd.int .i64) _ 3 rfl (N:=8) rfl (xs:=([]:List Int)) (inner:= []) (ok:=fun _=>True) (okp:=fun _=>True) (by go_simp<;>rfl) (Reps.none _ _) (fun _ hk=>hk) trivial (Below.refl _ _) (Nat.le_refl _) (by simp) ?_;intro v0 W1 hr hb hg _;obtain ⟨A,c,rfl⟩:=Kd.R_slice hr;replace M:=am (M.out.made (grown_below_ hg) hr);clear C;have C:=M.out.cl;simp only [Cl] at C;clear hr hb hg)
  |((with_reducible refine gL ?_);refine oL rfl rfl M.out ?_)
  |(go_at_call 39;refine oCb M.out (sysOk_calls p _ s _ _ (kProg.K_below M.out.below HPK.out) (kSys.K_below M.out.below HSK.out) HPZ.out HSZ.out) YO.out ?_;clear M C;intro W M C;simp only [Cl] at C))
  go_ret;rw [HU.out];exact ⟨_,rfl,Kd.R_mono M.out.gotten (fun _ _=>trivial),M.out.below⟩
 ·have HU:=am (show readyB p s=pickTo (fun i=>ready s i) s.tasks.length by unfold readyB readyIn;rw [YO.out];rfl)
  go_wp2_with (first
  |((first|with_reducible refine gB ?_ | with_reducible refine gA ?_);refine oB rfl M.out ?_;clear M C;intro g W M C;simp only [Cl] at C)
  |((with_reducible refine gate_dst (N:=8) rfl ?_);refine Kd.R_lit (w0:=_) (Kd.int .i64) _ 3 rfl (N:=8) rfl (xs:=([]:List Int)) (inner:= []) (ok:=fun _=>True) (okp:=fun _=>True) (by go_simp<;>rfl) (Reps.none _ _) (fun _ hk=>hk) trivial (Below.refl _ _) (Nat.le_refl _) (by simp) ?_;intro v0 W1 hr hb hg _;obtain ⟨A,c,rfl⟩:=Kd.R_slice hr;replace M:=am (M.out.made (grown_below_ hg) hr);clear C;have C:=M.out.cl;simp only [Cl] at C;clear hr hb hg)
  |((with_reducible refine gL ?_);refine oL rfl rfl M.out ?_)
  |(go_at_call 39;refine oCb M.out (sysOk_calls p _ s _ _ (kProg.K_below M.out.below HPK.out) (kSys.K_below M.out.below HSK.out) HPZ.out HSZ.out) YO.out ?_;clear M C;intro W M C;simp only [Cl] at C))
  have M1:=am (M.out.perm (List.Perm.swap _ _ _));obtain ⟨L,EL,ML⟩:=Own.namedT M1;clear M1;go_loopw [5,7] (fun v j w'=>∃ (k:Nat) (ok:Nat->Prop),k<=s.tasks.length/\j= .int .i64 k/\Aside0 (Own w w' (.r ok (Rw (Kd.int .i64) 3 w.heap.size ok v (pickTo (fun i=>ready s i) k)) :: L))) (fun _ j _=>s.tasks.length - (intOf j).toNat)
  case atStart=>exact ⟨0,_,Nat.zero_le _,rfl,ML⟩
  case round=>
   obtain ⟨k,ok,hk,rfl,M2⟩:=hrel;have e:=EL.out;subst e;clear M C ML EL;have M:=M2;clear M2;have C:=M.out.cl;simp only [Cl] at C;have hlen:=pickTo_length (fun i=>ready s i) k;by_cases hlt:k < s.tasks.length
   ·have q0:(0:Int)<=(k:Int):=by omega
    have q1:(k:Int) < (s.tasks.length:Int):=by omega
    have q2:=HSZ.out.tasks;obtain ⟨b,yb⟩:∃ b,(fun i=>ready s i) k=b:=⟨_,rfl⟩;have YB:=am yb;clear yb;cases b
    ·go_wp2_with (first
     |(go_at_call 49;refine (ready_calls k _ ⟨M.out.lies.at_ (by repeat (first|exact .here | exact .kept | apply At.there)),(kProg.K_below M.out.below HPK.out),(kSys.K_below M.out.below HSK.out)⟩ hlt HSZ.out.tasks).mono ?_;rintro e W ⟨rfl,hb⟩;rw [show ready s k=_ from YB.out];replace M:=am (M.out.step hb);clear C;have C:=M.out.cl;simp only [Cl] at C;clear hb))
     go_roundw
     case rel=>exact ⟨k+1,ok,by omega,by go_num,⟨by rw [pickTo_no YB.out];exact M.out⟩⟩
     case measure=>simp [intOf];omega
    ·go_wp2_with (first
     |(go_at_call 49;refine (ready_calls k _ ⟨M.out.lies.at_ (by repeat (first|exact .here | exact .kept | apply At.there)),(kProg.K_below M.out.below HPK.out),(kSys.K_below M.out.below HSK.out)⟩ hlt HSZ.out.tasks).mono ?_;rintro e W ⟨rfl,hb⟩;rw [show ready s k=_ from YB.out];replace M:=am (M.out.step hb);clear C;have C:=M.out.cl;simp only [Cl] at C;clear hb)
     |((with_reducible refine gate_builtin (b:=.append) (xs:=#[.tmp 28,.tmp 30]) rfl ?_);at_builtin;refine Kd.R_append (Kd.int .i64) (w0:=w) w.heap.size rfl (.tmp 28) (.tmp 30) 22 3 (.int .i64 0) 8 rfl Tryz.underlying22 info_int rfl (by decide) (by omega) _ (pickTo (fun i=>ready s i) k) (k:Int) [.int .i64 (k:Int)] (fun q=>ok q\/W.heap.size<=q) (fun _=>False) rfl rfl rfl (fun _ hk=>hk.elim) (fun q hq=> .inr hq) (Kd.R_mono M.out.gotten (fun q hq=> .inl hq)) M.out.below M.out.below.size (by omega) ?_;intro v1 W1 hv hb hg _;obtain ⟨ok2,m2⟩:=M.out.grew hg hv;replace M:=am (m2);clear C;have C:=M.out.cl;simp only [Cl] at C;clear m2 hv hb hg))
     go_roundw
     case rel=>exact ⟨k+1,ok2,by omega,by go_num,⟨by rw [pickTo_yes YB.out];exact M.out⟩⟩
     case measure=>simp [intOf];omega
   ·obtain rfl:k=s.tasks.length:=by omega
    have q1:¬ (s.tasks.length:Int) < (s.tasks.length:Int):=by omega
    go_wp2;go_ret;exact ⟨_,rfl,by rw [HU.out];exact Kd.R_mono M.out.gotten (fun _ _=>trivial),M.out.below⟩
theorem specOver_calls (p:Prog) (ps:List Value) (s:Sys) (ss:List Value) (w:World) (hp:kProg.K w p ps) (hs:kSys.K w s ss) (hpz:ProgSz p) (hsz:SysSz s):
  Calls Tryz.prog 27 #[.agg ps.toArray,.agg ss.toArray] w fun e w'=>e= .returned (.bool (overB p s))/\Below w.heap.size w w':=by
 have HPK:=am hp;have HSK:=am hs;obtain ⟨Ac,cc,Ab,cb,rfl,-⟩:=kProg_open hp;obtain ⟨A0,c0,A1,c1,A3,c3,rfl,-⟩:=kSys_open hs;have HPZ:=am hpz;have HSZ:=am hsz;obtain ⟨ok,yo⟩:∃ b,sysOk p s=b:=⟨_,rfl⟩;have YO:=am yo;have M:=am (Own.nil w);have C:=M.out.cl;clear hp hs hpz hsz yo;go_enter Tryz.func27,Tryz.ntmps27;cases ok
 ·have HU:=am (show overB p s=false by unfold overB;rw [YO.out];rfl)
  go_wp2_with (first
  |((first|with_reducible refine gB ?_ | with_reducible refine gA ?_);refine oB rfl M.out ?_;clear M C;intro g W M C;simp only [Cl] at C)
  |((with_reducible refine gL ?_);refine oL rfl rfl M.out ?_)
  |(go_at_call 39;refine oCb M.out (sysOk_calls p _ s _ _ (kProg.K_below M.out.below HPK.out) (kSys.K_below M.out.below HSK.out) HPZ.out HSZ.out) YO.out ?_;clear M C;intro W M C;simp only [Cl] at C))
  go_ret;rw [HU.out];exact ⟨rfl,M.out.below⟩
 ·obtain ⟨l,hl⟩:∃ l,readyIn s=l:=⟨_,rfl⟩
  obtain ⟨bl,yl⟩:∃ b,((l.length:Int) == 0)=b:=⟨_,rfl⟩;have HR:=am (show readyB p s=l by unfold readyB;rw [YO.out,<-hl];rfl);have HU:=am (show overB p s=bl by unfold overB;rw [YO.out,hl,<-yl,len_zero];rfl);clear hl
  go_wp2_with (first
  |((first|with_reducible refine gB ?_ | with_reducible refine gA ?_);refine oB rfl M.out ?_;clear M C;intro g W M C;simp only [Cl] at C)
  |((with_reducible refine gL ?_);refine oL rfl rfl M.out ?_)
  |((with_reducible refine gU ?_ ?_);rfl;refine oL rfl rfl M.out ?_)
  |(go_at_call 39;refine oCb M.out (sysOk_calls p _ s _ _ (kProg.K_below M.out.below HPK.out) (kSys.K_below M.out.below HSK.out) HPZ.out HSZ.out) YO.out ?_;clear M C;intro W M C;simp only [Cl] at C)
  |(go_at_call 16;refine (specReady_calls p _ s _ _ (kProg.K_below M.out.below HPK.out) (kSys.K_below M.out.below HSK.out) HPZ.out HSZ.out).mono ?_;rintro e W1 ⟨v,rfl,hv,hb⟩;rw [HR.out] at hv;obtain ⟨A,c,rfl⟩:=Kd.R_slice hv;replace M:=am (M.out.made hb hv);clear C;have C:=M.out.cl;simp only [Cl] at C;clear hb hv))
  go_ret;rw [HU.out];exact ⟨rfl,M.out.below⟩
end Go.Proofs.YtclangliilnijaaGreatDoor.Eq
namespace Go.Proofs.YtclangliilnijaaGreatDoor.Eq
open Go.RowKit Go.Proofs.YtclangliilnijaaGreatDoorW.PrintWords Go.Proofs.YtclangliilnijaaGreatDoorW.PrintLast
def kDeedL:Kd Deed:=Kd.iso (Kd.pair (Kd.int .i64) (Kd.pair (Kd.int .i64) (Kd.int .i64))) (fun x:Deed=>(x.kind,x.a,x.b))
theorem kDeedL_open {w:World} {x:Deed} {cs:List Value} (h:kDeedL.K w x cs):cs= [.int .i64 x.kind,.int .i64 x.a,.int .i64 x.b]:=by
 obtain ⟨_,_,rfl,rfl,⟨_,_,rfl,rfl,rfl⟩⟩:=h;exact rfl
def kActL:Kd Act:=Kd.iso (Kd.pair (Kd.int .i64) (Kd.pair (Kd.slice 222 kDeedL) (Kd.pair (Kd.slice 3 (Kd.int .i64)) (Kd.int .i64)))) (fun x:Act=>(x.kind,x.deeds,x.kids,x.reg))
theorem kActL_open {w:World} {x:Act} {cs:List Value} (h:kActL.K w x cs):∃ A_deeds c_deeds A_kids c_kids,cs= [.int .i64 x.kind,.slice A_deeds x.deeds.length c_deeds,.slice A_kids x.kids.length c_kids,.int .i64 x.reg]/\x.deeds.length<=c_deeds/\kDeedL.C w A_deeds x.deeds.length x.deeds/\x.kids.length<=c_kids/\(Kd.int .i64).C w A_kids x.kids.length x.kids:=by
 obtain ⟨_,_,rfl,rfl,⟨_,_,rfl,⟨A_deeds,c_deeds,rfl,l_deeds,g_deeds⟩,⟨_,_,rfl,⟨A_kids,c_kids,rfl,l_kids,g_kids⟩,rfl⟩⟩⟩:=h;exact ⟨A_deeds,c_deeds,A_kids,c_kids,rfl,l_deeds,g_deeds,l_kids,g_kids⟩
def kProgL:Kd Prog:=Kd.iso (Kd.pair (Kd.slice 3 (Kd.int .i64)) (Kd.slice 122 (Kd.slice 165 kActL))) (fun x:Prog=>(x.cells,x.bodies))
theorem kProgL_open {w:World} {x:Prog} {cs:List Value} (h:kProgL.K w x cs):∃ A_cells c_cells A_bodies c_bodies,cs= [.slice A_cells x.cells.length c_cells,.slice A_bodies x.bodies.length c_bodies]/\x.cells.length<=c_cells/\(Kd.int .i64).C w A_cells x.cells.length x.cells/\x.bodies.length<=c_bodies/\(Kd.slice 165 kActL).C w A_bodies x.bodies.length x.bodies:=by
 obtain ⟨_,_,rfl,⟨A_cells,c_cells,rfl,l_cells,g_cells⟩,⟨A_bodies,c_bodies,rfl,l_bodies,g_bodies⟩⟩:=h;exact ⟨A_cells,c_cells,A_bodies,c_bodies,rfl,l_cells,g_cells,l_bodies,g_bodies⟩
end Go.Proofs.YtclangliilnijaaGreatDoor.Eq
namespace Go.Proofs.YtclangliilnijaaGreatDoor.Eq
open Go.RowKit Go.Proofs.YtclangliilnijaaGreatDoorW.PrintWords Go.Proofs.YtclangliilnijaaGreatDoorW.PrintLast Go.Proofs.YtclangliilnijaaGreatDoorW.PrintMore
def szA (x:Act):Nat:=x.deeds.length+x.kids.length
def szAS (x:List Act):Nat:=x.length+sumOf szA x
def szP (p:Prog):Nat:=p.cells.length+(p.bodies.length+sumOf szAS p.bodies)
theorem szDeedS_calls (n c:Nat) (A:Option Addr) (left:Int) (w:World) (h0:0<=left) (h1:left<=1048576) (hn:n<=9223372036854775807):
  Calls Tryz.prog 160 #[.slice A n c,.int .i64 left] w fun e w'=>∃ r,e= .returned (.int .i64 r)/\Sz left n r/\w=w':=by
 go_enter Tryz.func160,Tryz.ntmps160;go_wp2
 all_goals (go_ret;exact ⟨_,rfl,by unfold Sz;omega,rfl⟩)
theorem szAct_calls (x:Act) (cs:List Value) (left:Int) (w:World) (hx:kActL.K w x cs) (h0:0<=left) (h1:left<=1048576):
  Calls Tryz.prog 121 #[.agg cs.toArray,.int .i64 left] w fun e w'=>∃ r,e= .returned (.int .i64 r)/\Sz left (szA x) r/\Below w.heap.size w w':=by
 obtain ⟨Ad,cd,Ak,ck,rfl,-,gd,-,gk⟩:=kActL_open hx;have md:=Kd.C_max gd;have mk:=Kd.C_max gk;clear gd gk hx;go_enter Tryz.func121,Tryz.ntmps121
 go_wp2_with (first
 |(go_at_call 160;refine (szDeedS_calls _ _ _ _ _ (by first|omega|(unfold Sz at *;omega)) (by first|omega|(unfold Sz at *;omega)) (by assumption)).mono ?_;rintro e w1 ⟨r,rfl,hs,rfl⟩)
 |(go_at_call 44;refine (szIntS_calls _ _ _ _ _ (by first|omega|(unfold Sz at *;omega)) (by first|omega|(unfold Sz at *;omega)) (by assumption)).mono ?_;rintro e w1 ⟨r,rfl,hs,rfl⟩))
 all_goals (go_ret;exact ⟨_,rfl,by unfold Sz szA at *;omega,by repeat (first|exact Below.refl _ _ | apply below_alloc)⟩)
theorem szActS_calls (xs:List Act) (A:Option Addr) (c:Nat) (left:Int) (w:World) (hx:kActL.C w A xs.length xs) (h0:0<=left) (h1:left<=1048576):
  Calls Tryz.prog 81 #[.slice A xs.length c,.int .i64 left] w fun e w'=>∃ r,e= .returned (.int .i64 r)/\Sz left (xs.length+sumOf szA xs) r/\Below w.heap.size w w':=by
 have hm:=Kd.C_max hx;have HX:=am hx;clear hx;go_enter Tryz.func81,Tryz.ntmps81;by_cases h:left < xs.length
 ·have hb:decide (left - (xs.length:Int) < 0)=true:=decide_eq_true (by omega)
  go_wp2;go_ret;exact ⟨_,rfl,by unfold Sz;omega,Below.refl _ _⟩
 ·have hb:decide (left - (xs.length:Int) < 0)=false:=decide_eq_false (by omega)
  go_wp2;go_loopw [1,5] (fun l v w'=>∃ (k:Nat) (r:Int),k<=xs.length/\v= .int .i64 k/\l= .int .i64 r/\0<=r/\r<=1048576/\Aside0 (r=left - xs.length - sumOf szA (xs.take k))/\Aside0 (Own w w' [])) (fun _ v _=>xs.length - (intOf v).toNat)
  case atStart=>exact ⟨0,_,Nat.zero_le _,rfl,rfl,by omega,by omega,⟨by simp [sumOf]⟩,⟨Own.nil w⟩⟩
  case round=>
   obtain ⟨k,r,hk,rfl,rfl,hr0,hr1,HR,M⟩:=hrel;have C:=M.out.cl;simp only [Cl] at C;by_cases hlt:k < xs.length
   ·have q0:(0:Int)<=(k:Int):=by omega
    have q1:(k:Int) < (xs.length:Int):=by omega
    obtain ⟨b,o,cs,rfl,hcl,hK,hcc,-⟩:=C_field HX.out zAct k hlt (by decide);have HT:=am (sumOf_take szA xs k zAct hlt);have HC:=am hcc;have HK:=am hK;clear hcc hK
    go_wp2_with (first
    |((with_reducible refine gL ?_);refine oR rfl rfl M.out HC.out ?_ (hu:=by rw [hcl];kernel_rfl))
    |(go_at_call 121;refine (szAct_calls _ _ _ _ (kActL.K_below M.out.below HK.out) (by omega) (by omega)).mono ?_;rintro e W ⟨r1,rfl,hs,hb⟩;have HS:=am hs;have hs1:=hs;clear hs;replace M:=am (M.out.step hb);clear C;have C:=M.out.cl;simp only [Cl] at C;clear hb))
    ·go_ret
     have hle:=sumOf_le szA xs (k+1);exact ⟨_,rfl,by have:=HR.out;have:=HT.out;have:=HS.out;unfold Sz at *;omega,M.out.below⟩
    ·go_roundw
     case rel=>exact ⟨k+1,r1,by omega,by go_num,rfl,by omega,by have:=HS.out;unfold Sz at *;omega,⟨by have:=HR.out;have:=HT.out;have:=HS.out;unfold Sz at *;omega⟩,⟨M.out⟩⟩
     case measure=>simp [intOf];omega
   ·obtain rfl:k=xs.length:=by omega
    have q1:¬ (xs.length:Int) < (xs.length:Int):=by omega
    go_wp2;go_ret;exact ⟨_,rfl,by have:=HR.out;rw [List.take_length] at this;unfold Sz;omega,M.out.below⟩
theorem szActSS_calls (xs:List (List Act)) (A:Option Addr) (c:Nat) (left:Int) (w:World) (hx:(Kd.slice 165 kActL).C w A xs.length xs) (h0:0<=left) (h1:left<=1048576):
  Calls Tryz.prog 45 #[.slice A xs.length c,.int .i64 left] w fun e w'=>∃ r,e= .returned (.int .i64 r)/\Sz left (xs.length+sumOf szAS xs) r/\Below w.heap.size w w':=by
 have hm:=Kd.C_max hx;have HX:=am hx;clear hx;go_enter Tryz.func45,Tryz.ntmps45;by_cases h:left < xs.length
 ·have hb:decide (left - (xs.length:Int) < 0)=true:=decide_eq_true (by omega)
  go_wp2;go_ret;exact ⟨_,rfl,by unfold Sz;omega,Below.refl _ _⟩
 ·have hb:decide (left - (xs.length:Int) < 0)=false:=decide_eq_false (by omega)
  go_wp2;go_loopw [1,5] (fun l v w'=>∃ (k:Nat) (r:Int),k<=xs.length/\v= .int .i64 k/\l= .int .i64 r/\0<=r/\r<=1048576/\Aside0 (r=left - xs.length - sumOf szAS (xs.take k))/\Aside0 (Own w w' [])) (fun _ v _=>xs.length - (intOf v).toNat)
  case atStart=>exact ⟨0,_,Nat.zero_le _,rfl,rfl,by omega,by omega,⟨by simp [sumOf]⟩,⟨Own.nil w⟩⟩
  case round=>
   obtain ⟨k,r,hk,rfl,rfl,hr0,hr1,HR,M⟩:=hrel;have C:=M.out.cl;simp only [Cl] at C;by_cases hlt:k < xs.length
   ·have q0:(0:Int)<=(k:Int):=by omega
    have q1:(k:Int) < (xs.length:Int):=by omega
    obtain ⟨b,o,cs,rfl,hcl,hK,hcc,-⟩:=C_field HX.out ([]:List Act) k hlt (by decide);have HT:=am (sumOf_take szAS xs k ([]:List Act) hlt);obtain ⟨x,hxx⟩:∃ x,x=xs.getD k []:=⟨_,rfl⟩;rw [<-hxx] at hK HT;clear hxx;have hsa:szAS x=x.length+sumOf szA x:=rfl;obtain ⟨Aa,ca,rfl,la,ga2⟩:=hK;have p2:=hcc 0 _ rfl;simp only [show (Kd.slice 165 kActL).sz=1 from rfl,Nat.mul_one,Nat.add_zero] at p2;have GA:=am ga2;replace M:=am (M.out.far p2);clear C p2 hcc hcl ga2 la;have C:=M.out.cl;simp only [Cl] at C
    go_wp2_with (first
    |(go_at_call 81;refine (szActS_calls _ _ _ _ _ (Kd.C_below GA.out M.out.below) (by omega) (by omega)).mono ?_;rintro e W ⟨r1,rfl,hs,hb⟩;have HS:=am hs;have hs1:=hs;clear hs;replace M:=am (M.out.step hb);clear C;have C:=M.out.cl;simp only [Cl] at C;clear hb))
    ·go_ret
     have hle:=sumOf_le szAS xs (k+1);exact ⟨_,rfl,by have:=HR.out;have:=HT.out;have:=HS.out;unfold Sz at *;omega,M.out.below⟩
    ·go_roundw
     case rel=>exact ⟨k+1,r1,by omega,by go_num,rfl,by omega,by have:=HS.out;unfold Sz at *;omega,⟨by have:=HR.out;have:=HT.out;have:=HS.out;unfold Sz at *;omega⟩,⟨M.out.pop⟩⟩
     case measure=>simp [intOf];omega
   ·obtain rfl:k=xs.length:=by omega
    have q1:¬ (xs.length:Int) < (xs.length:Int):=by omega
    go_wp2;go_ret;exact ⟨_,rfl,by have:=HR.out;rw [List.take_length] at this;unfold Sz;omega,M.out.below⟩
theorem szProg_calls (x:Prog) (cs:List Value) (left:Int) (w:World) (hx:kProgL.K w x cs) (h0:0<=left) (h1:left<=1048576):
  Calls Tryz.prog 14 #[.agg cs.toArray,.int .i64 left] w fun e w'=>∃ r,e= .returned (.int .i64 r)/\Sz left (szP x) r/\Below w.heap.size w w':=by
 obtain ⟨Ac,cc,Ab,cb,rfl,-,gc,-,gb⟩:=kProgL_open hx;have mc:=Kd.C_max gc;have GB:=am gb;have M:=am (Own.nil w);have C:=M.out.cl;clear gc gb hx;go_enter Tryz.func14,Tryz.ntmps14
 go_wp2_with (first
 |((first|with_reducible refine gB ?_ | with_reducible refine gA ?_);refine oB rfl M.out ?_;clear M C;intro g W M C;simp only [Cl] at C)
 |(go_at_call 44;refine (szIntS_calls _ _ _ _ _ (by first|omega|(unfold Sz at *;omega)) (by first|omega|(unfold Sz at *;omega)) (by assumption)).mono ?_;rintro e w1 ⟨r,rfl,hs,rfl⟩)
 |(go_at_call 45;refine (szActSS_calls _ _ _ _ _ (Kd.C_below GB.out M.out.below) (by first|omega|(unfold Sz at *;omega)) (by first|omega|(unfold Sz at *;omega))).mono ?_;rintro e W ⟨r1,rfl,hs,hb⟩;have HS:=am hs;have hs1:=hs;clear hs;replace M:=am (M.out.step hb);clear C;have C:=M.out.cl;simp only [Cl] at C;clear hb))
 all_goals (go_ret;exact ⟨_,rfl,by unfold Sz szP at *;omega,M.out.below⟩)
theorem toDeed_calls (x:Deed) (cs:List Value) (w:World) (hx:kDeedL.K w x cs):
  Calls Tryz.prog 190 #[.agg cs.toArray] w fun e w'=>∃ ds,e= .returned (.agg ds.toArray)/\kDeed.M w' w.heap.size (fun _=>True) x ds/\Below w.heap.size w w':=by
 obtain rfl:=kDeedL_open hx;go_enter Tryz.func190,Tryz.ntmps190;go_wp2;refine bodyPost_ret (v:=.agg #[.int .i64 x.kind,.int .i64 x.a,.int .i64 x.b]) (by simp [results,Tryz.results190,go_sem]) rfl ⟨_,rfl,kDeed_mkM x, ?_⟩;repeat (first|exact Below.refl _ _ | refine below_alloc ?_ _)
theorem kDeed_zero (w:World) (base:Nat) (ok:Nat->Prop):kDeed.M w base ok zDeed [.int .i64 0,.int .i64 0,.int .i64 0]:=kDeed_mkM zDeed
theorem kAct_zero (w:World) (base:Nat) (ok:Nat->Prop):kAct.M w base ok zAct [.int .i64 0,.slice none 0 0,.slice none 0 0,.int .i64 0]:=kAct_mkM zAct (Kd.R_nil _ _ _ _ _) (Kd.R_nil _ _ _ _ _)
theorem kActs_zero (w:World) (base:Nat) (ok:Nat->Prop):(Kd.slice 68 kAct).M w base ok ([]:List Act) [.slice none 0 0]:=⟨_,rfl,Kd.R_nil _ _ _ _ _⟩
theorem toDeedS_calls (xs:List Deed) (A:Option Addr) (c:Nat) (w:World) (hx:kDeedL.C w A xs.length xs) (hn:xs.length<=1048576):
  Calls Tryz.prog 161 #[.slice A xs.length c] w fun e w'=>∃ v,e= .returned v/\kDeed.R 197 w' w.heap.size (fun _=>True) v xs/\Below w.heap.size w w':=by
 have HX:=am hx;clear hx;go_enter Tryz.func161,Tryz.ntmps161;go_wp2_with ((with_reducible refine gate_dst (N:=7) rfl ?_);refine Kd.R_make (w0:=w) kDeed w.heap.size 197 rfl (N:=7) rfl 66 _ _ rfl (xs.length:Int) rfl rfl Tryz.underlying66 (.agg #[.int .i64 0,.int .i64 0,.int .i64 0]) 24 (by kernel_rfl) rfl (by decide) (by omega) zDeed (ok:=fun _=>True) (okp:=fun _=>True) (kDeed_zero _ _ _) (fun _ hk=>hk) trivial (by omega) (by omega) (Below.refl _ _) (Nat.le_refl _) ?_;intro v w1 ho hb _ _;have HO:=am ho;have HB:=am hb;clear ho hb)
 go_loopw [4] (fun i w'=>∃ k:Nat,k<=xs.length/\i= .int .i64 k/\Aside0 (kDeed.R 197 w' w.heap.size (fun _=>True) v (upTo xs zDeed k))/\Aside0 (Below w.heap.size w w')) (fun i _=>xs.length - (intOf i).toNat)
 case atStart=>exact ⟨0,Nat.zero_le _,rfl,⟨by rw [upTo_zero];simpa using HO.out⟩,HB⟩
 case round=>
  clear HO HB;obtain ⟨k,hk,rfl,HO,HB⟩:=hrel;by_cases hlt:k < xs.length
  ·have hl:=upTo_length xs zDeed hk
   have HS:=am (upTo_set xs zDeed hlt);have q0:(0:Int)<=(k:Int):=by omega
   have q1:(k:Int) < (xs.length:Int):=by omega
   obtain ⟨ad,cs,rfl,hcl,hK,hcc⟩:=Kd.C_get (Kd.C_below HX.out HB.out) zDeed (k:Int) q0 q1;obtain ⟨g,cap,rfl,hg1,hg2,hg3⟩:=Kd.R_form HO.out (by omega);rw [hl] at*;simp only [Int.toNat_natCast] at hK hcc;have HK:=am hK;have HCC:=am hcc;clear hK hcc hg3
   go_wp2_with (first
   |((with_reducible refine gate_dst (N:=19) rfl ?_);refine load_struct rfl 222 (.tmp 18) rfl ad (k*3) rfl cs _ HCC.out (by rw [hcl];decide) Tryz.underlying222 rfl (by rw [hcl];kernel_rfl) ?_)
   |(go_at_call 190;refine (toDeed_calls _ _ _ HK.out).mono ?_;rintro e w1 ⟨ds,rfl,hm,hb⟩;have HM:=am hm;have HO2:=am (Kd.R_below HO.out hb);have HB2:=am (below_step HB.out hb);clear hm hb HO HB)
   |((with_reducible refine gate_store (t:=197) (p:=21) rfl ?_);obtain ⟨ce,hce,_,hcc2,_⟩:=Kd.R_elem HO2.out zDeed (k:Int) q0 q1;have hdl:=kDeed.K_len (kDeed.K_of_M HM.out);refine Kd.R_store (w0:=w) kDeed w.heap.size rfl rfl 197 (.tmp 21) (.tmp 20) rfl 197 (k:Int) 0 (upTo xs zDeed k) (xs.getD k zDeed) (.agg ds.toArray) ds ce (fun _=>True) (fun k'=>g < k') rfl (by simp;rfl) rfl rfl (by rw [hdl];kernel_rfl) (kDeed.K_one (kDeed.K_of_M HM.out)) HO2.out q0 q1 hce hcc2 (by rw [hdl];exact Nat.le_refl _) (M_all (by rw [hce,hdl];exact Nat.le_refl _) (by omega) (by omega) HM.out) (fun k' hk'=>⟨trivial,Nat.ne_of_gt hk'⟩) HB2.out ?_;intro w2 ho hb hgr;simp only [Int.toNat_natCast] at ho;rw [HS.out] at ho;have HO3:=am ho;have HB3:=am hb;clear ho hb hgr))
   go_roundw
   case rel=>exact ⟨k+1,by omega,by go_num,HO3,HB3⟩
   case measure=>simp [intOf];omega
  ·go_wp2
   go_ret;obtain rfl:k=xs.length:=by omega
   exact ⟨_,rfl,by rw [upTo_all] at HO;exact HO.out,HB.out⟩
theorem toAct_calls (x:Act) (cs:List Value) (w:World) (hx:kActL.K w x cs) (hn:szA x<=1048576):
  Calls Tryz.prog 123 #[.agg cs.toArray] w fun e w'=>∃ ds,e= .returned (.agg ds.toArray)/\kAct.M w' w.heap.size (fun _=>True) x ds/\Below w.heap.size w w':=by
 obtain ⟨A1,c1,A2,c2,rfl,l1,g1,l2,g2⟩:=kActL_open hx;unfold szA at hn;have G:=am (And.intro g1 g2);have HB:=am (Below.refl w.heap.size w);clear g1 g2 l1 l2 hx;go_enter Tryz.func123,Tryz.ntmps123;go_wp2_with fail
 refine (toDeedS_calls _ _ _ _ ?h1 (by omega)).mono ?_
 case h1=>exact Kd.C_below (w:=w) G.out.1 (by repeat (first|with_reducible exact HB.out | with_reducible refine below_alloc ?_ _ | with_reducible refine below_set ?_ ?_ | omega))
 rintro e w1 ⟨v1,rfl,ho,hb⟩;obtain ⟨A1',c1',rfl⟩:=Kd.R_slice ho;have O1:=am (R_up (base:=w.heap.size) (n:=w.heap.size+2) ho (by simp <;> omega) (by simp <;> omega));have hz:=bsize hb;(try simp at hz);have q10:w.heap.size < w1.heap.size:=(by omega);have q11:w.heap.size+1 < w1.heap.size:=(by omega);have q12:w.heap.size+1+1 < w1.heap.size:=(by omega);obtain ⟨hc1,hf1⟩:=bcell hb;have HB1:=am (below_step (w:=w) (by repeat (first|with_reducible exact HB.out | with_reducible refine below_alloc ?_ _ | with_reducible refine below_set ?_ ?_ | omega)) hb);clear HB;have HB:=HB1;clear HB1 hb ho hz;go_wp2_with fail
 refine (toIntS_calls _ _ _ _ ?h1 (by omega)).mono ?_
 case h1=>exact Kd.C_below (w:=w) G.out.2 (by repeat (first|with_reducible exact HB.out | with_reducible refine below_alloc ?_ _ | with_reducible refine below_set ?_ ?_ | omega))
 rintro e w2 ⟨v2,rfl,ho,hb⟩;obtain ⟨A2',c2',rfl⟩:=Kd.R_slice ho;have O2:=am (R_up (base:=w.heap.size) (n:=w.heap.size+2) ho (by simp <;> omega) (by simp <;> omega));have P1:=am (Kd.R_below (show Kd.R kDeed 197 _ w.heap.size (fun k=>w.heap.size+2 < k) (.slice A1' x.deeds.length c1') x.deeds from by repeat (first|with_reducible exact O1.out | with_reducible refine R_farN ?_ ?_ | omega)) hb);clear O1;have O1:=P1;clear P1;have hz:=bsize hb;(try simp at hz);have q20:w.heap.size < w2.heap.size:=(by omega);have q21:w.heap.size+1 < w2.heap.size:=(by omega);have q22:w.heap.size+1+1 < w2.heap.size:=(by omega);obtain ⟨hc2,hf2⟩:=bcell hb;have HB1:=am (below_step (w:=w) (by repeat (first|with_reducible exact HB.out | with_reducible refine below_alloc ?_ _ | with_reducible refine below_set ?_ ?_ | omega)) hb);clear HB;have HB:=HB1;clear HB1 hb ho hz;go_wp2_with fail
 refine bodyPost_ret (v:=.agg #[.int .i64 x.kind,.slice A1' x.deeds.length c1',.slice A2' x.kids.length c2',.int .i64 x.reg]) (by simp [results,Tryz.results123,go_sem,hc1,hf1,q10,q11,q12,hc2,hf2,q20,q21,q22]) rfl ⟨_,rfl,kAct_mkM x ?_ ?_,(by repeat (first|with_reducible exact HB.out | with_reducible refine below_alloc ?_ _ | with_reducible refine below_set ?_ ?_ | omega))⟩
 ·exact R_any (show Kd.R kDeed 197 _ w.heap.size (fun k=>w.heap.size+2 < k) (.slice A1' x.deeds.length c1') x.deeds from by repeat (first|with_reducible exact O1.out | with_reducible refine R_farN ?_ ?_ | omega))
 ·exact R_any (show Kd.R (Kd.int .i64) 3 _ w.heap.size (fun k=>w.heap.size+2 < k) (.slice A2' x.kids.length c2') x.kids from by repeat (first|with_reducible exact O2.out | with_reducible refine R_farN ?_ ?_ | omega))
theorem toActS_calls (xs:List Act) (A:Option Addr) (c:Nat) (w:World) (hx:kActL.C w A xs.length xs) (hn:xs.length<=1048576) (hs:sumOf szA xs<=1048576):
  Calls Tryz.prog 85 #[.slice A xs.length c] w fun e w'=>∃ v,e= .returned v/\kAct.R 68 w' w.heap.size (fun _=>True) v xs/\Below w.heap.size w w':=by
 have HX:=am hx;clear hx;go_enter Tryz.func85,Tryz.ntmps85;go_wp2_with ((with_reducible refine gate_dst (N:=7) rfl ?_);refine Kd.R_make (w0:=w) kAct w.heap.size 68 rfl (N:=7) rfl 60 _ _ rfl (xs.length:Int) rfl rfl Tryz.underlying60 (.agg #[.int .i64 0,.slice none 0 0,.slice none 0 0,.int .i64 0]) 64 (by kernel_rfl) rfl (by decide) (by omega) zAct (ok:=fun _=>True) (okp:=fun _=>True) (kAct_zero _ _ _) (fun _ hk=>hk) trivial (by omega) (by omega) (Below.refl _ _) (Nat.le_refl _) ?_;intro v w1 ho hb _ _;have HO:=am ho;have HB:=am hb;clear ho hb)
 go_loopw [4] (fun i w'=>∃ k:Nat,k<=xs.length/\i= .int .i64 k/\Aside0 (kAct.R 68 w' w.heap.size (fun _=>True) v (upTo xs zAct k))/\Aside0 (Below w.heap.size w w')) (fun i _=>xs.length - (intOf i).toNat)
 case atStart=>exact ⟨0,Nat.zero_le _,rfl,⟨by rw [upTo_zero];simpa using HO.out⟩,HB⟩
 case round=>
  clear HO HB;obtain ⟨k,hk,rfl,HO,HB⟩:=hrel;by_cases hlt:k < xs.length
  ·have hl:=upTo_length xs zAct hk
   have HS:=am (upTo_set xs zAct hlt);have q0:(0:Int)<=(k:Int):=by omega
   have q1:(k:Int) < (xs.length:Int):=by omega
   have hsz:szA (xs.getD k zAct)<=1048576:=by have h1:=sumOf_take szA xs k zAct hlt;have h2:=sumOf_le szA xs (k+1);omega
   obtain ⟨ad,cs,rfl,hcl,hK,hcc⟩:=Kd.C_get (Kd.C_below HX.out HB.out) zAct (k:Int) q0 q1;obtain ⟨g,cap,rfl,hg1,hg2,hg3⟩:=Kd.R_form HO.out (by omega);rw [hl] at*;simp only [Int.toNat_natCast] at hK hcc;have HK:=am hK;have HCC:=am hcc;clear hK hcc hg3
   go_wp2_with (first
   |((with_reducible refine gate_dst (N:=19) rfl ?_);refine load_struct rfl 165 (.tmp 18) rfl ad (k*4) rfl cs _ HCC.out (by rw [hcl];decide) Tryz.underlying165 rfl (by rw [hcl];kernel_rfl) ?_)
   |(go_at_call 123;refine (toAct_calls _ _ _ HK.out hsz).mono ?_;rintro e w1 ⟨ds,rfl,hm,hb⟩;have HM:=am hm;have HO2:=am (Kd.R_below HO.out hb);have HB2:=am (below_step HB.out hb);clear hm hb HO HB)
   |((with_reducible refine gate_store (t:=68) (p:=21) rfl ?_);obtain ⟨ce,hce,_,hcc2,_⟩:=Kd.R_elem HO2.out zAct (k:Int) q0 q1;have hdl:=kAct.K_len (kAct.K_of_M HM.out);refine Kd.R_store (w0:=w) kAct w.heap.size rfl rfl 68 (.tmp 21) (.tmp 20) rfl 68 (k:Int) 0 (upTo xs zAct k) (xs.getD k zAct) (.agg ds.toArray) ds ce (fun _=>True) (fun k'=>g < k') rfl (by simp;rfl) rfl rfl (by rw [hdl];kernel_rfl) (kAct.K_one (kAct.K_of_M HM.out)) HO2.out q0 q1 hce hcc2 (by rw [hdl];exact Nat.le_refl _) (M_all (by rw [hce,hdl];exact Nat.le_refl _) (by omega) (by omega) HM.out) (fun k' hk'=>⟨trivial,Nat.ne_of_gt hk'⟩) HB2.out ?_;intro w2 ho hb hgr;simp only [Int.toNat_natCast] at ho;rw [HS.out] at ho;have HO3:=am ho;have HB3:=am hb;clear ho hb hgr))
   go_roundw
   case rel=>exact ⟨k+1,by omega,by go_num,HO3,HB3⟩
   case measure=>simp [intOf];omega
  ·go_wp2
   go_ret;obtain rfl:k=xs.length:=by omega
   exact ⟨_,rfl,by rw [upTo_all] at HO;exact HO.out,HB.out⟩
theorem toActSS_calls (xs:List (List Act)) (A:Option Addr) (c:Nat) (w:World) (hx:(Kd.slice 165 kActL).C w A xs.length xs) (hn:xs.length<=1048576) (hs:sumOf szAS xs<=1048576):
  Calls Tryz.prog 51 #[.slice A xs.length c] w fun e w'=>∃ v,e= .returned v/\(Kd.slice 68 kAct).R 60 w' w.heap.size (fun _=>True) v xs/\Below w.heap.size w w':=by
 have HX:=am hx;clear hx;go_enter Tryz.func51,Tryz.ntmps51;go_wp2_with ((with_reducible refine gate_dst (N:=7) rfl ?_);refine Kd.R_make (w0:=w) (Kd.slice 68 kAct) w.heap.size 60 rfl (N:=7) rfl 34 _ _ rfl (xs.length:Int) rfl rfl Tryz.underlying34 (.slice none 0 0) 24 (by kernel_rfl) rfl (by decide) (by omega) ([]:List Act) (ok:=fun _=>True) (okp:=fun _=>True) (kActs_zero _ _ _) (fun _ hk=>hk) trivial (by omega) (by omega) (Below.refl _ _) (Nat.le_refl _) ?_;intro v w1 ho hb _ _;have HO:=am ho;have HB:=am hb;clear ho hb)
 go_loopw [4] (fun i w'=>∃ k:Nat,k<=xs.length/\i= .int .i64 k/\Aside0 ((Kd.slice 68 kAct).R 60 w' w.heap.size (fun _=>True) v (upTo xs ([]:List Act) k))/\Aside0 (Below w.heap.size w w')) (fun i _=>xs.length - (intOf i).toNat)
 case atStart=>exact ⟨0,Nat.zero_le _,rfl,⟨by rw [upTo_zero];simpa using HO.out⟩,HB⟩
 case round=>
  clear HO HB;obtain ⟨k,hk,rfl,HO,HB⟩:=hrel;by_cases hlt:k < xs.length
  ·have hl:=upTo_length xs ([]:List Act) hk
   have HS:=am (upTo_set xs ([]:List Act) hlt);have q0:(0:Int)<=(k:Int):=by omega
   have q1:(k:Int) < (xs.length:Int):=by omega
   have hsz:szAS (xs.getD k ([]:List Act))<=1048576:=by have h1:=sumOf_take szAS xs k ([]:List Act) hlt;have h2:=sumOf_le szAS xs (k+1);omega
   obtain ⟨ad,cs,rfl,hcl,hK,hcc⟩:=Kd.C_get (Kd.C_below HX.out HB.out) ([]:List Act) (k:Int) q0 q1;obtain ⟨g,cap,rfl,hg1,hg2,hg3⟩:=Kd.R_form HO.out (by omega);rw [hl] at*;simp only [Int.toNat_natCast] at hK hcc;obtain ⟨x,hxx⟩:∃ x,x=xs.getD k ([]:List Act):=⟨_,rfl⟩;rw [<-hxx] at hK hsz HS;have hsa:x.length<=1048576/\sumOf szA x<=1048576:=by unfold szAS at hsz;omega
   clear hxx hsz;obtain ⟨Aa,ca,rfl,la,ga2⟩:=hK;have p2:=hcc 0 _ rfl;simp only [show (Kd.slice 165 kActL).sz=1 from rfl,Nat.mul_one,Nat.add_zero] at p2;have GA:=am ga2;clear hcc hcl ga2 la hg3
   go_wp2_with (first
   |(go_at_call 85;refine (toActS_calls _ _ _ _ GA.out hsa.1 hsa.2).mono ?_;rintro e w1 ⟨v1,rfl,hm,hb⟩;obtain ⟨A9,c9,rfl⟩:=Kd.R_slice hm;have HM:=am hm;have HO2:=am (Kd.R_below HO.out hb);have HB2:=am (below_step HB.out hb);clear hm hb HO HB)
   |((with_reducible refine gate_store (t:=60) (p:=21) rfl ?_);obtain ⟨ce,hce,_,hcc2,_⟩:=Kd.R_elem HO2.out ([]:List Act) (k:Int) q0 q1;(refine Kd.R_store (w0:=w) (Kd.slice 68 kAct) w.heap.size rfl rfl 60 (.tmp 21) (.tmp 20) rfl 60 (k:Int) 0 (upTo xs ([]:List Act) k) x (.slice A9 x.length c9) [.slice A9 x.length c9] ce (fun _=>True) (fun k'=>g < k') rfl (by simp [show (Kd.slice 68 kAct).sz=1 from rfl]) rfl rfl (by kernel_rfl) (fun q hq=>by rw [List.mem_singleton.1 hq];rfl) HO2.out q0 q1 hce hcc2 (Nat.le_refl _) (M_all (by rw [hce];exact Nat.le_refl _) (by omega) (by omega) ⟨_,rfl,HM.out⟩) (fun k' hk'=>⟨trivial,Nat.ne_of_gt hk'⟩) HB2.out ?_);intro w2 ho hb hgr;simp only [Int.toNat_natCast] at ho;rw [HS.out] at ho;have HO3:=am ho;have HB3:=am hb;clear ho hb hgr))
   go_roundw
   case rel=>exact ⟨k+1,by omega,by go_num,HO3,HB3⟩
   case measure=>simp [intOf];omega
  ·go_wp2
   go_ret;obtain rfl:k=xs.length:=by omega
   exact ⟨_,rfl,by rw [upTo_all] at HO;exact HO.out,HB.out⟩
theorem toProg_calls (x:Prog) (cs:List Value) (w:World) (hx:kProgL.K w x cs) (hn:szP x<=1048576):
  Calls Tryz.prog 17 #[.agg cs.toArray] w fun e w'=>∃ ds,e= .returned (.agg ds.toArray)/\kProg.M w' w.heap.size (fun _=>True) x ds/\Below w.heap.size w w':=by
 obtain ⟨A0,c0,A1,c1,rfl,l0,g0,l1,g1⟩:=kProgL_open hx;unfold szP at hn;have G:=am (And.intro g0 g1);have HB:=am (Below.refl w.heap.size w);clear g0 g1 l0 l1 hx;go_enter Tryz.func17,Tryz.ntmps17;go_wp2_with fail
 refine (toIntS_calls _ _ _ _ ?h1 (by omega)).mono ?_
 case h1=>exact Kd.C_below (w:=w) G.out.1 (by repeat (first|with_reducible exact HB.out | with_reducible refine below_alloc ?_ _ | with_reducible refine below_set ?_ ?_ | omega))
 rintro e w0 ⟨v0,rfl,ho,hb⟩;obtain ⟨A0',c0',rfl⟩:=Kd.R_slice ho;have O0:=am (R_up (base:=w.heap.size) (n:=w.heap.size+2) ho (by simp <;> omega) (by simp <;> omega));have hz:=bsize hb;(try simp at hz);have q00:w.heap.size < w0.heap.size:=(by omega);have q01:w.heap.size+1 < w0.heap.size:=(by omega);have q02:w.heap.size+1+1 < w0.heap.size:=(by omega);obtain ⟨hc0,hf0⟩:=bcell hb;have HB1:=am (below_step (w:=w) (by repeat (first|with_reducible exact HB.out | with_reducible refine below_alloc ?_ _ | with_reducible refine below_set ?_ ?_ | omega)) hb);clear HB;have HB:=HB1;clear HB1 hb ho hz;go_wp2_with fail
 refine (toActSS_calls _ _ _ _ ?h1 (by omega) (by omega)).mono ?_
 case h1=>exact Kd.C_below (w:=w) G.out.2 (by repeat (first|with_reducible exact HB.out | with_reducible refine below_alloc ?_ _ | with_reducible refine below_set ?_ ?_ | omega))
 rintro e w1 ⟨v1,rfl,ho,hb⟩;obtain ⟨A1',c1',rfl⟩:=Kd.R_slice ho;have O1:=am (R_up (base:=w.heap.size) (n:=w.heap.size+2) ho (by simp <;> omega) (by simp <;> omega));have P0:=am (Kd.R_below (show Kd.R (Kd.int .i64) 3 _ w.heap.size (fun k=>w.heap.size+2 < k) (.slice A0' x.cells.length c0') x.cells from by repeat (first|with_reducible exact O0.out | with_reducible refine R_farN ?_ ?_ | omega)) hb);clear O0;have O0:=P0;clear P0;have hz:=bsize hb;(try simp at hz);have q10:w.heap.size < w1.heap.size:=(by omega);have q11:w.heap.size+1 < w1.heap.size:=(by omega);have q12:w.heap.size+1+1 < w1.heap.size:=(by omega);obtain ⟨hc1,hf1⟩:=bcell hb;have HB1:=am (below_step (w:=w) (by repeat (first|with_reducible exact HB.out | with_reducible refine below_alloc ?_ _ | with_reducible refine below_set ?_ ?_ | omega)) hb);clear HB;have HB:=HB1;clear HB1 hb ho hz;go_wp2_with fail
 refine bodyPost_ret (v:=.agg #[.slice A0' x.cells.length c0',.slice A1' x.bodies.length c1']) (by simp [results,Tryz.results17,go_sem,hc0,hf0,q00,q01,q02,hc1,hf1,q10,q11,q12]) rfl ⟨_,rfl,kProg_mkM x ?_ ?_,(by repeat (first|with_reducible exact HB.out | with_reducible refine below_alloc ?_ _ | with_reducible refine below_set ?_ ?_ | omega))⟩
 ·exact R_any (show Kd.R (Kd.int .i64) 3 _ w.heap.size (fun k=>w.heap.size+2 < k) (.slice A0' x.cells.length c0') x.cells from by repeat (first|with_reducible exact O0.out | with_reducible refine R_farN ?_ ?_ | omega))
 ·exact R_any (show Kd.R (Kd.slice 68 kAct) 60 _ w.heap.size (fun k=>w.heap.size+2 < k) (.slice A1' x.bodies.length c1') x.bodies from by repeat (first|with_reducible exact O1.out | with_reducible refine R_farN ?_ ?_ | omega))
theorem Deed_ext (x y:Deed):x=y ↔ x.kind=y.kind/\x.a=y.a/\x.b=y.b:=by cases x;cases y;simp
theorem eqDeed_calls (x y:Deed) (cs ds:List Value) (w:World) (hx:kDeed.K w x cs) (hy:kDeed.K w y ds):
  Calls Tryz.prog 193 #[.agg cs.toArray,.agg ds.toArray] w fun e w'=>e= .returned (.bool (decide (x=y)))/\Below w.heap.size w w':=by
 obtain rfl:=kDeed_open hx;obtain rfl:=kDeed_open hy;clear hx hy;have HB:=am (Below.refl w.heap.size w);go_enter Tryz.func193,Tryz.ntmps193;go_wp2_with fail
 all_goals (go_ret;refine ⟨ret_bool ?_,(by repeat (first|with_reducible exact HB.out | with_reducible refine below_alloc ?_ _ | with_reducible refine pw_below_drewN ?_ _))⟩)
 all_goals (first|(rw [decide_eq_true];simp_all [Deed_ext];done)|(rw [decide_eq_false];simp_all [Deed_ext];done))
theorem eqDeedS_calls (xs ys:List Deed) (A B:Option Addr) (c d:Nat) (w:World) (hx:kDeed.C w A xs.length xs) (hy:kDeed.C w B ys.length ys):
  Calls Tryz.prog 172 #[.slice A xs.length c,.slice B ys.length d] w fun e w'=>e= .returned (.bool (decide (xs=ys)))/\Below w.heap.size w w':=by
 have HX:=am hx;have HY:=am hy;have hm:=Kd.C_max hx;clear hx hy;by_cases hl:xs.length=ys.length
 ·have hlb:((xs.length:Int) != (ys.length:Int))=false:=by rw [hl];simp
  have HL:=am hl;clear hl;go_enter Tryz.func172,Tryz.ntmps172;go_wp2;have HLB:=am hlb;clear hlb;go_loopw [5] (fun v w'=>∃ k:Nat,k<=xs.length/\v= .int .i64 k/\Aside0 (∀ j,j < k->xs[j]? = ys[j]?)/\Aside0 (Below w.heap.size w w')) (fun v _=>xs.length - (intOf v).toNat)
  case atStart=>exact ⟨0,Nat.zero_le _,rfl,⟨fun j hj=>by omega⟩,⟨Below.refl _ _⟩⟩
  case round=>
   obtain ⟨k,hk,rfl,HJ,HB⟩:=hrel;by_cases hlt:k < xs.length
   ·have hlt2:k < ys.length:=by rw [<-HL.out];exact hlt
    have h0:(0:Int)<=(k:Int):=by omega
    have h1:(k:Int) < (xs.length:Int):=by omega
    have h2:(k:Int) < (ys.length:Int):=by omega
    obtain ⟨ax,cs,rfl,hcl,hK,hcc⟩:=Kd.C_get (Kd.C_below HX.out HB.out) zDeed (k:Int) h0 h1;obtain ⟨ay,ds,rfl,hdl,hL,hdd⟩:=Kd.C_get (Kd.C_below HY.out HB.out) zDeed (k:Int) h0 h2;simp only [Int.toNat_natCast] at hK hcc hL hdd;have HK:=am hK;have HCC:=am hcc;have HK2:=am hL;have HDD:=am hdd;clear hK hcc hL hdd;go_wp2;refine wp_region_still_tail 8 (by kernel_rfl) (by kernel_rfl) ?_;simp only [List.take_succ_cons,List.take_zero,List.drop_succ_cons,List.drop_zero];iterate 3 still_step
    refine still_load_struct rfl 197 (.tmp 19) rfl ax (k*3) rfl cs _ HCC.out (by rw [hcl];decide) Tryz.underlying197 rfl (by rw [hcl];kernel_rfl) ?_;iterate 3 still_step
    refine still_load_struct rfl 197 (.tmp 23) rfl ay (k*3) rfl ds _ HDD.out (by rw [hdl];decide) Tryz.underlying197 rfl (by rw [hdl];kernel_rfl) ?_;refine wpStill_nil ?_;by_cases he:xs.getD k zDeed=ys.getD k zDeed
    ·have HE:=am he
     clear he;go_wp2_with (go_at_call 193;refine (eqDeed_calls _ _ _ _ _ (kDeed.K_below (below_drew (Below.refl _ _)) HK.out) (kDeed.K_below (below_drew (Below.refl _ _)) HK2.out)).mono ?_;rw [decide_eq_true HE.out];rintro e w1 ⟨rfl,hb⟩;have HB1:=am (below_step (below_drew HB.out) hb);clear hb HB)
     go_roundw
     case rel=>exact ⟨k+1,by omega,by go_num,⟨fun j hj=>agree_step HJ.out hlt hlt2 HE.out hj⟩,HB1⟩
     case measure=>simp [intOf];omega
    ·have HE:=am he
     clear he;go_wp2_with (go_at_call 193;refine (eqDeed_calls _ _ _ _ _ (kDeed.K_below (below_drew (Below.refl _ _)) HK.out) (kDeed.K_below (below_drew (Below.refl _ _)) HK2.out)).mono ?_;rw [decide_eq_false HE.out];rintro e w1 ⟨rfl,hb⟩;have HB1:=am (below_step (below_drew HB.out) hb);clear hb HB)
     go_ret;exact ⟨ret_bool (decide_eq_false (fun h=>HE.out (by rw [h]))).symm,HB1.out⟩
   ·go_wp2
    go_ret;exact ⟨ret_bool (decide_eq_true (agree_all xs ys HL.out (fun j hj=>HJ.out j (by omega)))).symm,HB.out⟩
 ·have hlb:((xs.length:Int) != (ys.length:Int))=true:=by simp;omega
  have hlc:(xs.length != ys.length)=true:=by simp;omega
  have hld:(xs.length == ys.length)=false:=by simp;omega
  have HL:=am hl;clear hl;go_enter Tryz.func172,Tryz.ntmps172;go_wp2;go_ret;exact ⟨ret_bool (decide_eq_false (fun h=>HL.out (by rw [h]))).symm,Below.refl _ _⟩
theorem Act_ext (x y:Act):x=y ↔ x.kind=y.kind/\x.deeds=y.deeds/\x.kids=y.kids/\x.reg=y.reg:=by cases x;cases y;simp
theorem eqAct_calls (x y:Act) (cs ds:List Value) (w:World) (hx:kAct.K w x cs) (hy:kAct.K w y ds):
  Calls Tryz.prog 138 #[.agg cs.toArray,.agg ds.toArray] w fun e w'=>e= .returned (.bool (decide (x=y)))/\Below w.heap.size w w':=by
 obtain ⟨A3,c3,A8,c8,rfl,l3,g3,l8,g8⟩:=kAct_open hx;obtain ⟨B3,d3,B8,d8,rfl,m3,h3,m8,h8⟩:=kAct_open hy;have G:=am (And.intro g3 g8);have H:=am (And.intro h3 h8);clear g3 g8 h3 h8 l3 l8 m3 m8 hx hy;go_enter Tryz.func138,Tryz.ntmps138;have HB:=am (Below.refl w.heap.size w)
 go_wp2_with (first
 |(go_at_call 172;refine (eqDeedS_calls _ _ _ _ _ _ _ ?h1 ?h2).mono ?_;(case h1=>exact Kd.C_below (w:=w) (by first|exact G.out.1) (by repeat (first|with_reducible exact HB.out | with_reducible refine below_alloc ?_ _ | with_reducible refine pw_below_drewN ?_ _)));(case h2=>exact Kd.C_below (w:=w) (by first|exact H.out.1) (by repeat (first|with_reducible exact HB.out | with_reducible refine below_alloc ?_ _ | with_reducible refine pw_below_drewN ?_ _)));rintro e w1 ⟨rfl,hb⟩;replace HB:=am (below_step (w:=w) (by repeat (first|with_reducible exact HB.out | with_reducible refine below_alloc ?_ _ | with_reducible refine pw_below_drewN ?_ _)) hb);have hz:=bsize hb;(try simp at hz);have q0:w.heap.size < w1.heap.size:=(by omega);have q1:w.heap.size+1 < w1.heap.size:=(by omega);clear hz;obtain ⟨hc,hf⟩:=bcell hb;clear hb)
 |(go_at_call 20;refine (eqIntS_calls _ _ _ _ _ _ _ ?h1 ?h2).mono ?_;(case h1=>exact Kd.C_below (w:=w) (by first|exact G.out.2) (by repeat (first|with_reducible exact HB.out | with_reducible refine below_alloc ?_ _ | with_reducible refine pw_below_drewN ?_ _)));(case h2=>exact Kd.C_below (w:=w) (by first|exact H.out.2) (by repeat (first|with_reducible exact HB.out | with_reducible refine below_alloc ?_ _ | with_reducible refine pw_below_drewN ?_ _)));rintro e w1 ⟨rfl,⟨n,rfl⟩⟩))
 all_goals (go_ret;refine ⟨ret_bool ?_,(by repeat (first|with_reducible exact HB.out | with_reducible refine below_alloc ?_ _ | with_reducible refine pw_below_drewN ?_ _))⟩)
 all_goals (first|(rw [decide_eq_true];simp_all [Act_ext];done)|(rw [decide_eq_false];simp_all [Act_ext];done))
theorem eqActS_calls (xs ys:List Act) (A B:Option Addr) (c d:Nat) (w:World) (hx:kAct.C w A xs.length xs) (hy:kAct.C w B ys.length ys):
  Calls Tryz.prog 94 #[.slice A xs.length c,.slice B ys.length d] w fun e w'=>e= .returned (.bool (decide (xs=ys)))/\Below w.heap.size w w':=by
 have HX:=am hx;have HY:=am hy;have hm:=Kd.C_max hx;clear hx hy;by_cases hl:xs.length=ys.length
 ·have hlb:((xs.length:Int) != (ys.length:Int))=false:=by rw [hl];simp
  have HL:=am hl;clear hl;go_enter Tryz.func94,Tryz.ntmps94;go_wp2;have HLB:=am hlb;clear hlb;go_loopw [5] (fun v w'=>∃ k:Nat,k<=xs.length/\v= .int .i64 k/\Aside0 (∀ j,j < k->xs[j]? = ys[j]?)/\Aside0 (Below w.heap.size w w')) (fun v _=>xs.length - (intOf v).toNat)
  case atStart=>exact ⟨0,Nat.zero_le _,rfl,⟨fun j hj=>by omega⟩,⟨Below.refl _ _⟩⟩
  case round=>
   obtain ⟨k,hk,rfl,HJ,HB⟩:=hrel;by_cases hlt:k < xs.length
   ·have hlt2:k < ys.length:=by rw [<-HL.out];exact hlt
    have h0:(0:Int)<=(k:Int):=by omega
    have h1:(k:Int) < (xs.length:Int):=by omega
    have h2:(k:Int) < (ys.length:Int):=by omega
    obtain ⟨ax,cs,rfl,hcl,hK,hcc⟩:=Kd.C_get (Kd.C_below HX.out HB.out) zAct (k:Int) h0 h1;obtain ⟨ay,ds,rfl,hdl,hL,hdd⟩:=Kd.C_get (Kd.C_below HY.out HB.out) zAct (k:Int) h0 h2;simp only [Int.toNat_natCast] at hK hcc hL hdd;have HK:=am hK;have HCC:=am hcc;have HK2:=am hL;have HDD:=am hdd;clear hK hcc hL hdd;go_wp2;refine wp_region_still_tail 8 (by kernel_rfl) (by kernel_rfl) ?_;simp only [List.take_succ_cons,List.take_zero,List.drop_succ_cons,List.drop_zero];iterate 3 still_step
    refine still_load_struct rfl 68 (.tmp 19) rfl ax (k*4) rfl cs _ HCC.out (by rw [hcl];decide) Tryz.underlying68 rfl (by rw [hcl];kernel_rfl) ?_;iterate 3 still_step
    refine still_load_struct rfl 68 (.tmp 23) rfl ay (k*4) rfl ds _ HDD.out (by rw [hdl];decide) Tryz.underlying68 rfl (by rw [hdl];kernel_rfl) ?_;refine wpStill_nil ?_;by_cases he:xs.getD k zAct=ys.getD k zAct
    ·have HE:=am he
     clear he;go_wp2_with (go_at_call 138;refine (eqAct_calls _ _ _ _ _ (kAct.K_below (below_drew (Below.refl _ _)) HK.out) (kAct.K_below (below_drew (Below.refl _ _)) HK2.out)).mono ?_;rw [decide_eq_true HE.out];rintro e w1 ⟨rfl,hb⟩;have HB1:=am (below_step (below_drew HB.out) hb);clear hb HB)
     go_roundw
     case rel=>exact ⟨k+1,by omega,by go_num,⟨fun j hj=>agree_step HJ.out hlt hlt2 HE.out hj⟩,HB1⟩
     case measure=>simp [intOf];omega
    ·have HE:=am he
     clear he;go_wp2_with (go_at_call 138;refine (eqAct_calls _ _ _ _ _ (kAct.K_below (below_drew (Below.refl _ _)) HK.out) (kAct.K_below (below_drew (Below.refl _ _)) HK2.out)).mono ?_;rw [decide_eq_false HE.out];rintro e w1 ⟨rfl,hb⟩;have HB1:=am (below_step (below_drew HB.out) hb);clear hb HB)
     go_ret;exact ⟨ret_bool (decide_eq_false (fun h=>HE.out (by rw [h]))).symm,HB1.out⟩
   ·go_wp2
    go_ret;exact ⟨ret_bool (decide_eq_true (agree_all xs ys HL.out (fun j hj=>HJ.out j (by omega)))).symm,HB.out⟩
 ·have hlb:((xs.length:Int) != (ys.length:Int))=true:=by simp;omega
  have hlc:(xs.length != ys.length)=true:=by simp;omega
  have hld:(xs.length == ys.length)=false:=by simp;omega
  have HL:=am hl;clear hl;go_enter Tryz.func94,Tryz.ntmps94;go_wp2;go_ret;exact ⟨ret_bool (decide_eq_false (fun h=>HL.out (by rw [h]))).symm,Below.refl _ _⟩
theorem eqActSS_calls (xs ys:List (List Act)) (A B:Option Addr) (c d:Nat) (w:World) (hx:(Kd.slice 68 kAct).C w A xs.length xs) (hy:(Kd.slice 68 kAct).C w B ys.length ys):
  Calls Tryz.prog 58 #[.slice A xs.length c,.slice B ys.length d] w fun e w'=>e= .returned (.bool (decide (xs=ys)))/\Below w.heap.size w w':=by
 have HX:=am hx;have HY:=am hy;have hm:=Kd.C_max hx;clear hx hy;by_cases hl:xs.length=ys.length
 ·have hlb:((xs.length:Int) != (ys.length:Int))=false:=by rw [hl];simp
  have HL:=am hl;clear hl;go_enter Tryz.func58,Tryz.ntmps58;go_wp2;have HLB:=am hlb;clear hlb;go_loopw [5] (fun v w'=>∃ k:Nat,k<=xs.length/\v= .int .i64 k/\Aside0 (∀ j,j < k->xs[j]? = ys[j]?)/\Aside0 (Below w.heap.size w w')) (fun v _=>xs.length - (intOf v).toNat)
  case atStart=>exact ⟨0,Nat.zero_le _,rfl,⟨fun j hj=>by omega⟩,⟨Below.refl _ _⟩⟩
  case round=>
   obtain ⟨k,hk,rfl,HJ,HB⟩:=hrel;by_cases hlt:k < xs.length
   ·have hlt2:k < ys.length:=by rw [<-HL.out];exact hlt
    have h0:(0:Int)<=(k:Int):=by omega
    have h1:(k:Int) < (xs.length:Int):=by omega
    have h2:(k:Int) < (ys.length:Int):=by omega
    obtain ⟨ax,cs,rfl,hcl,hK,hcc⟩:=Kd.C_get (Kd.C_below HX.out HB.out) ([]:List Act) (k:Int) h0 h1;obtain ⟨ay,ds,rfl,hdl,hL,hdd⟩:=Kd.C_get (Kd.C_below HY.out HB.out) ([]:List Act) (k:Int) h0 h2;simp only [Int.toNat_natCast] at hK hcc hL hdd;obtain ⟨x,hxx⟩:∃ x,x=xs.getD k ([]:List Act):=⟨_,rfl⟩;obtain ⟨y,hyy⟩:∃ y,y=ys.getD k ([]:List Act):=⟨_,rfl⟩;rw [<-hxx] at hK;rw [<-hyy] at hL;obtain ⟨Aa,ca,rfl,-,ga⟩:=hK;obtain ⟨Ba,da,rfl,-,gb⟩:=hL;have p1:=hcc 0 _ rfl;have p2:=hdd 0 _ rfl;simp only [show (Kd.slice 68 kAct).sz=1 from rfl,Nat.mul_one,Nat.add_zero] at p1 p2;have HK:=am ga;have HK2:=am gb;have HXX:=am hxx;have HYY:=am hyy;clear hcc hdd ga gb hcl hdl hxx hyy;go_wp2;refine wp_region_still_tail 8 (by kernel_rfl) (by kernel_rfl) ?_;simp only [List.take_succ_cons,List.take_zero,List.drop_succ_cons,List.drop_zero];iterate 8 still_step
    refine wpStill_nil ?_;clear p1 p2;by_cases he:x=y
    ·have HE:=am he
     clear he;go_wp2_with (go_at_call 94;refine (eqActS_calls _ _ _ _ _ _ _ (Kd.C_below HK.out (below_drew (Below.refl _ _))) (Kd.C_below HK2.out (below_drew (Below.refl _ _)))).mono ?_;rw [decide_eq_true HE.out];rintro e w1 ⟨rfl,hb⟩;have HB1:=am (below_step (below_drew HB.out) hb);clear hb HB)
     go_roundw
     case rel=>exact ⟨k+1,by omega,by go_num,⟨fun j hj=>agree_step HJ.out hlt hlt2 (HXX.out ▸ HYY.out ▸ HE.out) hj⟩,HB1⟩
     case measure=>simp [intOf];omega
    ·have HE:=am he
     clear he;go_wp2_with (go_at_call 94;refine (eqActS_calls _ _ _ _ _ _ _ (Kd.C_below HK.out (below_drew (Below.refl _ _))) (Kd.C_below HK2.out (below_drew (Below.refl _ _)))).mono ?_;rw [decide_eq_false HE.out];rintro e w1 ⟨rfl,hb⟩;have HB1:=am (below_step (below_drew HB.out) hb);clear hb HB)
     go_ret;exact ⟨ret_bool (decide_eq_false (fun h=>HE.out (by rw [HXX.out,HYY.out,h]))).symm,HB1.out⟩
   ·go_wp2
    go_ret;exact ⟨ret_bool (decide_eq_true (agree_all xs ys HL.out (fun j hj=>HJ.out j (by omega)))).symm,HB.out⟩
 ·have hlb:((xs.length:Int) != (ys.length:Int))=true:=by simp;omega
  have hlc:(xs.length != ys.length)=true:=by simp;omega
  have hld:(xs.length == ys.length)=false:=by simp;omega
  have HL:=am hl;clear hl;go_enter Tryz.func58,Tryz.ntmps58;go_wp2;go_ret;exact ⟨ret_bool (decide_eq_false (fun h=>HL.out (by rw [h]))).symm,Below.refl _ _⟩
theorem Prog_ext (x y:Prog):x=y ↔ x.cells=y.cells/\x.bodies=y.bodies:=by cases x;cases y;simp
theorem eqProg_calls (x y:Prog) (cs ds:List Value) (w:World) (hx:kProg.K w x cs) (hy:kProg.K w y ds):
  Calls Tryz.prog 21 #[.agg cs.toArray,.agg ds.toArray] w fun e w'=>e= .returned (.bool (decide (x=y)))/\Below w.heap.size w w':=by
 obtain ⟨A0,c0,A1,c1,rfl,l0,g0,l1,g1⟩:=kProg_open hx;obtain ⟨B0,d0,B1,d1,rfl,m0,h0,m1,h1⟩:=kProg_open hy;have G:=am (And.intro g0 g1);have H:=am (And.intro h0 h1);clear g0 g1 h0 h1 l0 l1 m0 m1 hx hy;go_enter Tryz.func21,Tryz.ntmps21;have HB:=am (Below.refl w.heap.size w)
 go_wp2_with (first
 |(go_at_call 20;refine (eqIntS_calls _ _ _ _ _ _ _ ?h1 ?h2).mono ?_;(case h1=>exact Kd.C_below (w:=w) (by first|exact G.out.1) (by repeat (first|with_reducible exact HB.out | with_reducible refine below_alloc ?_ _ | with_reducible refine pw_below_drewN ?_ _)));(case h2=>exact Kd.C_below (w:=w) (by first|exact H.out.1) (by repeat (first|with_reducible exact HB.out | with_reducible refine below_alloc ?_ _ | with_reducible refine pw_below_drewN ?_ _)));rintro e w1 ⟨rfl,⟨n,rfl⟩⟩)
 |(go_at_call 58;refine (eqActSS_calls _ _ _ _ _ _ _ ?h1 ?h2).mono ?_;(case h1=>exact Kd.C_below (w:=w) (by first|exact G.out.2) (by repeat (first|with_reducible exact HB.out | with_reducible refine below_alloc ?_ _ | with_reducible refine pw_below_drewN ?_ _)));(case h2=>exact Kd.C_below (w:=w) (by first|exact H.out.2) (by repeat (first|with_reducible exact HB.out | with_reducible refine below_alloc ?_ _ | with_reducible refine pw_below_drewN ?_ _)));rintro e w1 ⟨rfl,hb⟩;replace HB:=am (below_step (w:=w) (by repeat (first|with_reducible exact HB.out | with_reducible refine below_alloc ?_ _ | with_reducible refine pw_below_drewN ?_ _)) hb);have hz:=bsize hb;(try simp at hz);have q0:w.heap.size < w1.heap.size:=(by omega);have q1:w.heap.size+1 < w1.heap.size:=(by omega);clear hz;obtain ⟨hc,hf⟩:=bcell hb;clear hb))
 all_goals (go_ret;refine ⟨ret_bool ?_,(by repeat (first|with_reducible exact HB.out | with_reducible refine below_alloc ?_ _ | with_reducible refine pw_below_drewN ?_ _))⟩)
 all_goals (first|(rw [decide_eq_true];simp_all [Prog_ext];done)|(rw [decide_eq_false];simp_all [Prog_ext];done))
theorem sumOf_get {α:Type} (f:α->Nat) (l:List α) {k:Nat} (z:α) (h:k < l.length):f (l.getD k z)<=sumOf f l:=by
 have h1:=sumOf_take f l k z h;have h2:=sumOf_le f l (k+1);omega
theorem sumOf_in {α:Type} (f:α->Nat) {l:List α} {x:α} (h:x ∈ l):f x<=sumOf f l:=by
 obtain ⟨k,hk,rfl⟩:=List.mem_iff_getElem.1 h
 have:=sumOf_get f l l[k] hk
 simpa [hk] using this
theorem sysSz_of {s:Sys} (h:szS s<=1048576):SysSz s:=by
 unfold szS at h;refine ⟨by omega,by omega,by omega,fun i hi=> ?_,fun i hi=> ?_⟩
 ·have h1:szT (taskAt s.tasks i)<=sumOf szT s.tasks:=sumOf_get szT s.tasks zTask hi
  have h2:szT (taskAt s.tasks i)=(taskAt s.tasks i).regs.length+(taskAt s.tasks i).old.length+(taskAt s.tasks i).reads.length+(taskAt s.tasks i).puts.length:=rfl;refine ⟨by omega,by omega,by omega,by omega⟩
 ·have h1:szE (entryAt s.log i)<=sumOf szE s.log:=sumOf_get szE s.log zEntry hi
  have h2:szE (entryAt s.log i)=(entryAt s.log i).reads.length+(entryAt s.log i).puts.length:=rfl;exact ⟨by omega,by omega⟩
theorem progSz_of {p:Prog} (h:szP p<=1048576):ProgSz p:=by
 unfold szP at h;refine ⟨by omega,by omega,fun b hb=> ?_⟩;have h1:=sumOf_in szAS hb;have h3:szAS b=b.length+sumOf szA b:=rfl;refine ⟨by omega,fun a ha=> ?_⟩;have h2:=sumOf_in szA ha;have h4:szA a=a.deeds.length+a.kids.length:=rfl;exact ⟨by omega,by omega⟩
theorem exEF {q:Prop} (h:q:=by
  go_wp2;go_ret;exact ⟨rfl,M.out.below⟩):q:=h
theorem fnExactSysOver_calls (p:Prog) (pcs:List Value) (s:Sys) (cs:List Value) (w:World) (hp:kProgL.K w p pcs) (hs:kSysL.K w s cs) (a:Addr) (he:w.cell? ⟨0,0,none⟩=some (.iface 253 (.pointer (some a)))):
  Calls Tryz.prog 4 #[.agg pcs.toArray,.agg cs.toArray] w fun e w'=>e= .returned (.bool true)/\Below w.heap.size w w':=by
 have HE:=am he;have HPL:=am hp;have HSL:=am hs;obtain ⟨Ac,cc,Ab,cb,rfl,-⟩:=kProgL_open hp;obtain ⟨A0,c0,A1,c1,A3,c3,rfl,-⟩:=kSysL_open hs;have M:=am (Own.nil w);have C:=M.out.cl;clear hp hs he;go_enter Tryz.func4,Tryz.ntmps4
 go_upto_if 14 with (first
 |((first|with_reducible refine gB ?_ | with_reducible refine gA ?_);refine oB rfl M.out ?_;clear M C;intro g W M C;simp only [Cl] at C)
 |((with_reducible refine gL ?_);refine oL rfl rfl M.out ?_)
 |(go_at_call 14;refine (szProg_calls p _ 1048576 _ (kProgL.K_below M.out.below HPL.out) (by omega) (by omega)).mono ?_;rintro e W ⟨r,rfl,hr,hb⟩;have HR:=am hr;clear hr;replace M:=am (M.out.step hb);clear C;have C:=M.out.cl;simp only [Cl] at C;clear hb))
 by_cases hneg:r < 0
 ·have yr:decide (r < 0)=true:=decide_eq_true hneg
  exact exEF
 have yr:decide (r < 0)=false:=decide_eq_false hneg;have hr0:0<=r:=by omega
 have hr1:r<=1048576:=by have:=HR.out;unfold Sz at this;omega
 have HP:=am (show szP p<=1048576 by have:=HR.out;unfold Sz at this;omega);clear hneg
 go_upto_if 19 with (first
 |((with_reducible refine gL ?_);refine oL rfl rfl M.out ?_)
 |(go_at_call 15;refine (szSys_calls s _ r _ (kSysL.K_below M.out.below HSL.out) hr0 hr1).mono ?_;rintro e W ⟨r2,rfl,hr2,hb⟩;have HR2:=am hr2;clear hr2;replace M:=am (M.out.step hb);clear C;have C:=M.out.cl;simp only [Cl] at C;clear hb))
 by_cases hneg:r2 < 0
 ·have yr2:decide (r2 < 0)=true:=decide_eq_true hneg
  exact exEF
 have yr2:decide (r2 < 0)=false:=decide_eq_false hneg;have HS:=am (show szS s<=1048576 by have:=HR2.out;unfold Sz at this;omega);have HPZ:=am (progSz_of HP.out);have HSZ:=am (sysSz_of HS.out);clear hneg;simp only [yr2]
 go_wp2_with (first
  | fail)
 refine dS M.out ?_;clear M C;intro W M;refine dN [0,2] M.out ?_;refine sL rfl rfl ?_;refine sL rfl rfl ?_;refine stillS_nil ?_;refine dC 1 rfl ?_;refine (toProg_calls p _ _ (kProgL.K_below M.out.below HPL.out) HP.out).mono ?_;rintro e W2 ⟨d1,rfl,hm,hb⟩;have K1:=am (kProg.K_of_M hm);clear hm;replace M:=am (M.out.step hb);clear hb;refine ⟨_,rfl,M,dA ?_⟩;refine dC 3 rfl ?_;refine (toSys_calls s _ _ (kSysL.K_below M.out.below HSL.out) HS.out).mono ?_;rintro e W2 ⟨d2,rfl,hm,hb⟩;have K2:=am (kSys.K_of_M hm);replace K1:=am (kProg.K_below hb K1.out);clear hm;replace M:=am (M.out.step hb);clear hb;refine ⟨_,rfl,M,dA ?_⟩;refine dC 4 rfl ?_;refine (specOver_calls p d1 s d2 _ K1.out K2.out HPZ.out HSZ.out).mono ?_;rintro e W2 ⟨rfl,hb⟩;clear K1 K2;replace M:=am (M.out.step hb);clear hb;refine ⟨_,rfl,M,dA ?_⟩;refine dN [5] M.out ?_;iterate 1 (first|refine sP rfl ?_ | refine sG rfl ?_ | refine sU rfl ?_ | refine sN rfl ?_)
 refine stillS_nil ?_;refine dD ?_;obtain ⟨ok,hok⟩:∃ b,overB p s=b:=⟨_,rfl⟩;simp only [hok];have YO:=am hok;clear hok;have C:=M.out.cl;simp only [Cl] at C;have HB0:=am (Below.refl w.heap.size w)
 go_upto_region 10 with (first
 |((first|with_reducible refine gB ?_ | with_reducible refine gA ?_);refine oB rfl M.out ?_;clear M C;intro g W M C;simp only [Cl] at C)
 |((with_reducible refine gS ?_);refine oS rfl rfl rfl M.out ?_;clear M C;intro W M C;simp only [Cl] at C)
 |((with_reducible refine gL ?_);refine oL rfl rfl M.out ?_)
 |(go_at_call 17;refine (toProg_calls p _ _ (kProgL.K_below M.out.below HPL.out) HP.out).mono ?_;rintro e W2 ⟨ds,rfl,hm,hb⟩;have hB:=below_step M.out.below hb;replace HB0:=am (below_step HB0.out hB);replace HPL:=am (kProgL.K_below hB HPL.out);replace HSL:=am (kSysL.K_below hB HSL.out);have HPX:=am (kProg.K_of_M hm);obtain ⟨Xc,xc,Xb,xb,rfl,-⟩:=kProg_open HPX.out;clear hm hB;have M1:=am (M.out.step hb).rebase;simp only [List.map_cons,List.map_nil,En.old] at M1;clear M C hb;have M:=M1;clear M1;have C:=M.out.cl;simp only [Cl] at C))
 go_upto_region 11 with (first
 |((first|with_reducible refine gB ?_ | with_reducible refine gA ?_);refine oB rfl M.out ?_;clear M C;intro g W M C;simp only [Cl] at C)
 |((with_reducible refine gS ?_);refine oS rfl rfl rfl M.out ?_;clear M C;intro W M C;simp only [Cl] at C)
 |((with_reducible refine gL ?_);refine oL rfl rfl M.out ?_)
 |(go_at_call 18;refine (toSys_calls s _ _ (kSysL.K_below M.out.below HSL.out) HS.out).mono ?_;rintro e W2 ⟨ds,rfl,hm,hb⟩;have hB:=below_step M.out.below hb;replace HB0:=am (below_step HB0.out hB);replace HPL:=am (kProgL.K_below hB HPL.out);replace HSL:=am (kSysL.K_below hB HSL.out);replace HPX:=am (kProg.K_below hB HPX.out);have HSX:=am (kSys.K_of_M hm);obtain ⟨X0,x0,X1,x1,X3,x3,rfl,-⟩:=kSys_open HSX.out;clear hm hB;have M1:=am (M.out.step hb).rebase;simp only [List.map_cons,List.map_nil,En.old] at M1;clear M C hb;have M:=M1;clear M1;have C:=M.out.cl;simp only [Cl] at C))
 go_upto_region 14 with (first
 |((with_reducible refine gL ?_);refine oL rfl rfl M.out ?_)
 |(go_at_call 28;refine oCb M.out (implOver_calls p _ s _ _ (kProg.K_below M.out.below HPX.out) (kSys.K_below M.out.below HSX.out) HPZ.out HSZ.out a (pw_cell_below (below_step HB0.out M.out.below) HE.out)) YO.out ?_;clear M C;intro W M C;simp only [Cl] at C))
 refine dS M.out ?_;clear M C;intro W M;refine dN [0,1] M.out ?_;refine sL rfl rfl ?_;refine sL rfl rfl ?_;refine stillS_nil ?_;refine dC 2 rfl ?_;refine (toProg_calls p _ _ (kProgL.K_below M.out.below HPL.out) HP.out).mono ?_;rintro e W2 ⟨d1,rfl,hm,hb⟩;have K1:=am (kProg.K_of_M hm);clear hm;replace M:=am (M.out.step hb);clear hb;refine ⟨_,rfl,M,dA ?_⟩;refine dC 3 rfl ?_;refine oCb M.out (eqProg_calls p p _ d1 _ (kProg.K_below M.out.below HPX.out) K1.out) (decide_eq_true rfl) ?_;intro W M C;clear K1;refine ⟨_,rfl,M,dA ?_⟩;refine dN [4] M.out ?_;iterate 1 (first|refine sP rfl ?_ | refine sG rfl ?_ | refine sU rfl ?_ | refine sN rfl ?_)
 refine stillS_nil ?_;refine dD ?_;clear C;have C:=M.out.cl;simp only [Cl] at C
 go_wp2_with (first
  | fail)
 refine dS M.out ?_;clear M C;intro W M;refine dN [0,1] M.out ?_;refine sL rfl rfl ?_;refine sL rfl rfl ?_;refine stillS_nil ?_;refine dC 2 rfl ?_;refine (toSys_calls s _ _ (kSysL.K_below M.out.below HSL.out) HS.out).mono ?_;rintro e W2 ⟨d2,rfl,hm,hb⟩;have K2:=am (kSys.K_of_M hm);clear hm;replace M:=am (M.out.step hb);clear hb;refine ⟨_,rfl,M,dA ?_⟩;refine dC 3 rfl ?_;refine oCb M.out (eqSys_calls s s _ d2 _ (kSys.K_below M.out.below HSX.out) K2.out) (decide_eq_true rfl) ?_;intro W M C;clear K2;refine ⟨_,rfl,M,dA ?_⟩;refine dN [4] M.out ?_;iterate 1 (first|refine sP rfl ?_ | refine sG rfl ?_ | refine sU rfl ?_ | refine sN rfl ?_)
 refine stillS_nil ?_;refine dD ?_;clear C;have C:=M.out.cl;simp only [Cl] at C;go_wp2;go_ret;exact ⟨rfl,below_step HB0.out M.out.below⟩
end Go.Proofs.YtclangliilnijaaGreatDoor.Eq
