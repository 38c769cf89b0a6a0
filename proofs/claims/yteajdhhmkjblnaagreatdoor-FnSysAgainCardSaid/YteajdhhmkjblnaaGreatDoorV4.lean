import Derived.Test.YteajdhhmkjblnaaGreatDoorV3
set_option maxHeartbeats 8000000
set_option maxRecDepth 100000
set_option linter.unusedVariables false
set_option linter.unusedSimpArgs false
namespace Go.Proofs.YteajdhhmkjblnaaGreatDoor.Eq
open Go.RowKit Go.Proofs.YteajdhhmkjblnaaGreatDoorW.PrintWords Go.Proofs.YteajdhhmkjblnaaGreatDoorW.PrintLast Go.Proofs.YteajdhhmkjblnaaGreatDoorW.PrintMore
theorem abC (A:Option Addr) (c:Nat) (aY:List Int) (size:Int) (w:World) (az:(Kd.int .i64).C w A aY.length aY) (aS:aY.length<=1048576):
  Calls Tryz.prog 68 #[.slice A aY.length c,.int .i64 size] w fun e af=>e= .returned (.bool (my aY size))/\w=af:=by
 have ew:=am az;clear az;go_enter Tryz.func68,Tryz.ntmps68;go_wp2;go_loopw [5] (fun j af=>∃ k:Nat,k<=aY.length/\j= .int .i64 k/\av (∀ i,i < k->bF (cC aY i) 0 99=true)/\w=af) (fun j _=>aY.length - (intOf j).toNat)
 case atStart=>exact ⟨0,Nat.zero_le _,rfl,⟨fun i aa=>by omega⟩,rfl⟩
 case round=>
  obtain ⟨k,J,rfl,du,rfl⟩:=hrel;by_cases aJ:k < aY.length
  ·have bz:(0:Int)<=(k:Int):=by omega
   have b7:(k:Int) < (aY.length:Int):=by omega
   obtain ⟨cy,rfl,cL⟩:=Kd.kG ew.1 (k:Int) bz b7;simp only [Int.toNat_natCast] at cL;obtain ⟨x,hG⟩:∃ x,x=cC aY k:=⟨_,rfl⟩;rw [show rd aY (k:Int)=x from hG.symm] at cL;have h7:=am hG;clear hG
   cases I:bF x 0 99 with
   | true=>
    have eS:av ((decide ((0:Int)<=x) && decide (x<=99))=true):=⟨I⟩;clear I;go_wp2_with (first|(go_at_call 48;refine (fm _ _ _ _).mono ?_;(first|rw [eS.1]);rintro e b9 ⟨rfl,rfl⟩))
    go_roundw
    case rel=>exact ⟨k+1,by omega,by go_num,⟨fun i aa=>by rcases Nat.lt_or_ge i k with h | h;exact du.1 i h;obtain rfl:i=k:=(by omega);rw [<-h7.1];exact eS.1⟩,trivial⟩
    case measure=>simp [intOf];omega
   | false=>
    have eS:av ((decide ((0:Int)<=x) && decide (x<=99))=false):=⟨I⟩;clear I;go_wp2_with (first|(go_at_call 48;refine (fm _ _ _ _).mono ?_;(first|rw [eS.1]);rintro e b9 ⟨rfl,rfl⟩))
    go_ret
    have ao:my aY size=false:=by
     unfold my;rw [hK aJ (by rw [<-h7.1];exact eS.1),Bool.false_and]
    rw [ao];exact ⟨rfl,rfl⟩
  ·obtain rfl:k=aY.length:=by omega
   go_wp2;go_ret
   have ao:my aY size=((aY.length:Int) == size):=by
    unfold my;rw [hv.2 du.1,Bool.true_and];rw [Bool.eq_iff_iff];simp
   rw [ao];exact ⟨rfl,rfl⟩
theorem ab1 (t:Task) (cs:List Value) (cell:Int) (w:World) (az:eV.K w t cs) (je:t.ai.length<=1048576):
  Calls Tryz.prog 73 #[.agg cs.toArray,.int .i64 cell] w fun e af=>e= .returned (.bool (holds t cell))/\Below w.heap.size w af:=by
 obtain ⟨hB,d3,iZ,d8,gY,d9,gd,d10,rfl,-,-,-,-,-,-,-,fi⟩:=gh az;have hc:=am fi;clear az fi;go_enter Tryz.func73,Tryz.ntmps73
 cases q6:iD t.ai cell with
 | none=>
  have e3:=am q6;have sY:av (placeOf (iD t.ai cell)= -1):=⟨by rw [q6];rfl⟩;clear q6
  go_wp2_with (first
  |((with_reducible refine aQ 2 ?_);refine b6 38 ?_;intro gt U b' ad I;have dA:=am ad;have ab:=am I;have gn:=ae dA;clear ad I U)
  |(go_at_call 105;refine (x4 gd d10 t.ai cell _ (Kd.bW hc.1 ab.1) je).mono ?_;rw [sY.1];rintro e b9 ⟨rfl,rfl⟩))
  go_ret
  have ao:holds t cell=false:=by
   unfold holds;rw [e3.1]
  rw [ao]
  exact ⟨rfl,ab.1⟩
 | some dI=>
  have eB:av (holds t cell=if t.aE=2 then decide ((dI:Int) < t.at_) else if t.aE=3\/t.aE=4 then true else if t.aE=5 then decide (t.at_<=(dI:Int)) else false):=⟨by unfold holds;rw [q6]⟩;have sY:av (placeOf (iD t.ai cell)=(dI:Int)):=⟨by rw [q6];rfl⟩;clear q6;by_cases s2:t.aE=2
  ·have cO:(t.aE == 2)=true:=by simp [s2]
   have px:=am s2;clear s2
   go_wp2_with (first
   |((with_reducible refine aQ 2 ?_);refine b6 38 ?_;intro gt U b' ad I;have dA:=am ad;have ab:=am I;have gn:=ae dA;clear ad I U)
   |(go_at_call 105;refine (x4 gd d10 t.ai cell _ (Kd.bW hc.1 ab.1) je).mono ?_;rw [sY.1];rintro e b9 ⟨rfl,rfl⟩))
   go_ret
   have ao:holds t cell=decide ((dI:Int) < t.at_):=by
    rw [eB.1];rw [if_pos px.1]
   rw [ao];exact ⟨rfl,ab.1⟩
  ·have cO:(t.aE == 2)=false:=by simp [s2]
   have px:=am s2;clear s2;by_cases ec:t.aE=3
   ·have dh:(t.aE == 3)=true:=by simp [ec]
    have tB:=am ec;clear ec
    go_wp2_with (first
    |((with_reducible refine aQ 2 ?_);refine b6 38 ?_;intro gt U b' ad I;have dA:=am ad;have ab:=am I;have gn:=ae dA;clear ad I U)
    |(go_at_call 105;refine (x4 gd d10 t.ai cell _ (Kd.bW hc.1 ab.1) je).mono ?_;rw [sY.1];rintro e b9 ⟨rfl,rfl⟩))
    go_ret
    have ao:holds t cell=true:=by
     rw [eB.1];rw [if_neg px.1,if_pos (.inl tB.1)]
    rw [ao];exact ⟨rfl,ab.1⟩
   ·have dh:(t.aE == 3)=false:=by simp [ec]
    have tB:=am ec;clear ec;by_cases gx:t.aE=4
    ·have fu:(t.aE == 4)=true:=by simp [gx]
     have rH:=am gx;clear gx
     go_wp2_with (first
     |((with_reducible refine aQ 2 ?_);refine b6 38 ?_;intro gt U b' ad I;have dA:=am ad;have ab:=am I;have gn:=ae dA;clear ad I U)
     |(go_at_call 105;refine (x4 gd d10 t.ai cell _ (Kd.bW hc.1 ab.1) je).mono ?_;rw [sY.1];rintro e b9 ⟨rfl,rfl⟩))
     go_ret
     have ao:holds t cell=true:=by
      rw [eB.1];rw [if_neg px.1,if_pos (.inr rH.1)]
     rw [ao];exact ⟨rfl,ab.1⟩
    ·have fu:(t.aE == 4)=false:=by simp [gx]
     have rH:=am gx;clear gx;by_cases m5:t.aE=5
     ·have iH:(t.aE == 5)=true:=by simp [m5]
      have kj:=am m5;clear m5
      go_wp2_with (first
      |((with_reducible refine aQ 2 ?_);refine b6 38 ?_;intro gt U b' ad I;have dA:=am ad;have ab:=am I;have gn:=ae dA;clear ad I U)
      |(go_at_call 105;refine (x4 gd d10 t.ai cell _ (Kd.bW hc.1 ab.1) je).mono ?_;rw [sY.1];rintro e b9 ⟨rfl,rfl⟩))
      go_ret
      have ao:holds t cell=decide (t.at_<=(dI:Int)):=by
       rw [eB.1];rw [if_neg px.1,if_neg (fun h=>h.elim tB.1 rH.1),if_pos kj.1]
      rw [ao];exact ⟨rfl,ab.1⟩
     ·have iH:(t.aE == 5)=false:=by simp [m5]
      have kj:=am m5;clear m5
      go_wp2_with (first
      |((with_reducible refine aQ 2 ?_);refine b6 38 ?_;intro gt U b' ad I;have dA:=am ad;have ab:=am I;have gn:=ae dA;clear ad I U)
      |(go_at_call 105;refine (x4 gd d10 t.ai cell _ (Kd.bW hc.1 ab.1) je).mono ?_;rw [sY.1];rintro e b9 ⟨rfl,rfl⟩))
      go_ret
      have ao:holds t cell=false:=by
       rw [eB.1];rw [if_neg px.1,if_neg (fun h=>h.elim tB.1 rH.1),if_neg kj.1]
      rw [ao];exact ⟨rfl,ab.1⟩
theorem abg (t:Task) (cs:List Value) (bP:Int) (w:World) (az:eV.K w t cs) (nX:t.reads.length<=1048576) (je:t.ai.length<=1048576):
  Calls Tryz.prog 104 #[.agg cs.toArray,.int .i64 bP] w fun e af=>e= .returned (.bool (ln t bP))/\Below w.heap.size w af:=by
 obtain ⟨hB,d3,iZ,d8,gY,d9,gd,d10,rfl,-⟩:=gh az;clear az;go_enter Tryz.func104,Tryz.ntmps104;by_cases bU:t.aE=0
 ·have ed:(t.aE == 0)=true:=by simp [bU]
  have jz:=am bU;clear bU;by_cases rI:t.at_=0
  ·have K7:(t.at_ == 0)=true:=by simp [rI]
   have Ah:=am rI;clear rI
   go_wp2_with (first
   |((with_reducible refine aQ 2 ?_);refine b6 38 ?_;intro gt U b' ad I;have dA:=am ad;have ab:=am I;have gn:=ae dA;clear ad I U))
   go_ret
   have ao:ln t bP=((t.reads.length:Int)+(t.ai.length:Int) == 0):=by
    unfold ln;rw [if_pos jz.1];rw [decide_eq_true Ah.1,Bool.true_and,Bool.eq_iff_iff,decide_eq_true_eq,beq_iff_eq];omega
   rw [ao];exact ⟨rfl,ab.1⟩
  ·have K7:(t.at_ == 0)=false:=by simp [rI]
   have Ah:=am rI;clear rI
   go_wp2_with (first
   |((with_reducible refine aQ 2 ?_);refine b6 38 ?_;intro gt U b' ad I;have dA:=am ad;have ab:=am I;have gn:=ae dA;clear ad I U))
   go_ret
   have ao:ln t bP=false:=by
    unfold ln;rw [if_pos jz.1];rw [decide_eq_false Ah.1,Bool.false_and]
   rw [ao];exact ⟨rfl,ab.1⟩
 ·have ed:(t.aE == 0)=false:=by simp [bU]
  have jz:=am bU;clear bU;by_cases s1:t.aE=1
  ·have cg:(t.aE == 1)=true:=by simp [s1]
   have zE:=am s1;clear s1;obtain ⟨o0,o'⟩:∃ b,bF t.at_ 0 bP=b:=⟨_,rfl⟩;have eS:av ((decide ((0:Int)<=t.at_) && decide (t.at_<=bP))=o0):=⟨o'⟩;clear o'
   go_wp2_with (first
   |((with_reducible refine aQ 2 ?_);refine b6 38 ?_;intro gt U b' ad I;have dA:=am ad;have ab:=am I;have gn:=ae dA;clear ad I U)
   |(go_at_call 48;refine (fm _ _ _ _).mono ?_;(first|rw [eS.1]);rintro e b9 ⟨rfl,rfl⟩))
   go_ret
   have ao:ln t bP=o0:=by
    unfold ln;rw [if_neg jz.1,if_pos zE.1];exact eS.1
   rw [ao];exact ⟨rfl,ab.1⟩
  ·have cg:(t.aE == 1)=false:=by simp [s1]
   have zE:=am s1;clear s1;by_cases ec:t.aE=3
   ·have dh:(t.aE == 3)=true:=by simp [ec]
    have tB:=am ec;clear ec;by_cases rI:t.at_=0
    ·have K7:(t.at_ == 0)=true:=by simp [rI]
     have Ah:=am rI;clear rI
     go_wp2_with (first
     |((with_reducible refine aQ 2 ?_);refine b6 38 ?_;intro gt U b' ad I;have dA:=am ad;have ab:=am I;have gn:=ae dA;clear ad I U))
     go_ret
     have ao:ln t bP=decide (0 < t.ai.length):=by
      unfold ln;rw [if_neg jz.1,if_neg zE.1,if_pos tB.1];rw [decide_eq_true Ah.1,Bool.true_and]
     rw [ao];exact ⟨rfl,ab.1⟩
    ·have K7:(t.at_ == 0)=false:=by simp [rI]
     have Ah:=am rI;clear rI
     go_wp2_with (first
     |((with_reducible refine aQ 2 ?_);refine b6 38 ?_;intro gt U b' ad I;have dA:=am ad;have ab:=am I;have gn:=ae dA;clear ad I U))
     go_ret
     have ao:ln t bP=false:=by
      unfold ln;rw [if_neg jz.1,if_neg zE.1,if_pos tB.1];rw [decide_eq_false Ah.1,Bool.false_and]
     rw [ao];exact ⟨rfl,ab.1⟩
   ·have dh:(t.aE == 3)=false:=by simp [ec]
    have tB:=am ec;clear ec;by_cases gx:t.aE=4
    ·have fu:(t.aE == 4)=true:=by simp [gx]
     have rH:=am gx;clear gx;obtain ⟨o0,o'⟩:∃ b,bF t.at_ 0 (t.reads.length:Int)=b:=⟨_,rfl⟩;have eS:av ((decide ((0:Int)<=t.at_) && decide (t.at_<=(t.reads.length:Int)))=o0):=⟨o'⟩;clear o'
     cases o0 with
     | false=>
      go_wp2_with (first
      |((with_reducible refine aQ 2 ?_);refine b6 38 ?_;intro gt U b' ad I;have dA:=am ad;have ab:=am I;have gn:=ae dA;clear ad I U)
      |(go_at_call 48;refine (fm _ _ _ _).mono ?_;(first|rw [eS.1]);rintro e b9 ⟨rfl,rfl⟩))
      go_ret
      have ao:ln t bP=false:=by
       unfold ln;rw [if_neg jz.1,if_neg zE.1,if_neg tB.1,if_pos rH.1];rw [show bF t.at_ 0 (t.reads.length:Int)=false from eS.1,Bool.false_and]
      rw [ao]
      exact ⟨rfl,ab.1⟩
     | true=>
      go_wp2_with (first
      |((with_reducible refine aQ 2 ?_);refine b6 38 ?_;intro gt U b' ad I;have dA:=am ad;have ab:=am I;have gn:=ae dA;clear ad I U)
      |(go_at_call 48;refine (fm _ _ _ _).mono ?_;(first|rw [eS.1]);rintro e b9 ⟨rfl,rfl⟩))
      go_ret
      have ao:ln t bP=decide (0 < t.ai.length):=by
       unfold ln;rw [if_neg jz.1,if_neg zE.1,if_neg tB.1,if_pos rH.1];rw [show bF t.at_ 0 (t.reads.length:Int)=true from eS.1,Bool.true_and]
      rw [ao];exact ⟨rfl,ab.1⟩
    ·have fu:(t.aE == 4)=false:=by simp [gx]
     have rH:=am gx;clear gx;obtain ⟨o0,o'⟩:∃ b,bF t.at_ 0 ((t.ai.length:Int) - 1)=b:=⟨_,rfl⟩;have eS:av ((decide ((0:Int)<=t.at_) && decide (t.at_<=((t.ai.length:Int) - 1)))=o0):=⟨o'⟩;clear o'
     go_wp2_with (first
     |((with_reducible refine aQ 2 ?_);refine b6 38 ?_;intro gt U b' ad I;have dA:=am ad;have ab:=am I;have gn:=ae dA;clear ad I U)
     |(go_at_call 48;refine (fm _ _ _ _).mono ?_;(first|rw [eS.1]);rintro e b9 ⟨rfl,rfl⟩))
     go_ret
     have ao:ln t bP=o0:=by
      unfold ln;rw [if_neg jz.1,if_neg zE.1,if_neg tB.1,if_neg rH.1];exact eS.1
     rw [ao];exact ⟨rfl,ab.1⟩
theorem ab2 (t:Task) (s:Sys) (cs c6:List Value) (w:World) (az:eV.K w t cs) (hs:cS.K w s c6) (iu:0<=s.clock) (qa:s.clock<=200) (ak:s.log.length<=1048576):
  Calls Tryz.prog 70 #[.agg cs.toArray,.agg c6.toArray] w fun e af=>e= .returned (.bool (oc t s))/\Below w.heap.size w af:=by
 obtain ⟨hB,d3,iZ,d8,gY,d9,gd,d10,rfl,-⟩:=gh az;obtain ⟨cX,bL,dX,cu,cU,bO,rfl,-⟩:=gX hs;clear az hs;go_enter Tryz.func70,Tryz.ntmps70;obtain ⟨um,vd⟩:∃ b,bF t.since 0 s.clock=b:=⟨_,rfl⟩;have H1:av ((decide ((0:Int)<=t.since) && decide (t.since<=s.clock))=um):=⟨vd⟩;clear vd
 cases DW:um with
 | false=>
  subst DW
  go_wp2_with (first
  |((with_reducible refine aQ 2 ?_);refine b6 38 ?_;intro gt U b' ad I;have dA:=am ad;have ab:=am I;have gn:=ae dA;clear ad I U)
  |((with_reducible refine aQ 3 ?_);refine b6 31 ?_;intro gs U eE ad I;have al:=am ad;replace ab:=cf ab I;replace dA:=aV dA I;clear gn ad I U;have gn:=ae dA;have bg:=ae al)
  |(go_at_call 48;refine (fm _ _ _ _).mono ?_;(first|rw [H1.1]);rintro e b9 ⟨rfl,rfl⟩))
  go_ret
  have ao:oc t s=false:=by
   unfold oc;rw [show bF t.since 0 s.clock=false from H1.1,Bool.false_and,Bool.false_and]
  rw [ao]
  exact ⟨rfl,ab.1⟩
 | true=>
  subst DW;have K8:=e0.1 (show bF t.since 0 s.clock=true from H1.1);have ac0:=K8.1;have ac1:=K8.2;clear K8;obtain ⟨uo,ve⟩:∃ b,bF t.from_ 0 (s.log.length:Int)=b:=⟨_,rfl⟩;have bn:av ((decide ((0:Int)<=t.from_) && decide (t.from_<=(s.log.length:Int)))=uo):=⟨ve⟩;clear ve
  cases sS:uo with
  | false=>
   subst sS
   go_wp2_with (first
   |((with_reducible refine aQ 2 ?_);refine b6 38 ?_;intro gt U b' ad I;have dA:=am ad;have ab:=am I;have gn:=ae dA;clear ad I U)
   |((with_reducible refine aQ 3 ?_);refine b6 31 ?_;intro gs U eE ad I;have al:=am ad;replace ab:=cf ab I;replace dA:=aV dA I;clear gn ad I U;have gn:=ae dA;have bg:=ae al)
   |(go_at_call 48;refine (fm _ _ _ _).mono ?_;(first|rw [H1.1] | rw [bn.1]);rintro e b9 ⟨rfl,rfl⟩))
   go_ret
   have ao:oc t s=false:=by
    unfold oc;rw [show bF t.from_ 0 (s.log.length:Int)=false from bn.1,Bool.and_false,Bool.false_and]
   rw [ao]
   exact ⟨rfl,ab.1⟩
  | true=>
   subst sS;by_cases bU:t.aE=0
   ·have ed:(t.aE == 0)=true:=by simp [bU]
    have jz:=am bU;clear bU;obtain ⟨o0,o'⟩:∃ b,bF t.bw 0 (s.clock+1)=b:=⟨_,rfl⟩;have eS:av ((decide ((0:Int)<=t.bw) && decide (t.bw<=(s.clock+1)))=o0):=⟨o'⟩;clear o'
    go_wp2_with (first
    |((with_reducible refine aQ 2 ?_);refine b6 38 ?_;intro gt U b' ad I;have dA:=am ad;have ab:=am I;have gn:=ae dA;clear ad I U)
    |((with_reducible refine aQ 3 ?_);refine b6 31 ?_;intro gs U eE ad I;have al:=am ad;replace ab:=cf ab I;replace dA:=aV dA I;clear gn ad I U;have gn:=ae dA;have bg:=ae al)
    |(go_at_call 48;refine (fm _ _ _ _).mono ?_;(first|rw [H1.1] | rw [bn.1] | rw [eS.1]);rintro e b9 ⟨rfl,rfl⟩))
    go_ret
    have ao:oc t s=o0:=by
     unfold oc;rw [show bF t.since 0 s.clock=true from H1.1,show bF t.from_ 0 (s.log.length:Int)=true from bn.1,Bool.true_and,Bool.true_and];rw [if_pos jz.1];exact eS.1
    rw [ao];exact ⟨rfl,ab.1⟩
   ·have ed:(t.aE == 0)=false:=by simp [bU]
    have jz:=am bU;clear bU;by_cases gx:t.aE=4
    ·have fu:(t.aE == 4)=true:=by simp [gx]
     have rH:=am gx;clear gx;obtain ⟨o0,o'⟩:∃ b,bF t.bw (t.since+1) s.clock=b:=⟨_,rfl⟩;have eS:av ((decide (((t.since+1):Int)<=t.bw) && decide (t.bw<=s.clock))=o0):=⟨o'⟩;clear o'
     go_wp2_with (first
     |((with_reducible refine aQ 2 ?_);refine b6 38 ?_;intro gt U b' ad I;have dA:=am ad;have ab:=am I;have gn:=ae dA;clear ad I U)
     |((with_reducible refine aQ 3 ?_);refine b6 31 ?_;intro gs U eE ad I;have al:=am ad;replace ab:=cf ab I;replace dA:=aV dA I;clear gn ad I U;have gn:=ae dA;have bg:=ae al)
     |(go_at_call 48;refine (fm _ _ _ _).mono ?_;(first|rw [H1.1] | rw [bn.1] | rw [eS.1]);rintro e b9 ⟨rfl,rfl⟩))
     go_ret
     have ao:oc t s=o0:=by
      unfold oc;rw [show bF t.since 0 s.clock=true from H1.1,show bF t.from_ 0 (s.log.length:Int)=true from bn.1,Bool.true_and,Bool.true_and];rw [if_neg jz.1,if_pos (.inl rH.1)];exact eS.1
     rw [ao];exact ⟨rfl,ab.1⟩
    ·have fu:(t.aE == 4)=false:=by simp [gx]
     have rH:=am gx;clear gx;by_cases m5:t.aE=5
     ·have iH:(t.aE == 5)=true:=by simp [m5]
      have kj:=am m5;clear m5;obtain ⟨o0,o'⟩:∃ b,bF t.bw (t.since+1) s.clock=b:=⟨_,rfl⟩;have eS:av ((decide (((t.since+1):Int)<=t.bw) && decide (t.bw<=s.clock))=o0):=⟨o'⟩;clear o'
      go_wp2_with (first
      |((with_reducible refine aQ 2 ?_);refine b6 38 ?_;intro gt U b' ad I;have dA:=am ad;have ab:=am I;have gn:=ae dA;clear ad I U)
      |((with_reducible refine aQ 3 ?_);refine b6 31 ?_;intro gs U eE ad I;have al:=am ad;replace ab:=cf ab I;replace dA:=aV dA I;clear gn ad I U;have gn:=ae dA;have bg:=ae al)
      |(go_at_call 48;refine (fm _ _ _ _).mono ?_;(first|rw [H1.1] | rw [bn.1] | rw [eS.1]);rintro e b9 ⟨rfl,rfl⟩))
      go_ret
      have ao:oc t s=o0:=by
       unfold oc;rw [show bF t.since 0 s.clock=true from H1.1,show bF t.from_ 0 (s.log.length:Int)=true from bn.1,Bool.true_and,Bool.true_and];rw [if_neg jz.1,if_pos (.inr kj.1)];exact eS.1
      rw [ao];exact ⟨rfl,ab.1⟩
     ·have iH:(t.aE == 5)=false:=by simp [m5]
      have kj:=am m5;clear m5;have eS:=H1
      go_wp2_with (first
      |((with_reducible refine aQ 2 ?_);refine b6 38 ?_;intro gt U b' ad I;have dA:=am ad;have ab:=am I;have gn:=ae dA;clear ad I U)
      |((with_reducible refine aQ 3 ?_);refine b6 31 ?_;intro gs U eE ad I;have al:=am ad;replace ab:=cf ab I;replace dA:=aV dA I;clear gn ad I U;have gn:=ae dA;have bg:=ae al)
      |(go_at_call 48;refine (fm _ _ _ _).mono ?_;(first|rw [H1.1] | rw [bn.1] | rw [eS.1]);rintro e b9 ⟨rfl,rfl⟩))
      go_ret
      have ao:oc t s=(t.bw == 0):=by
       unfold oc;rw [show bF t.since 0 s.clock=true from H1.1,show bF t.from_ 0 (s.log.length:Int)=true from bn.1,Bool.true_and,Bool.true_and];rw [if_neg jz.1,if_neg (fun h=>h.elim rH.1 kj.1),Bool.eq_iff_iff,decide_eq_true_eq,beq_iff_eq]
      rw [ao];exact ⟨rfl,ab.1⟩
theorem abh (s:Sys) (c6:List Value) (i:Nat) (w:World) (hs:cS.K w s c6) (aa:i < s.tasks.length) (aS:s.tasks.length<=1048576):
  Calls Tryz.prog 71 #[.agg c6.toArray,.int .i64 i] w fun e af=>e= .returned (.bool (ka s i))/\Below w.heap.size w af:=by
 obtain ⟨cX,bL,dX,cu,cU,bO,rfl,-,-,-,db,-⟩:=gX hs;have iM:=am db;obtain ⟨b,o,cs,rfl,bQ,au,aM,-⟩:=dd db dS i aa (by decide);obtain ⟨t,a6⟩:∃ x,x=aD s.tasks i:=⟨_,rfl⟩;rw [show s.tasks.getD i dS=t from a6.symm] at au;obtain ⟨hB,d3,iZ,d8,gY,d9,gd,d10,rfl,-⟩:=gh au;have cJ:=am aM;have bz:(0:Int)<=(i:Int):=by omega
 have b7:(i:Int) < (s.tasks.length:Int):=by omega
 have bX:av (ka s i=if i=0 then decide (t.up= -1) else bF t.up 0 (i - 1) && (!isLive t || decide ((aD s.tasks t.up.toNat).a7=1))):=⟨by rw [a6];rfl⟩;clear hs db bQ au aM a6;go_enter Tryz.func71,Tryz.ntmps71;by_cases aq:i=0
 ·have ed:((i:Int) == 0)=true:=by simp [aq]
  have yA:(i == 0)=true:=by simp [aq]
  have rJ:=am aq;clear aq
  go_wp2_with (first
  |((with_reducible refine aQ 2 ?_);refine b6 31 ?_;intro gs U b' ad I;have al:=am ad;have ab:=am I;have bg:=ae al;clear ad I U)
  |((with_reducible refine aQ 11 ?_);refine c4 b (o+i*13) (fun j u hu=>dD ab.1 (cJ.1 j u hu)) ?_)|((with_reducible refine aQ 5 ?_);refine hy 38 ?_;intro gt wt lg GT dF)|((with_reducible refine bT 38 5 ?_);refine dG lg ?_;intro wn ad U;have dA:=am ad;have bk:=fq dF GT U;replace al:=aV al bk;replace ab:=cf ab bk;clear bg lg dF bk ad U;have bg:=ae al;have gn:=ae dA))
  go_ret
  have ao:ka s i=(t.up == -1):=by
   rw [bX.1];rw [if_pos rJ.1,Bool.eq_iff_iff,decide_eq_true_eq,beq_iff_eq]
  rw [ao];exact ⟨rfl,ab.1⟩
 ·have ed:((i:Int) == 0)=false:=by simp [aq]
  have yA:(i == 0)=false:=by simp [aq]
  have rJ:=am aq;clear aq
  cases bZ:bF t.up 0 ((i:Int) - 1) with
  | false=>
   have H1:av ((decide ((0:Int)<=t.up) && decide (t.up<=(i:Int) - 1))=false):=⟨bZ⟩;clear bZ
   go_wp2_with (first
   |((with_reducible refine aQ 2 ?_);refine b6 31 ?_;intro gs U b' ad I;have al:=am ad;have ab:=am I;have bg:=ae al;clear ad I U)
   |((with_reducible refine aQ 11 ?_);refine c4 b (o+i*13) (fun j u hu=>dD ab.1 (cJ.1 j u hu)) ?_)|((with_reducible refine aQ 5 ?_);refine hy 38 ?_;intro gt wt lg GT dF)|((with_reducible refine bT 38 5 ?_);refine dG lg ?_;intro wn ad U;have dA:=am ad;have bk:=fq dF GT U;replace al:=aV al bk;replace ab:=cf ab bk;clear bg lg dF bk ad U;have bg:=ae al;have gn:=ae dA)
   |(go_at_call 48;refine (fm _ _ _ _).mono ?_;(first|rw [H1.1]);rintro e b9 ⟨rfl,rfl⟩))
   go_ret
   have ao:ka s i=false:=by
    rw [bX.1];rw [if_neg rJ.1,show bF t.up 0 ((i:Int) - 1)=false from H1.1,Bool.false_and]
   rw [ao]
   exact ⟨rfl,ab.1⟩
  | true=>
   have H1:av ((decide ((0:Int)<=t.up) && decide (t.up<=(i:Int) - 1))=true):=⟨bZ⟩;have hu:=e0.1 bZ;clear bZ;obtain ⟨u,Eg⟩:=Int.eq_ofNat_of_zero_le hu.1;have Cb:u < s.tasks.length:=by omega
   have dZ:(0:Int)<=t.up:=hu.1;have jL:t.up < (s.tasks.length:Int):=by omega
   have l4:t.up.toNat=u:=by omega
   obtain ⟨mB,tt,gN,he,bQ,au,aM,-⟩:=dd iM.1 dS u Cb (by decide);cases he;obtain ⟨nR,oX⟩:∃ x,x=(aD s.tasks u).a7:=⟨_,rfl⟩;rw [show s.tasks.getD u dS=aD s.tasks u from rfl] at au;obtain ⟨p3,f3,Ds,f8,zB,f9,yD,f10,rfl,-⟩:=gh au;have oR:=aM 4 _ rfl;simp only [show eV.bD=13 from rfl] at oR;rw [<-oX] at oR;have vG:=am oR;have Hb:=am oX;clear bQ au aM oR oX hu Eg;by_cases w0:t.a7=0
   ·have z0:(t.a7 == 0)=true:=by simp [w0]
    have vB:=am w0;clear w0
    go_wp2_with (first
    |((with_reducible refine aQ 2 ?_);refine b6 31 ?_;intro gs U b' ad I;have al:=am ad;have ab:=am I;have bg:=ae al;clear ad I U)
    |((with_reducible refine aQ 11 ?_);refine c4 b (o+i*13) (fun j u hu=>dD ab.1 (cJ.1 j u hu)) ?_)|((with_reducible refine aQ 5 ?_);refine hy 38 ?_;intro gt wt lg GT dF)|((with_reducible refine bT 38 5 ?_);refine dG lg ?_;intro wn ad U;have dA:=am ad;have bk:=fq dF GT U;replace al:=aV al bk;replace ab:=cf ab bk;clear bg lg dF bk ad U;have bg:=ae al;have gn:=ae dA;have JU:=dD ab.1 vG.1)
    |(go_at_call 48;refine (fm _ _ _ _).mono ?_;(first|rw [H1.1]);rintro e b9 ⟨rfl,rfl⟩))
    go_ret
    have ao:ka s i=(nR == 1):=by
     rw [bX.1];rw [if_neg rJ.1,show bF t.up 0 ((i:Int) - 1)=true from H1.1,l4,<-Hb.1,show isLive t=true by simp [isLive,vB.1]];rw [Bool.true_and,Bool.not_true,Bool.false_or,Bool.eq_iff_iff,decide_eq_true_eq,beq_iff_eq]
    rw [ao];exact ⟨rfl,ab.1⟩
   ·have z0:(t.a7 == 0)=false:=by simp [w0]
    by_cases w1:t.a7=1
    ·have gq:(t.a7 == 1)=true:=by simp [w1]
     have W1:=am w1;clear w0 w1
     go_wp2_with (first
     |((with_reducible refine aQ 2 ?_);refine b6 31 ?_;intro gs U b' ad I;have al:=am ad;have ab:=am I;have bg:=ae al;clear ad I U)
     |((with_reducible refine aQ 11 ?_);refine c4 b (o+i*13) (fun j u hu=>dD ab.1 (cJ.1 j u hu)) ?_)|((with_reducible refine aQ 5 ?_);refine hy 38 ?_;intro gt wt lg GT dF)|((with_reducible refine bT 38 5 ?_);refine dG lg ?_;intro wn ad U;have dA:=am ad;have bk:=fq dF GT U;replace al:=aV al bk;replace ab:=cf ab bk;clear bg lg dF bk ad U;have bg:=ae al;have gn:=ae dA;have JU:=dD ab.1 vG.1)
     |(go_at_call 48;refine (fm _ _ _ _).mono ?_;(first|rw [H1.1]);rintro e b9 ⟨rfl,rfl⟩))
     go_ret
     have ao:ka s i=(nR == 1):=by
      rw [bX.1];rw [if_neg rJ.1,show bF t.up 0 ((i:Int) - 1)=true from H1.1,l4,<-Hb.1,show isLive t=true by simp [isLive,W1.1]];rw [Bool.true_and,Bool.not_true,Bool.false_or,Bool.eq_iff_iff,decide_eq_true_eq,beq_iff_eq]
     rw [ao];exact ⟨rfl,ab.1⟩
    ·have gq:(t.a7 == 1)=false:=by simp [w1]
     have Tp:av (isLive t=false):=⟨by simp [isLive,w0,w1]⟩;clear w0 w1
     go_wp2_with (first
     |((with_reducible refine aQ 2 ?_);refine b6 31 ?_;intro gs U b' ad I;have al:=am ad;have ab:=am I;have bg:=ae al;clear ad I U)
     |((with_reducible refine aQ 11 ?_);refine c4 b (o+i*13) (fun j u hu=>dD ab.1 (cJ.1 j u hu)) ?_)|((with_reducible refine aQ 5 ?_);refine hy 38 ?_;intro gt wt lg GT dF)|((with_reducible refine bT 38 5 ?_);refine dG lg ?_;intro wn ad U;have dA:=am ad;have bk:=fq dF GT U;replace al:=aV al bk;replace ab:=cf ab bk;clear bg lg dF bk ad U;have bg:=ae al;have gn:=ae dA;have JU:=dD ab.1 vG.1)
     |(go_at_call 48;refine (fm _ _ _ _).mono ?_;(first|rw [H1.1]);rintro e b9 ⟨rfl,rfl⟩))
     go_ret
     have ao:ka s i=true:=by
      rw [bX.1];rw [if_neg rJ.1,show bF t.up 0 ((i:Int) - 1)=true from H1.1,Tp.1];rfl
     rw [ao];exact ⟨rfl,ab.1⟩
theorem JV {q:Prop} (h:q:=by
 go_wp2_with (first
 |((with_reducible refine aQ 17 ?_);refine c4 gZ (tC+k*3) (fun j u hu=>dD ab.1 (cl.1 j u hu)) ?_)|((with_reducible refine aQ 4 ?_);refine hy 50 ?_;intro gc wt o1 qR dF)|((with_reducible refine bT 50 4 ?_);refine dG o1 ?_;intro wn ad U;have m6:=am ad;have bk:=fq dF qR U;replace al:=aV al bk;replace ab:=cf ab bk;clear bg o1 dF bk ad U;have bg:=ae al;have xm:=ae m6)
 |(go_at_call 48;refine (fm _ _ _ _).mono ?_;(first|rw [H1.1] | rw [bn.1] | rw [gE.1]);rintro e b9 ⟨rfl,rfl⟩))
 go_ret;rw [cb.1];exact ⟨rfl,ab.1⟩):q:=h
theorem P0 {q:Prop} (h:q:=by
 go_wp2;go_ret
 have ao:nI s=false:=by
  unfold nI;exact hK aJ (by rw [<-vH.1];simp only [];rw [hK r4 (by rw [<-wT.1,py.1,dq.1];rfl),Bool.and_false])
 rw [ao];exact ⟨rfl,ab.1⟩):q:=h
theorem S8 (s:Sys) (c6:List Value) (w:World) (hs:cS.K w s c6) (hm:s.cells.length<=1048576) (aS:s.tasks.length<=1048576) (aX:∀ i,i < s.tasks.length->(aD s.tasks i).ai.length<=1048576):
  Calls Tryz.prog 50 #[.agg c6.toArray] w fun e af=>e= .returned (.bool (nI s))/\Below w.heap.size w af:=by
 obtain ⟨cX,bL,dX,cu,cU,bO,rfl,-,fz,-,db,-⟩:=gX hs;have pt:=am fz;have iM:=am db;have fY:=am aX;clear hs fz db aX;go_enter Tryz.func50,Tryz.ntmps50
 go_wp2_with (first
 |((with_reducible refine aQ 1 ?_);refine b6 31 ?_;intro gs U b' ad I;have al:=am ad;have ab:=am I;have bg:=ae al;clear ad I U))
 go_loopw [3] (fun j af=>∃ k:Nat,k<=s.cells.length/\j= .int .i64 k/\av (∀ i,i < k->(bF (cellAt s.cells i).num 0 99 && bF (cellAt s.cells i).time 0 s.clock && bF (cellAt s.cells i).lock (-1) (s.tasks.length - 1) && hH s.tasks.length fun k=>decide (holds (aD s.tasks k) i=decide ((cellAt s.cells i).lock=k)))=true)/\av (af.heap[gs]? = some (.cells #[.slice cX s.cells.length bL,.slice dX s.tasks.length cu,.int .i64 s.clock,.slice cU s.log.length bO] 31 (0,0)))/\av (Below w.heap.size w af)) (fun j _=>s.cells.length - (intOf j).toNat)
 case atStart=>exact ⟨0,Nat.zero_le _,rfl,⟨fun i aa=>by omega⟩,al,ab⟩
 case round=>
  clear al ab bg;obtain ⟨k,J,rfl,du,al,ab⟩:=hrel;have bg:=ae al;by_cases aJ:k < s.cells.length
  ·obtain ⟨gZ,tC,cs,rfl,bQ,au,aM,-⟩:=dd pt.1 lq k aJ (by decide)
   obtain ⟨c,oz⟩:∃ x,x=cellAt s.cells k:=⟨_,rfl⟩;rw [show s.cells.getD k lq=c from oz.symm] at au;have e:=x1 au;subst e;have cl:=am aM;have vH:=am oz;have bz:(0:Int)<=(k:Int):=by omega
   have b7:(k:Int) < (s.cells.length:Int):=by omega
   clear bQ au aM oz;obtain ⟨um,vd⟩:∃ b,bF c.num 0 99=b:=⟨_,rfl⟩;have H1:av ((decide ((0:Int)<=c.num) && decide (c.num<=99))=um):=⟨vd⟩;clear vd;obtain ⟨uo,ve⟩:∃ b,bF c.time 0 s.clock=b:=⟨_,rfl⟩;have bn:av ((decide ((0:Int)<=c.time) && decide (c.time<=s.clock))=uo):=⟨ve⟩;clear ve;obtain ⟨Eh,Ff⟩:∃ b,bF c.lock (-1) ((s.tasks.length:Int) - 1)=b:=⟨_,rfl⟩;have gE:av ((decide ((-1:Int)<=c.lock) && decide (c.lock<=(s.tasks.length:Int) - 1))=Eh):=⟨Ff⟩;clear Ff
   cases um with
   | false=>
    have cb:av (nI s=false):=⟨by unfold nI;exact hK aJ (by rw [<-vH.1];simp only [];rw [show bF c.num 0 99=false from H1.1,Bool.false_and,Bool.false_and,Bool.false_and])⟩
    exact JV
   | true=>
    cases uo with
    | false=>
     have cb:av (nI s=false):=⟨by unfold nI;exact hK aJ (by rw [<-vH.1];simp only [];rw [show bF c.time 0 s.clock=false from bn.1,Bool.and_false,Bool.false_and,Bool.false_and])⟩
     exact JV
    | true=>
     cases Eh with
     | false=>
      have cb:av (nI s=false):=⟨by unfold nI;exact hK aJ (by rw [<-vH.1];simp only [];rw [show bF c.lock (-1) ((s.tasks.length:Int) - 1)=false from gE.1,Bool.and_false,Bool.false_and])⟩
      exact JV
     | true=>
      go_wp2_with (first
      |((with_reducible refine aQ 17 ?_);refine c4 gZ (tC+k*3) (fun j u hu=>dD ab.1 (cl.1 j u hu)) ?_)|((with_reducible refine aQ 4 ?_);refine hy 50 ?_;intro gc wt o1 qR dF)|((with_reducible refine bT 50 4 ?_);refine dG o1 ?_;intro wn ad U;have m6:=am ad;have bk:=fq dF qR U;replace al:=aV al bk;replace ab:=cf ab bk;clear bg o1 dF bk ad U;have bg:=ae al;have xm:=ae m6)
      |(go_at_call 48;refine (fm _ _ _ _).mono ?_;(first|rw [H1.1] | rw [bn.1] | rw [gE.1]);rintro e b9 ⟨rfl,rfl⟩))
      go_loopw [5] (fun j af=>∃ m:Nat,m<=s.tasks.length/\j= .int .i64 m/\av (∀ i,i < m->decide (holds (aD s.tasks i) k=decide (c.lock=i))=true)/\av (af.heap[gs]? = some (.cells #[.slice (some ⟨gZ,tC,none⟩) s.cells.length bL,.slice dX s.tasks.length cu,.int .i64 s.clock,.slice cU s.log.length bO] 31 (0,0)))/\av (af.heap[gc]? = some (.cells #[.int .i64 c.num,.int .i64 c.time,.int .i64 c.lock] 50 (0,0)))/\av (Below w.heap.size w af)) (fun j _=>s.tasks.length - (intOf j).toNat)
      case atStart=>exact ⟨0,Nat.zero_le _,rfl,⟨fun i aa=>by omega⟩,al,m6,ab⟩
      case round=>
       clear al m6 ab bg xm;obtain ⟨m,DR,rfl,fo,al,m6,ab⟩:=hrel;have bg:=ae al;have xm:=ae m6;by_cases r4:m < s.tasks.length
       ·obtain ⟨b,o,cs,rfl,bQ,au,aM,-⟩:=dd iM.1 dS m r4 (by decide)
        have N2:=am (fY.1 m r4);obtain ⟨t,Hc⟩:∃ x,x=aD s.tasks m:=⟨_,rfl⟩;rw [<-Hc] at N2;rw [show s.tasks.getD m dS=t from Hc.symm] at au;have cT:=am au;have wT:=am Hc;obtain ⟨hB,d3,iZ,d8,gY,d9,gd,d10,rfl,-⟩:=gh au;have hO:=am aM;have dZ:(0:Int)<=(m:Int):=by omega
        have jL:(m:Int) < (s.tasks.length:Int):=by omega
        clear bQ au aM Hc;obtain ⟨UY,N3⟩:∃ x,holds t (k:Int)=x:=⟨_,rfl⟩;obtain ⟨JW,fP⟩:∃ x,decide (c.lock=(m:Int))=x:=⟨_,rfl⟩;have py:=am N3;have dq:=am fP;have ye:(c.lock == (m:Int))=JW:=by rw [<-fP];rfl
        clear N3 fP;go_wp2;refine kO (n:=12) (S:=fun W=>W.heap[gs]? = some (.cells #[.slice (some ⟨gZ,tC,none⟩) s.cells.length bL,.slice (some ⟨b,o,none⟩) s.tasks.length cu,.int .i64 s.clock,.slice cU s.log.length bO] 31 (0,0))/\W.heap[gc]? = some (.cells #[.int .i64 c.num,.int .i64 c.time,.int .i64 c.lock] 50 (0,0))/\∀ j u, [.int .i64 t.body,.int .i64 t.aR,.int .i64 t.up,.slice hB t.aL.length d3,.int .i64 t.a7,.int .i64 t.aE,.int .i64 t.at_,.int .i64 t.since,.slice iZ t.bE.length d8,.slice gY t.reads.length d9,.slice gd t.ai.length d10,.int .i64 t.bw,.int .i64 t.from_][j]? = some u->W.cell? ⟨b,o+m*13+j,none⟩=some u) (ds:= []) (by kernel_rfl) rfl ⟨gW al.1,gW m6.1,fun j u hu=>(show wr.cell? ⟨b,o+m*13+j,none⟩=_ from dD ab.1 (hO.1 j u hu))⟩ (fun aK=> ?_);have I:=ei (Below.refl wr.heap.size wr);generalize wr.drew=fN at I aK ⊢;have iy:=cf ab I;clear I ab al m6 bg xm;refine hn 2 10 [0,1,2,3,4,5,7,8,9,10] aK ?_
        iterate 10 (refine hR rfl (by rintro W ⟨bU,s2,ec⟩;have t0:=bf bU;have t2:=bf s2;have u0:=ec 0 _ rfl;have u1:=ec 1 _ rfl;have u2:=ec 2 _ rfl;have u3:=ec 3 _ rfl;have u4:=ec 4 _ rfl;have u5:=ec 5 _ rfl;have u6:=ec 6 _ rfl;have u7:=ec 7 _ rfl;have u8:=ec 8 _ rfl;have u9:=ec 9 _ rfl;have u10:=ec 10 _ rfl;have u11:=ec 11 _ rfl;have u12:=ec 12 _ rfl;rw [Nat.add_zero] at u0;clear bU s2 ec;go_simp;with_reducible rfl) ?_)
        refine bN ?_;refine fs 6 (some 53) (fun K au=> ?_);refine kW Tryz.func73 #[.agg #[.int .i64 t.body,.int .i64 t.aR,.int .i64 t.up,.slice hB t.aL.length d3,.int .i64 t.a7,.int .i64 t.aE,.int .i64 t.at_,.int .i64 t.since,.slice iZ t.bE.length d8,.slice gY t.reads.length d9,.slice gd t.ai.length d10,.int .i64 t.bw,.int .i64 t.from_],.int .i64 k] ?_;refine (ab1 t _ (k:Int) _ (eV.bH iy.1 cT.1) N2.1).mono ?_;rw [py.1];rintro e wn ⟨rfl,I⟩;refine ⟨_,rfl, ?_⟩;refine au.out _ _ ⟨fS aK.1 I,fS aK.2.1 I,fun j u hu=>dD I (aK.2.2 j u hu)⟩ (fun aK=>e8 ?_);clear au K
        have ab:=cf iy I;refine hn 0 1 [11] aK ?_
        iterate 1 (refine hR rfl (by intro W fx;go_simp;with_reducible rfl) ?_)
        refine bN ?_;have al:=am aK.1;have m6:=am aK.2.1;clear aK iy I;have bg:=ae al;have xm:=ae m6;refine xH (by kernel_rfl) ?_;cases UY
        case true=>
         cases JW
         case true=>
          go_wp2;go_roundw
          case rel=>exact ⟨m+1,by omega,by go_num,⟨fun i aa=>by rcases Nat.lt_or_ge i m with h | h;exact fo.1 i h;obtain rfl:i=m:=(by omega);rw [<-wT.1,py.1,dq.1];rfl⟩,al,m6,ab⟩
          case measure=>simp [intOf];omega
         case false=>
          exact P0
        case false=>
         cases JW
         case true=>
          exact P0
         case false=>
          go_wp2;go_roundw
          case rel=>exact ⟨m+1,by omega,by go_num,⟨fun i aa=>by rcases Nat.lt_or_ge i m with h | h;exact fo.1 i h;obtain rfl:i=m:=(by omega);rw [<-wT.1,py.1,dq.1];rfl⟩,al,m6,ab⟩
          case measure=>simp [intOf];omega
       ·obtain rfl:m=s.tasks.length:=by omega
        go_wp2;go_roundw
        case rel=>exact ⟨k+1,by omega,by go_num,⟨fun i aa=>by rcases Nat.lt_or_ge i k with h | h;exact du.1 i h;obtain rfl:i=k:=(by omega);rw [<-vH.1,show bF c.num 0 99=true from H1.1,show bF c.time 0 s.clock=true from bn.1,show bF c.lock (-1) ((s.tasks.length:Int) - 1)=true from gE.1,hv.2 fo.1];rfl⟩,al,ab⟩
        case measure=>simp [intOf];omega
  ·obtain rfl:k=s.cells.length:=by omega
   go_wp2;go_ret
   have ao:nI s=true:=by
    unfold nI;exact hv.2 du.1
   rw [ao];exact ⟨rfl,ab.1⟩
theorem Ei {q:Prop} (h:q:=by
 go_wp2_with (first
 |((with_reducible refine aQ 18 ?_);refine c4 be (IX+k*6) (fun j u hu=>dD ab.1 (cl.1 j u hu)) ?_)|((with_reducible refine aQ 6 ?_);refine hy 105 ?_;intro ge wt Ej JX dF)|((with_reducible refine bT 105 6 ?_);refine dG Ej ?_;intro wn ad U;have tD:=am ad;have bk:=fq dF JX U;clear Ej dF ad U;replace aj:=aV aj bk;replace al:=aV al bk;replace ab:=cf ab bk;clear bk a5 bg;have a5:=ae aj;have bg:=ae al;have Cc:=ae tD)
 |(go_at_call 48;refine (fm _ _ _ _).mono ?_;(first|rw [H1.1] | rw [bn.1] | rw [gE.1]);rintro e b9 ⟨rfl,rfl⟩)
 |(go_at_call 69;refine (MM _ _ _ _ _ (by first|exact Kd.bW lz.1 ab.1 | exact Kd.bW Dt.1 ab.1) (by first|exact N4.1 | exact Ai.1) (by omega) (by omega)).mono ?_;(first|rw [nO.1] | rw [oM.1]);rintro e b9 ⟨rfl,I⟩;replace aj:=aV aj I;replace al:=aV al I;replace tD:=aV tD I;replace ab:=cf ab I;clear I a5 bg Cc;have a5:=ae aj;have bg:=ae al;have Cc:=ae tD))
 go_ret;rw [cb.1];exact ⟨rfl,ab.1⟩):q:=h
theorem abD (p:Prog) (bK:List Value) (s:Sys) (c6:List Value) (w:World) (aB:cN.K w p bK) (hs:cS.K w s c6) (aX:jI p) (hm:s.cells.length<=1048576) (aS:s.tasks.length<=1048576) (ak:s.log.length<=1048576) (cP:∀ i,i < s.log.length->(eh s.log i).reads.length<=1048576/\(eh s.log i).ai.length<=1048576) (q9:∀ i,i < s.tasks.length->0<=(aD s.tasks i).body/\(aD s.tasks i).body < p.an.length):
  Calls Tryz.prog 51 #[.agg bK.toArray,.agg c6.toArray] w fun e af=>e= .returned (.bool (mU p s))/\Below w.heap.size w af:=by
 obtain ⟨ek,ey,g0,er,rfl,-,-,-,gb⟩:=jk aB;obtain ⟨cX,bL,dX,cu,cU,bO,rfl,-,-,-,db,-,dj⟩:=gX hs;have nk:=am gb;have iM:=am db;have tx:=am dj;have fY:=am cP;have ld:=am q9;have cK:av (∀ k,k < p.an.length->(bo p.an k).length<=1048576):=⟨fun k J=>by rw [zi J];exact (aX.cq _ (List.getElem_mem J)).1⟩;have ac2:=aX.an;clear aB hs gb db dj cP q9 aX;go_enter Tryz.func51,Tryz.ntmps51
 go_wp2_with (first
 |((with_reducible refine aQ 2 ?_);refine b6 26 ?_;intro de U b' ad I;have aj:=am ad;clear ad U;have cF:=am I;clear I;have ab:=cF;clear cF;have a5:=ae aj)
 |((with_reducible refine aQ 3 ?_);refine b6 31 ?_;intro gs U eE ad I;have al:=am ad;clear ad U;replace aj:=aV aj I;replace ab:=cf ab I;clear I a5;have a5:=ae aj;have bg:=ae al))
 go_loopw [5] (fun j af=>∃ k:Nat,k<=s.log.length/\j= .int .i64 k/\av (∀ i,i < k->(bF (eh s.log i).task 0 (s.tasks.length - 1) && bF (eh s.log i).bw 0 s.clock && bF (eh s.log i).from_ 0 i && hJ (eh s.log i).reads s.cells.length && hJ (eh s.log i).ai s.cells.length && bF (eh s.log i).act 0 ((bo p.an (aD s.tasks (eh s.log i).task.toNat).body.toNat).length - 1))=true)/\av (af.heap[de]? = some (.cells #[.slice ek p.cells.length ey,.slice g0 p.an.length er] 26 (0,0)))/\av (af.heap[gs]? = some (.cells #[.slice cX s.cells.length bL,.slice dX s.tasks.length cu,.int .i64 s.clock,.slice cU s.log.length bO] 31 (0,0)))/\av (Below w.heap.size w af)) (fun j _=>s.log.length - (intOf j).toNat)
 case atStart=>exact ⟨0,Nat.zero_le _,rfl,⟨fun i aa=>by omega⟩,aj,al,ab⟩
 case round=>
  clear aj al ab a5 bg;obtain ⟨k,J,rfl,du,aj,al,ab⟩:=hrel;have a5:=ae aj;have bg:=ae al;by_cases aJ:k < s.log.length
  ·obtain ⟨be,IX,cs,rfl,bQ,au,aM,-⟩:=dd tx.1 sl k aJ (by decide)
   obtain ⟨e,hex⟩:∃ x,x=eh s.log k:=⟨_,rfl⟩;have lC:=fY.1 k aJ;rw [<-hex] at lC;rw [show s.log.getD k sl=e from hex.symm] at au;obtain ⟨p3,f3,zF,f4,rfl,-,dj,-,Du⟩:=Bz au;have lz:=am dj;have Dt:=am Du;have N4:=am lC.1;have Ai:=am lC.2;have cl:=am aM;have zG:=am hex;have bz:(0:Int)<=(k:Int):=by omega
   have b7:(k:Int) < (s.log.length:Int):=by omega
   clear bQ au aM hex dj Du lC;obtain ⟨um,vd⟩:∃ b,bF e.task 0 ((s.tasks.length:Int) - 1)=b:=⟨_,rfl⟩;have H1:av ((decide ((0:Int)<=e.task) && decide (e.task<=((s.tasks.length:Int) - 1)))=um):=⟨vd⟩;clear vd;obtain ⟨uo,ve⟩:∃ b,bF e.bw 0 s.clock=b:=⟨_,rfl⟩;have bn:av ((decide ((0:Int)<=e.bw) && decide (e.bw<=s.clock))=uo):=⟨ve⟩;clear ve;obtain ⟨Eh,Ff⟩:∃ b,bF e.from_ 0 (k:Int)=b:=⟨_,rfl⟩;have gE:av ((decide ((0:Int)<=e.from_) && decide (e.from_<=(k:Int)))=Eh):=⟨Ff⟩;clear Ff;obtain ⟨UZ,P1⟩:∃ b,hJ e.reads s.cells.length=b:=⟨_,rfl⟩;have nO:=am P1;clear P1;obtain ⟨U0,P2⟩:∃ b,hJ e.ai s.cells.length=b:=⟨_,rfl⟩;have oM:=am P2;clear P2;cases um
   case false=>have cb:av (mU p s=false):=⟨by unfold mU;exact hK aJ (by rw [<-zG.1];simp only [];rw [show bF e.task 0 ((s.tasks.length:Int) - 1)=false from H1.1];simp only [Bool.true_and,Bool.false_and,Bool.and_false])⟩;exact Ei
   cases uo
   case false=>have cb:av (mU p s=false):=⟨by unfold mU;exact hK aJ (by rw [<-zG.1];simp only [];rw [show bF e.task 0 ((s.tasks.length:Int) - 1)=true from H1.1,show bF e.bw 0 s.clock=false from bn.1];simp only [Bool.true_and,Bool.false_and,Bool.and_false])⟩;exact Ei
   cases Eh
   case false=>have cb:av (mU p s=false):=⟨by unfold mU;exact hK aJ (by rw [<-zG.1];simp only [];rw [show bF e.task 0 ((s.tasks.length:Int) - 1)=true from H1.1,show bF e.bw 0 s.clock=true from bn.1,show bF e.from_ 0 (k:Int)=false from gE.1];simp only [Bool.true_and,Bool.false_and,Bool.and_false])⟩;exact Ei
   cases UZ
   case false=>have cb:av (mU p s=false):=⟨by unfold mU;exact hK aJ (by rw [<-zG.1];simp only [];rw [show bF e.task 0 ((s.tasks.length:Int) - 1)=true from H1.1,show bF e.bw 0 s.clock=true from bn.1,show bF e.from_ 0 (k:Int)=true from gE.1,show hJ e.reads s.cells.length=false from nO.1];simp only [Bool.true_and,Bool.false_and,Bool.and_false])⟩;exact Ei
   cases U0
   case false=>have cb:av (mU p s=false):=⟨by unfold mU;exact hK aJ (by rw [<-zG.1];simp only [];rw [show bF e.task 0 ((s.tasks.length:Int) - 1)=true from H1.1,show bF e.bw 0 s.clock=true from bn.1,show bF e.from_ 0 (k:Int)=true from gE.1,show hJ e.reads s.cells.length=true from nO.1,show hJ e.ai s.cells.length=false from oM.1];simp only [Bool.true_and,Bool.false_and,Bool.and_false])⟩;exact Ei
   go_wp2_with (first
   |((with_reducible refine aQ 18 ?_);refine c4 be (IX+k*6) (fun j u hu=>dD ab.1 (cl.1 j u hu)) ?_)|((with_reducible refine aQ 6 ?_);refine hy 105 ?_;intro ge wt Ej JX dF)|((with_reducible refine bT 105 6 ?_);refine dG Ej ?_;intro wn ad U;have tD:=am ad;have bk:=fq dF JX U;clear Ej dF ad U;replace aj:=aV aj bk;replace al:=aV al bk;replace ab:=cf ab bk;clear bk a5 bg;have a5:=ae aj;have bg:=ae al;have Cc:=ae tD)
   |(go_at_call 48;refine (fm _ _ _ _).mono ?_;(first|rw [H1.1] | rw [bn.1] | rw [gE.1]);rintro e b9 ⟨rfl,rfl⟩)
   |(go_at_call 69;refine (MM _ _ _ _ _ (by first|exact Kd.bW lz.1 ab.1 | exact Kd.bW Dt.1 ab.1) (by first|exact N4.1 | exact Ai.1) (by omega) (by omega)).mono ?_;(first|rw [nO.1] | rw [oM.1]);rintro e b9 ⟨rfl,I⟩;replace aj:=aV aj I;replace al:=aV al I;replace tD:=aV tD I;replace ab:=cf ab I;clear I a5 bg Cc;have a5:=ae aj;have bg:=ae al;have Cc:=ae tD))
   have hu:=e0.1 (show bF e.task 0 ((s.tasks.length:Int) - 1)=true from H1.1);obtain ⟨u,Eg⟩:=Int.eq_ofNat_of_zero_le hu.1;have Cb:u < s.tasks.length:=by omega
   have dZ:(0:Int)<=e.task:=hu.1;have jL:e.task < (s.tasks.length:Int):=by omega
   have l4:e.task.toNat=u:=by omega
   obtain ⟨b,o,cs,rfl,bQ,au,aM,-⟩:=dd iM.1 dS u Cb (by decide);obtain ⟨BP,Hd⟩:∃ x,x=(aD s.tasks u).body:=⟨_,rfl⟩;have fA:=ld.1 u Cb;rw [<-Hd] at fA;rw [show s.tasks.getD u dS=aD s.tasks u from rfl] at au;obtain ⟨ac3,ac4,ac5,ac6,ac7,ac8,adQ,adR,rfl,-⟩:=gh au;have oR:=aM 0 _ rfl;simp only [show eV.bD=13 from rfl,Nat.add_zero] at oR;rw [<-Hd] at oR;have vG:=am oR;have N5:=am Hd;clear bQ au aM oR Hd hu Eg;obtain ⟨bl,pL⟩:=Int.eq_ofNat_of_zero_le fA.1;have eu:bl < p.an.length:=by omega
   have v0:(0:Int)<=BP:=fA.1;have v1:BP < (p.an.length:Int):=fA.2;have v4:BP.toNat=bl:=by omega
   obtain ⟨gp,cV,nW,rfl,kt,hX,en,-⟩:=dd nk.1 ([]:List Act) bl eu (by decide);obtain ⟨k5,kf,rfl,kL,-⟩:=hX;have c3:=en 0 _ rfl;simp only [show (Kd.slice 55 kAct).bD=1 from rfl,Nat.mul_one,Nat.add_zero] at c3;rw [show (p.an.getD bl []).length=(bo p.an bl).length from rfl] at c3;have ni:=am c3;obtain ⟨nn,He⟩:∃ x,x=(bo p.an bl).length:=⟨_,rfl⟩;have Ek:nn<=1048576:=by rw [He];exact cK.1 bl eu
   rw [<-He] at ni;have N6:=am He;have ih:wrap64 ((nn:Int) - 1)=(nn:Int) - 1:=by unfold wrap64;omega
   clear kt en c3 kL He fA pL;obtain ⟨N7,P3⟩:∃ b,bF e.act 0 ((nn:Int) - 1)=b:=⟨_,rfl⟩;have kg:av ((decide ((0:Int)<=e.act) && decide (e.act<=(nn:Int) - 1))=N7):=⟨P3⟩;clear P3;refine kO (n:=17) (S:=fun W=>W.heap[de]? = some (.cells #[.slice ek p.cells.length ey,.slice (some ⟨gp,cV,none⟩) p.an.length er] 26 (0,0))/\W.heap[gs]? = some (.cells #[.slice cX s.cells.length bL,.slice (some ⟨b,o,none⟩) s.tasks.length cu,.int .i64 s.clock,.slice (some ⟨be,IX,none⟩) s.log.length bO] 31 (0,0))/\W.heap[ge]? = some (.cells #[.int .i64 e.task,.int .i64 e.act,.int .i64 e.bw,.slice p3 e.reads.length f3,.slice zF e.ai.length f4,.int .i64 e.from_] 105 (0,0))/\W.cell? ⟨b,o+u*13,none⟩=some (.int .i64 BP)/\W.cell? ⟨gp,cV+bl,none⟩=some (.slice k5 nn kf)) (ds:= []) (by kernel_rfl) rfl ⟨gW aj.1,gW al.1,gW tD.1,(show b9.cell? ⟨b,o+u*13,none⟩=_ from dD ab.1 vG.1),(show b9.cell? ⟨gp,cV+bl,none⟩=_ from dD ab.1 ni.1)⟩ (fun aK=> ?_);have I:=ei (Below.refl b9.heap.size b9);generalize b9.drew=fN at I aK ⊢;have iy:=cf ab I;clear I ab aj al tD a5 bg Cc;refine hn 2 15 [0,1,2,3,4,5,6,7,8,9,10,11,12,13,14] aK ?_
   iterate 15 (refine hR rfl (by rintro W ⟨bU,s1,s2,ec,gx⟩;have t0:=bf bU;have t1:=bf s1;have t2:=bf s2;clear bU s1 s2;go_simp;with_reducible rfl) ?_)
   refine bN ?_;refine fs 15 (some 75) (fun K au=> ?_);refine kW Tryz.func48 #[.int .i64 e.act,.int .i64 0,.int .i64 (wrap64 ((nn:Int) - 1))] ?_;refine (fm e.act 0 (wrap64 ((nn:Int) - 1)) _).mono ?_;rw [ih,kg.1];rintro dO wn ⟨rfl,rfl⟩;refine ⟨_,rfl, ?_⟩;refine au.out _ _ aK (fun aK=>e8 ?_);clear au K
   refine hn 0 1 [16] aK ?_
   iterate 1 (refine hR rfl (by rintro W ⟨bU,s1,s2,ec,gx⟩;have t0:=bf bU;have t1:=bf s1;have t2:=bf s2;clear bU s1 s2;go_simp;with_reducible rfl) ?_)
   refine bN ?_;refine xH (by kernel_rfl) ?_;have aj:=am aK.1;have al:=am aK.2.1;have ab:=iy;clear aK iy;have a5:=ae aj;have bg:=ae al;cases N7
   case false=>
    go_wp2;go_ret
    have ao:mU p s=false:=by
     unfold mU;exact hK aJ (by rw [<-zG.1];(try simp only []);rw [show bF e.task 0 ((s.tasks.length:Int) - 1)=true from H1.1,show bF e.bw 0 s.clock=true from bn.1,show bF e.from_ 0 (k:Int)=true from gE.1,show hJ e.reads s.cells.length=true from nO.1,show hJ e.ai s.cells.length=true from oM.1,l4,<-N5.1,v4,<-N6.1,show bF e.act 0 ((nn:Int) - 1)=false from kg.1];simp only [Bool.and_false])
    rw [ao];exact ⟨rfl,ab.1⟩
   case true=>
    go_wp2;go_roundw
    case rel=>exact ⟨k+1,by omega,by go_num,⟨fun i aa=>by rcases Nat.lt_or_ge i k with h | h;exact du.1 i h;obtain rfl:k=i:=(by omega);rw [<-zG.1];(try simp only []);rw [show bF e.task 0 ((s.tasks.length:Int) - 1)=true from H1.1,show bF e.bw 0 s.clock=true from bn.1,show bF e.from_ 0 (k:Int)=true from gE.1,show hJ e.reads s.cells.length=true from nO.1,show hJ e.ai s.cells.length=true from oM.1,l4,<-N5.1,v4,<-N6.1,show bF e.act 0 ((nn:Int) - 1)=true from kg.1];rfl⟩,aj,al,ab⟩
    case measure=>simp [intOf];omega
  ·obtain rfl:k=s.log.length:=by omega
   go_wp2;go_ret
   have ao:mU p s=true:=by
    unfold mU;exact hv.2 du.1
   rw [ao];exact ⟨rfl,ab.1⟩
theorem YY (n ep aU a1 dz:Nat):decide (n<=ep+aU+a1+dz)=decide ((n:Int)<=(ep:Int)+(aU:Int)+(a1:Int)+(dz:Int)):=by
 rw [Bool.eq_iff_iff];simp;omega
theorem XT {ep aU:Nat} (aq:ep<=1048576) (h1:aU<=1048576):wrap64 ((ep:Int)+(aU:Int))=(ep:Int)+(aU:Int):=by unfold wrap64;omega
theorem XU {ep aU a1:Nat} (aq:ep<=1048576) (h1:aU<=1048576) (ar:a1<=1048576):wrap64 ((ep:Int)+(aU:Int)+(a1:Int))=(ep:Int)+(aU:Int)+(a1:Int):=by unfold wrap64;omega
theorem XV {ep aU a1 dz:Nat} (aq:ep<=1048576) (h1:aU<=1048576) (ar:a1<=1048576) (aA:dz<=1048576):wrap64 ((ep:Int)+(aU:Int)+(a1:Int)+(dz:Int))=(ep:Int)+(aU:Int)+(a1:Int)+(dz:Int):=by unfold wrap64;omega
theorem xn {q:Prop} (h:q:=by
  go_wp2;go_ret;rw [bX.1];exact ⟨by simp,M.1.below⟩):q:=h
theorem abE (p:Prog) (bK:List Value) (s:Sys) (c6:List Value) (i:Nat) (w:World) (aB:cN.K w p bK) (hs:cS.K w s c6) (aX:jI p) (aa:i < s.tasks.length) (aS:s.tasks.length<=1048576) (dE:0<=(aD s.tasks i).body) (bZ:(aD s.tasks i).body < p.an.length) (lD:0<=(aD s.tasks i).aR) (nX:(aD s.tasks i).reads.length<=1048576) (je:(aD s.tasks i).ai.length<=1048576):
  Calls Tryz.prog 72 #[.agg bK.toArray,.agg c6.toArray,.int .i64 i] w fun e af=>e= .returned (.bool (we p s i))/\Below w.heap.size w af:=by
 have cR:=am aB;have c8:=am hs;obtain ⟨ek,ey,g0,er,rfl,-,-,-,gb⟩:=jk aB;obtain ⟨cX,bL,dX,cu,cU,bO,rfl,-,-,-,db,-⟩:=gX hs;obtain ⟨b,o,cs,rfl,bQ,au,aM,-⟩:=dd db dS i aa (by decide);obtain ⟨t,a6⟩:∃ x,x=aD s.tasks i:=⟨_,rfl⟩;rw [<-a6] at dE bZ lD nX je;rw [show s.tasks.getD i dS=t from a6.symm] at au;have jf:=am au;obtain ⟨hB,d3,iZ,d8,gY,d9,gd,d10,rfl,-⟩:=gh au;have cl:=am aM;obtain ⟨bl,pL⟩:=Int.eq_ofNat_of_zero_le dE;have eu:bl < p.an.length:=by omega
 have v4:t.body.toNat=bl:=by omega
 obtain ⟨gp,cV,nW,rfl,kt,hX,en,-⟩:=dd gb ([]:List Act) bl eu (by decide);obtain ⟨k5,kf,rfl,kL,jd⟩:=hX;have c3:=en 0 _ rfl;simp only [show (Kd.slice 55 kAct).bD=1 from rfl,Nat.mul_one,Nat.add_zero] at c3;obtain ⟨cq,ho⟩:∃ x,x=bo p.an bl:=⟨_,rfl⟩;rw [show p.an.getD bl []=cq from ho.symm] at c3 jd;have U1:cq.length<=1048576:=by rw [ho,zi eu];exact (aX.cq _ (List.getElem_mem eu)).1
 have k6:=am jd;have Hf:av (we p s i=if t.a7=0 then decide (t.aE=0) || (decide (t.aR < (cq.length:Int)) && decide ((actAt cq t.aR.toNat).kind=1) && ln t (actAt cq t.aR.toNat).bP.length) else if t.a7=1 then decide (t.aR < (cq.length:Int)) && decide ((actAt cq t.aR.toNat).kind=2) && decide ((actAt cq t.aR.toNat).kids.length<=gu s.tasks i 0+gu s.tasks i 1+gu s.tasks i 2+gu s.tasks i 3) else if t.a7=2 then decide (t.aR=(cq.length:Int)) else true):=⟨by rw [ho,<-v4,a6];rfl⟩;obtain ⟨Gy,Gz⟩:∃ b,decide (t.aR < (cq.length:Int))=b:=⟨_,rfl⟩;have GA:=am Gz;have bz:(0:Int)<=(i:Int):=by omega
 have b7:(i:Int) < (s.tasks.length:Int):=by omega
 have M:=am (ba.nil w);have C:=M.1.aw;replace M:=am (M.1.cB c3);clear C;have C:=M.1.aw;simp only [ah] at C;clear aB hs bQ au aM kt en c3 kL jd pL gb db ho a6;go_enter Tryz.func72,Tryz.ntmps72
 go_upto_region 4 with (first
 |((first|with_reducible refine gB ?_ | with_reducible refine gA ?_);refine cx rfl M.1 ?_;clear M C;intro g W M C;simp only [ah] at C)
 |((with_reducible refine cv ?_);refine fZ rfl rfl M.1 cl.1 ?_)
 |((with_reducible refine da ?_);refine dv rfl rfl rfl M.1 ?_;clear M C;intro W M C;simp only [ah] at C)
 |((with_reducible refine cv ?_);refine dV rfl rfl M.1 ?_))
 by_cases aq:t.a7=0
 ·have ed:(t.a7 == 0)=true:=by simp [aq]
  have qe:=am (Hf.1.trans (if_pos aq));clear Hf;obtain ⟨st,cH⟩:∃ b,(t.aE == 0)=b:=⟨_,rfl⟩;have es:decide (t.aE=0)=st:=by rw [<-cH,Bool.eq_iff_iff];simp
  rw [es] at qe;clear es aq;cases st;rotate_left
  ·have bX:=qe
   go_wp2_with fail
   refine gL M.1 ?_;clear M C;intro W M;refine dx [0,1,2,3,4,5,6,7,8,9,10,11,12,13,14,15,16,17,18,19,20,21,22,23,24,25,26] M.1 ?_;iterate 27 (first|refine cc rfl ?_|refine ch rfl ?_|refine cj rfl ?_|refine cE rfl ?_)
   refine bN ?_;refine sF 27 rfl rfl M.1 (hb ?_);refine dx [28,29,30] M.1 ?_;iterate 3 (first|refine cc rfl ?_|refine ch rfl ?_|refine cj rfl ?_|refine cE rfl ?_)
   refine bN ?_;refine f' ?_;have C:=M.1.aw;simp only [ah] at C;exact xn
  rw [GA.1] at qe;cases Gy
  ·have bX:=qe
   go_wp2_with fail
   refine gL M.1 ?_;clear M C;intro W M;refine dx [0,1,2,3,4,5,6,7,8,9,10,11,12,13,14,15,16,17,18,19,20,21,22,23,24,25,26] M.1 ?_;iterate 27 (first|refine cc rfl ?_|refine ch rfl ?_|refine cj rfl ?_|refine cE rfl ?_)
   refine bN ?_;refine sF 27 rfl rfl M.1 (hb ?_);refine dx [28,29,30] M.1 ?_;iterate 3 (first|refine cc rfl ?_|refine ch rfl ?_|refine cj rfl ?_|refine cE rfl ?_)
   refine bN ?_;refine f' ?_;have C:=M.1.aw;simp only [ah] at C;exact xn
  obtain ⟨bx,Cz⟩:=Int.eq_ofNat_of_zero_le lD;have uq:t.aR < (cq.length:Int):=of_decide_eq_true GA.1;have gO:bx < cq.length:=by omega
  have Dv:t.aR.toNat=bx:=by omega
  obtain ⟨iL,ly,yw,rfl,sc,ix,j8,-⟩:=dd k6.1 iK bx gO (by decide);obtain ⟨a,jS⟩:∃ x,x=actAt cq bx:=⟨_,rfl⟩;rw [show cq.getD bx iK=a from jS.symm] at ix;obtain ⟨eR,ez,eF,eJ,rfl,-⟩:=m0 ix;have Aj:=j8 0 _ rfl;have Ak:=j8 1 _ rfl;have Al:=j8 2 _ rfl;simp only [show kAct.bD=4 from rfl,Nat.add_zero] at Aj Ak Al;have p2:av (actAt cq t.aR.toNat=a):=⟨by rw [Dv,jS]⟩;replace M:=am (((M.1.cB Aj).cB Ak).cB Al);clear C;have C:=M.1.aw;simp only [ah] at C;clear sc ix j8 jS Aj Ak Al Cz;rw [p2.1] at qe;obtain ⟨cr,l9⟩:∃ b,(a.kind == 1)=b:=⟨_,rfl⟩;have es:decide (a.kind=1)=cr:=by rw [<-l9,Bool.eq_iff_iff];simp
  rw [es] at qe;clear es;have bX:=qe;cases cr
  ·go_wp2_with fail
   refine gL M.1 ?_;clear M C;intro W M;refine dx [0,1,2,3,4,5,6,7,8,9,10,11,12,13,14,15,16,17,18,19,20,21,22,23,24,25,26] M.1 ?_;iterate 27 (first|refine cc rfl ?_|refine ch rfl ?_|refine cj rfl ?_|refine cE rfl ?_)
   refine bN ?_;refine sF 27 rfl rfl M.1 (hb ?_);refine dx [28,29,30] M.1 ?_;iterate 3 (first|refine cc rfl ?_|refine ch rfl ?_|refine cj rfl ?_|refine cE rfl ?_)
   refine bN ?_;refine f' ?_;have C:=M.1.aw;simp only [ah] at C;exact xn
  ·go_wp2_with fail
   refine gL M.1 ?_;clear M C;intro W M;refine dx [0,1,2,3,4,5,6,7,8,9,10,11,12,13,14,15,16,17,18,19,20,21,22,23,24,25,26] M.1 ?_;iterate 19 (first|refine cc rfl ?_|refine ch rfl ?_|refine cj rfl ?_|refine cE rfl ?_)
   refine UW rfl rfl ?_;iterate 7 (first|refine cc rfl ?_|refine ch rfl ?_|refine cj rfl ?_|refine cE rfl ?_)
   refine bN ?_;refine jn 27 rfl ?_;refine hd M.1 (abg t _ _ _ (eV.bH M.1.below jf.1) nX je) rfl ?_;intro W M C;refine ⟨_,rfl,M,hb ?_⟩;refine dx [28,29,30] M.1 ?_;iterate 3 (first|refine cc rfl ?_|refine ch rfl ?_|refine cj rfl ?_|refine cE rfl ?_)
   refine bN ?_;refine f' ?_;clear C;have C:=M.1.aw;simp only [ah] at C;exact xn
 have ed:(t.a7 == 0)=false:=by simpa using aq
 have qe:=am (Hf.1.trans (if_neg aq));clear Hf aq;by_cases h1:t.a7=1
 ·have cg:(t.a7 == 1)=true:=by simp [h1]
  have q':=am (qe.1.trans (if_pos h1));clear qe h1;obtain ⟨ep,nv⟩:∃ x,x=gu s.tasks i 0:=⟨_,rfl⟩;have Hg:ep<=1048576:=by rw [nv];exact Nat.le_trans (xX _ _) aS
  rw [<-nv] at q';have Tq:=am nv.symm;clear nv;obtain ⟨aU,ml⟩:∃ x,x=gu s.tasks i 1:=⟨_,rfl⟩;have Hh:aU<=1048576:=by rw [ml];exact Nat.le_trans (xX _ _) aS
  rw [<-ml] at q';have ik:=am ml.symm;clear ml;obtain ⟨a1,iI⟩:∃ x,x=gu s.tasks i 2:=⟨_,rfl⟩;have Ec:a1<=1048576:=by rw [iI];exact Nat.le_trans (xX _ _) aS
  rw [<-iI] at q';have kh:=am iI.symm;clear iI;obtain ⟨dz,z6⟩:∃ x,x=gu s.tasks i 3:=⟨_,rfl⟩;have N8:dz<=1048576:=by rw [z6];exact Nat.le_trans (xX _ _) aS
  rw [<-z6] at q';have nQ:=am z6.symm;clear z6;have gq:=XT Hg Hh;have jm:=XU Hg Hh Ec;have z3:=XV Hg Hh Ec N8;clear Hg Hh Ec N8;rw [GA.1,YY] at q'
  go_upto_region 9 with (first
  |(go_at_call 86;refine (Gj (i:Int) _ _ (⟨M.1.eU.at_ .here,(cN.bH M.1.below cR.1),(cS.bH M.1.below c8.1)⟩:vA _ _ _ p s _ _ _ _) aS).mono ?_;(first|rw [Tq.1] | rw [ik.1] | rw [kh.1] | rw [nQ.1]);rintro e b9 ⟨rfl,rfl⟩))
  cases Gy
  ·have bX:=q'
   exact xn
  obtain ⟨bx,Cz⟩:=Int.eq_ofNat_of_zero_le lD;have uq:t.aR < (cq.length:Int):=of_decide_eq_true GA.1;have gO:bx < cq.length:=by omega
  have Dv:t.aR.toNat=bx:=by omega
  obtain ⟨iL,ly,yw,rfl,sc,ix,j8,-⟩:=dd k6.1 iK bx gO (by decide);obtain ⟨a,jS⟩:∃ x,x=actAt cq bx:=⟨_,rfl⟩;rw [show cq.getD bx iK=a from jS.symm] at ix;obtain ⟨eR,ez,eF,eJ,rfl,-⟩:=m0 ix;have Aj:=j8 0 _ rfl;have Ak:=j8 1 _ rfl;have Al:=j8 2 _ rfl;simp only [show kAct.bD=4 from rfl,Nat.add_zero] at Aj Ak Al;have p2:av (actAt cq t.aR.toNat=a):=⟨by rw [Dv,jS]⟩;replace M:=am (((M.1.cB Aj).cB Ak).cB Al);clear C;have C:=M.1.aw;simp only [ah] at C;clear sc ix j8 jS Aj Ak Al Cz;rw [p2.1] at q';obtain ⟨cr,l9⟩:∃ b,(a.kind == 2)=b:=⟨_,rfl⟩;have es:decide (a.kind=2)=cr:=by rw [<-l9,Bool.eq_iff_iff];simp
  rw [es] at q';clear es;have bX:=q';cases cr;exact xn;exact xn
 have cg:(t.a7 == 1)=false:=by simpa using h1
 have q':=am (qe.1.trans (if_neg h1));clear qe h1;by_cases ar:t.a7=2
 ·have cO:(t.a7 == 2)=true:=by simp [ar]
  have N9:=am (q'.1.trans (if_pos ar));have bX:av (we p s i=(t.aR == (cq.length:Int))):=⟨by rw [N9.1,Bool.eq_iff_iff];simp⟩;clear q' N9 ar;exact xn
 have cO:(t.a7 == 2)=false:=by simpa using ar
 have bX:=am (q'.1.trans (if_neg ar));clear q' ar;exact xn
theorem Fg {q:Prop} (h:q:=by
  go_wp2;go_ret;rw [bX.1];exact ⟨by simp,M.1.below⟩):q:=h
theorem pH {q:Prop} (h:q:=by
  go_wp2_with (first
  |((with_reducible refine cv ?_);refine dV rfl rfl M.1 ?_)
  |(go_at_call 68;refine hQ (abC _ _ _ 3 _ (by first|exact Kd.bW lz.1 M.1.below | exact Kd.bW IY.1 M.1.below) (by first|exact vU.1.1 | exact vU.1.2.1)) (by first|exact sB.1 | exact Tr.1) ?_)
  |(go_at_call 69;refine hd M.1 (MM _ _ _ _ _ (by first|exact Kd.bW rE.1 M.1.below | exact Kd.bW Am.1 M.1.below) (by first|exact vU.1.2.2.1 | exact vU.1.2.2.2) (by omega) (by omega)) (by first|exact zz.1 | exact JY.1) ?_;clear M C;intro W M C;simp only [ah] at C)
  |(go_at_call 70;refine hd M.1 (ab2 t s _ _ _ (eV.bH M.1.below jf.1) (cS.bH M.1.below c8.1) iu qa ak) Ts.1 ?_;clear M C;intro W M C;simp only [ah] at C)
  |(go_at_call 71;refine hd M.1 (abh s _ i _ (cS.bH M.1.below c8.1) aa aS) Tt.1 ?_;clear M C;intro W M C;simp only [ah] at C)
  |(go_at_call 72;refine hd M.1 (abE p _ s _ i _ (cN.bH M.1.below cR.1) (cS.bH M.1.below c8.1) ea.1 aa aS (by rw [<-wT.1];exact dE) (by rw [<-wT.1];exact bZ) (by rw [<-wT.1];exact lD) (by rw [<-wT.1];exact vU.1.2.2.1) (by rw [<-wT.1];exact vU.1.2.2.2)) AC.1 ?_;clear M C;intro W M C;simp only [ah] at C))
  go_ret;rw [bX.1];exact ⟨by simp,M.1.below⟩):q:=h
theorem SZ (p:Prog) (bK:List Value) (s:Sys) (c6:List Value) (i:Nat) (w:World) (aB:cN.K w p bK) (hs:cS.K w s c6) (aX:jI p) (aa:i < s.tasks.length) (aS:s.tasks.length<=1048576) (hm:s.cells.length<=1048576) (ak:s.log.length<=1048576) (iu:0<=s.clock) (qa:s.clock<=200) (cP:(aD s.tasks i).aL.length<=1048576/\(aD s.tasks i).bE.length<=1048576/\(aD s.tasks i).reads.length<=1048576/\(aD s.tasks i).ai.length<=1048576):
  Calls Tryz.prog 49 #[.agg bK.toArray,.agg c6.toArray,.int .i64 i] w fun e af=>e= .returned (.bool (qu p s i))/\Below w.heap.size w af:=by
 have cR:=am aB;have c8:=am hs;have ea:=am aX;obtain ⟨ek,ey,g0,er,rfl,-,-,-,gb⟩:=jk aB;obtain ⟨cX,bL,dX,cu,cU,bO,rfl,-,-,-,db,-⟩:=gX hs;have nk:=am gb;obtain ⟨b,o,cs,rfl,bQ,au,aM,-⟩:=dd db dS i aa (by decide);obtain ⟨t,a6⟩:∃ x,x=aD s.tasks i:=⟨_,rfl⟩;rw [<-a6] at cP;rw [show s.tasks.getD i dS=t from a6.symm] at au;have jf:=am au;obtain ⟨hB,d3,iZ,d8,gY,d9,gd,d10,rfl,-,dj,-,fy,-,hh,-,fi⟩:=gh au;have cl:=am aM;have lz:=am dj;have IY:=am fy;have rE:=am hh;have Am:=am fi;have vU:=am cP;have wT:=am a6;obtain ⟨ej,cg⟩:∃ b,bF t.body 0 ((p.an.length:Int) - 1)=b:=⟨_,rfl⟩;obtain ⟨b2,cO⟩:∃ b,bF t.aR 0 ((bo p.an t.body.toNat).length)=b:=⟨_,rfl⟩;obtain ⟨b3,dh⟩:∃ b,bF t.a7 0 4=b:=⟨_,rfl⟩;obtain ⟨b4,fu⟩:∃ b,bF t.aE 0 5=b:=⟨_,rfl⟩;obtain ⟨wU,Dw⟩:∃ b,(t.a7 != 0)=b:=⟨_,rfl⟩;obtain ⟨st,cH⟩:∃ b,(t.aE != 0)=b:=⟨_,rfl⟩;obtain ⟨iF,z3⟩:∃ b,my t.aL 3=b:=⟨_,rfl⟩;obtain ⟨zH,Dx⟩:∃ b,my t.bE 3=b:=⟨_,rfl⟩;obtain ⟨h0,z9⟩:∃ b,hJ t.reads s.cells.length=b:=⟨_,rfl⟩;obtain ⟨ko,JZ⟩:∃ b,hJ t.ai s.cells.length=b:=⟨_,rfl⟩;obtain ⟨hE,zI⟩:∃ b,(t.at_ == 0)=b:=⟨_,rfl⟩;obtain ⟨di,Tu⟩:∃ b,((t.reads.length:Int)+(t.ai.length:Int) == 0)=b:=⟨_,rfl⟩;obtain ⟨IZ,I0⟩:∃ b,oc t s=b:=⟨_,rfl⟩;obtain ⟨up,I1⟩:∃ b,ka s i=b:=⟨_,rfl⟩;obtain ⟨ac,sG⟩:∃ b,we p s i=b:=⟨_,rfl⟩
 have bX:av (qu p s i=(ej && b2 && b3 && b4 && (!wU || !st) && iF && zH && h0 && ko && (st || (hE && di)) && IZ && up && ac)):=⟨by
  have b1:decide (t.a7=0)= !wU:=by rw [<-Dw,Bool.eq_iff_iff];simp
  have eg:decide (t.aE=0)= !st:=by rw [<-cH,Bool.eq_iff_iff];simp
  have eL:decide (t.at_=0)=hE:=by rw [<-zI,Bool.eq_iff_iff];simp
  have oN:decide (t.reads.length+t.ai.length=0)=di:=by rw [<-Tu,Bool.eq_iff_iff,decide_eq_true_eq,beq_iff_eq];omega
  unfold qu;simp only [<-a6];rw [cg,cO,dh,fu,b1,eg,eL,oN,z3,Dx,z9,JZ,I0,I1,sG,Bool.not_not]⟩
 have ih:wrap64 ((p.an.length:Int) - 1)=(p.an.length:Int) - 1:=by have:=aX.an;unfold wrap64;omega
 have acp:wrap64 ((t.reads.length:Int)+(t.ai.length:Int))=(t.reads.length:Int)+(t.ai.length:Int):=by unfold wrap64;omega
 have gM:=am cg;have jA:=am cO;have kz:=am dh;have rK:=am fu;have sB:=am z3;have Tr:=am Dx;have zz:=am z9;have JY:=am JZ;have Ts:=am I0;have Tt:=am I1;have AC:=am sG;have N':av ((decide (0<=t.body) && decide (t.body<=wrap64 ((p.an.length:Int) - 1)))=ej):=⟨by rw [ih];exact cg⟩;have bz:(0:Int)<=(i:Int):=by omega
 have b7:(i:Int) < (s.tasks.length:Int):=by omega
 have M:=am (ba.nil w);have C:=M.1.aw;clear aB hs aX gb db bQ au aM dj fy hh fi cP a6 cg cO dh fu z3 Dx z9 JZ I0 I1 sG;go_enter Tryz.func49,Tryz.ntmps49
 go_upto_region 2 with (first
 |((first|with_reducible refine gB ?_ | with_reducible refine gA ?_);refine cx rfl M.1 ?_;clear M C;intro g W M C;simp only [ah] at C)
 |((with_reducible refine cv ?_);refine fZ rfl rfl M.1 cl.1 ?_)
 |((with_reducible refine da ?_);refine dv rfl rfl rfl M.1 ?_;clear M C;intro W M C;simp only [ah] at C))
 cases ej
 case false=>
  refine gL M.1 ?_;clear M C;intro W M;refine dx [0,1,2,3,4,5] M.1 ?_;iterate 6 (first|refine cc rfl ?_|refine ch rfl ?_|refine cj rfl ?_|refine cE rfl ?_)
  refine bN ?_;refine jn 6 rfl ?_;refine hQ (fm _ _ _ _) N'.1 ?_;refine ⟨_,rfl,M,hb ?_⟩;refine dx [7,8,9,10,11,12,13,14,15,16,17] M.1 ?_;iterate 11 (first|refine cc rfl ?_|refine ch rfl ?_|refine cj rfl ?_|refine cE rfl ?_)
  refine bN ?_;refine sF 18 rfl rfl M.1 (hb ?_);refine dx [19,20,21,22,23] M.1 ?_;iterate 5 (first|refine cc rfl ?_|refine ch rfl ?_|refine cj rfl ?_|refine cE rfl ?_)
  refine bN ?_;refine sF 24 rfl rfl M.1 (hb ?_);refine dx [25,26,27,28,29] M.1 ?_;iterate 5 (first|refine cc rfl ?_|refine ch rfl ?_|refine cj rfl ?_|refine cE rfl ?_)
  refine bN ?_;refine sF 30 rfl rfl M.1 (hb ?_);refine dx [31,32] M.1 ?_;iterate 2 (first|refine cc rfl ?_|refine ch rfl ?_|refine cj rfl ?_|refine cE rfl ?_)
  refine bN ?_;refine f' ?_;have C:=M.1.aw;simp only [ah] at C;exact Fg
 have fA:=e0.1 gM.1;have dE:0<=t.body:=fA.1;have bZ:t.body < p.an.length:=by omega
 clear fA;obtain ⟨bl,pL⟩:=Int.eq_ofNat_of_zero_le dE;have eu:bl < p.an.length:=by omega
 have v4:t.body.toNat=bl:=by omega
 obtain ⟨gp,cV,nW,rfl,kt,hX,en,-⟩:=dd nk.1 ([]:List Act) bl eu (by decide);obtain ⟨k5,kf,rfl,kL,-⟩:=hX;have c3:=en 0 _ rfl;simp only [show (Kd.slice 55 kAct).bD=1 from rfl,Nat.mul_one,Nat.add_zero] at c3;rw [show (p.an.getD bl []).length=(bo p.an bl).length from rfl] at c3;rw [v4] at jA;have Ek:(bo p.an bl).length<=1048576:=by rw [zi eu];exact (ea.1.cq _ (List.getElem_mem eu)).1
 generalize (bo p.an bl).length=nn at c3 jA Ek;replace M:=am (M.1.cB c3);clear C;have C:=M.1.aw;simp only [ah] at C;clear kt en c3 kL pL;refine gL M.1 ?_;clear M C;intro W M;refine dx [0,1,2,3,4,5] M.1 ?_;iterate 6 (first|refine cc rfl ?_|refine ch rfl ?_|refine cj rfl ?_|refine cE rfl ?_)
 refine bN ?_;refine jn 6 rfl ?_;refine hQ (fm _ _ _ _) N'.1 ?_;refine ⟨_,rfl,M,hb ?_⟩;refine dx [7,8,9,10,11,12,13,14,15,16,17] M.1 ?_;iterate 11 (first|refine cc rfl ?_|refine ch rfl ?_|refine cj rfl ?_|refine cE rfl ?_)
 refine bN ?_;refine jn 18 rfl ?_;refine hQ (fm _ _ _ _) jA.1 ?_;refine ⟨_,rfl,M,hb ?_⟩;cases b2
 case false=>
  refine dx [19,20,21,22,23] M.1 ?_;iterate 5 (first|refine cc rfl ?_|refine ch rfl ?_|refine cj rfl ?_|refine cE rfl ?_)
  refine bN ?_;refine sF 24 rfl rfl M.1 (hb ?_);refine dx [25,26,27,28,29] M.1 ?_;iterate 5 (first|refine cc rfl ?_|refine ch rfl ?_|refine cj rfl ?_|refine cE rfl ?_)
  refine bN ?_;refine sF 30 rfl rfl M.1 (hb ?_);refine dx [31,32] M.1 ?_;iterate 2 (first|refine cc rfl ?_|refine ch rfl ?_|refine cj rfl ?_|refine cE rfl ?_)
  refine bN ?_;refine f' ?_;have C:=M.1.aw;simp only [ah] at C;exact Fg
 have lD:0<=t.aR:=(e0.1 jA.1).1;refine dx [19,20,21,22,23] M.1 ?_;iterate 5 (first|refine cc rfl ?_|refine ch rfl ?_|refine cj rfl ?_|refine cE rfl ?_)
 refine bN ?_;refine jn 24 rfl ?_;refine hQ (fm _ _ _ _) kz.1 ?_;refine ⟨_,rfl,M,hb ?_⟩;cases b3
 case false=>
  refine dx [25,26,27,28,29] M.1 ?_;iterate 5 (first|refine cc rfl ?_|refine ch rfl ?_|refine cj rfl ?_|refine cE rfl ?_)
  refine bN ?_;refine sF 30 rfl rfl M.1 (hb ?_);refine dx [31,32] M.1 ?_;iterate 2 (first|refine cc rfl ?_|refine ch rfl ?_|refine cj rfl ?_|refine cE rfl ?_)
  refine bN ?_;refine f' ?_;have C:=M.1.aw;simp only [ah] at C;exact Fg
 refine dx [25,26,27,28,29] M.1 ?_;iterate 5 (first|refine cc rfl ?_|refine ch rfl ?_|refine cj rfl ?_|refine cE rfl ?_)
 refine bN ?_;refine jn 30 rfl ?_;refine hQ (fm _ _ _ _) rK.1 ?_;refine ⟨_,rfl,M,hb ?_⟩;cases b4
 case false=>
  refine dx [31,32] M.1 ?_;iterate 2 (first|refine cc rfl ?_|refine ch rfl ?_|refine cj rfl ?_|refine cE rfl ?_)
  refine bN ?_;refine f' ?_;have C:=M.1.aw;simp only [ah] at C;exact Fg
 refine dx [31,32] M.1 ?_;iterate 2 (first|refine cc rfl ?_|refine ch rfl ?_|refine cj rfl ?_|refine cE rfl ?_)
 refine bN ?_;refine f' ?_;have C:=M.1.aw;simp only [ah] at C;go_upto_region 4 with fail;cases st
 case false=>
  cases wU
  all_goals
   cases iF
   case false=>exact pH
   cases zH
   case false=>exact pH
   cases h0
   case false=>exact pH
   cases ko
   case false=>exact pH
   cases hE
   case false=>exact pH
   cases di
   case false=>exact pH
   cases IZ
   case false=>exact pH
   cases up
   case false=>exact pH
   exact pH
 cases wU
 case true=>exact Fg
 cases iF
 case false=>exact pH
 cases zH
 case false=>exact pH
 cases h0
 case false=>exact pH
 cases ko
 case false=>exact pH
 cases IZ
 case false=>exact pH
 cases up
 case false=>exact pH
 exact pH
structure oC (s:Sys):Prop where
 cells:s.cells.length<=1048576
 tasks:s.tasks.length<=1048576
 log:s.log.length<=1048576
 task:∀ i,i < s.tasks.length->(aD s.tasks i).aL.length<=1048576/\(aD s.tasks i).bE.length<=1048576/\(aD s.tasks i).reads.length<=1048576/\(aD s.tasks i).ai.length<=1048576
 kX:∀ i,i < s.log.length->(eh s.log i).reads.length<=1048576/\(eh s.log i).ai.length<=1048576
theorem zl (p:Prog) (bK:List Value) (s:Sys) (c6:List Value) (w:World) (aB:cN.K w p bK) (hs:cS.K w s c6) (aX:jI p) (cP:oC s):
  Calls Tryz.prog 25 #[.agg bK.toArray,.agg c6.toArray] w fun e af=>e= .returned (.bool (jh p s))/\Below w.heap.size w af:=by
 have cR:=am aB;have c8:=am hs;have ea:=am aX;have cK:=am cP;obtain ⟨ek,ey,g0,er,rfl,-⟩:=jk aB;obtain ⟨cX,bL,dX,cu,cU,bO,rfl,-⟩:=gX hs;have bX:av (jh p s=(k2 p && decide (s.cells.length=p.cells.length) && bF s.tasks.length 1 7 && bF s.clock 0 200 && hH s.tasks.length (qu p s) && nI s && mU p s)):=⟨rfl⟩;have aS:=cP.tasks;have hm:=cP.cells;have ak:=cP.log;have mh:=aX.cells;clear aB hs aX cP;obtain ⟨um,vd⟩:∃ b,bF (s.tasks.length:Int) 1 7=b:=⟨_,rfl⟩;have H1:av ((decide ((1:Int)<=(s.tasks.length:Int)) && decide ((s.tasks.length:Int)<=7))=um):=⟨vd⟩;clear vd;obtain ⟨uo,ve⟩:∃ b,bF s.clock 0 200=b:=⟨_,rfl⟩;have bn:av ((decide ((0:Int)<=s.clock) && decide (s.clock<=200))=uo):=⟨ve⟩;clear ve;obtain ⟨El,Fh⟩:∃ x,k2 p=x:=⟨_,rfl⟩;have p4:=am Fh;clear Fh;obtain ⟨U2,P4⟩:∃ x,nI s=x:=⟨_,rfl⟩;have GB:=am P4;clear P4;obtain ⟨U3,P5⟩:∃ x,mU p s=x:=⟨_,rfl⟩;have M1:=am P5;clear P5;go_enter Tryz.func25,Tryz.ntmps25
 cases El with
 | false=>
  go_wp2_with (first
  |((with_reducible refine aQ 2 ?_);refine b6 26 ?_;intro de U b' ad I;have aj:=am ad;clear ad U;have cF:=am I;clear I;have ab:=cF;clear cF;have a5:=ae aj)
  |((with_reducible refine aQ 3 ?_);refine b6 31 ?_;intro gs U eE ad I;have al:=am ad;clear ad U;replace aj:=aV aj I;replace ab:=cf ab I;clear I a5;have a5:=ae aj;have bg:=ae al)
  |((with_reducible refine aQ 6 ?_);refine c4 de 0 (fR aj.1) ?_)
  |(go_at_call 47;refine (sv p _ _ (cN.bH ab.1 cR.1) ea.1).mono ?_;rw [p4.1];rintro e b9 ⟨rfl,I⟩;replace aj:=aV aj I;replace al:=aV al I;replace ab:=cf ab I;clear I a5 bg;have a5:=ae aj;have bg:=ae al))
  go_ret
  have ao:jh p s=false:=by
   rw [bX.1,p4.1];simp only [Bool.true_and,Bool.false_and,Bool.and_false,Bool.and_true,Bool.and_self]
  rw [ao]
  exact ⟨rfl,ab.1⟩
 | true=>
  by_cases Hi:s.cells.length=p.cells.length
  ·have U4:((s.cells.length:Int) != (p.cells.length:Int))=false:=by simp;omega
   have tE:=am (decide_eq_true Hi);clear Hi
   cases um with
   | false=>
    go_wp2_with (first
    |((with_reducible refine aQ 2 ?_);refine b6 26 ?_;intro de U b' ad I;have aj:=am ad;clear ad U;have cF:=am I;clear I;have ab:=cF;clear cF;have a5:=ae aj)
    |((with_reducible refine aQ 3 ?_);refine b6 31 ?_;intro gs U eE ad I;have al:=am ad;clear ad U;replace aj:=aV aj I;replace ab:=cf ab I;clear I a5;have a5:=ae aj;have bg:=ae al)
    |((with_reducible refine aQ 6 ?_);refine c4 de 0 (fR aj.1) ?_)
    |(go_at_call 47;refine (sv p _ _ (cN.bH ab.1 cR.1) ea.1).mono ?_;rw [p4.1];rintro e b9 ⟨rfl,I⟩;replace aj:=aV aj I;replace al:=aV al I;replace ab:=cf ab I;clear I a5 bg;have a5:=ae aj;have bg:=ae al)
    |(go_at_call 48;refine (fm _ _ _ _).mono ?_;(first|rw [H1.1]);rintro e b9 ⟨rfl,rfl⟩))
    go_ret
    have ao:jh p s=false:=by
     rw [bX.1,p4.1,tE.1,show bF (s.tasks.length:Int) 1 7=false from H1.1];simp only [Bool.true_and,Bool.false_and,Bool.and_false,Bool.and_true,Bool.and_self]
    rw [ao]
    exact ⟨rfl,ab.1⟩
   | true=>
    cases uo with
    | false=>
     go_wp2_with (first
     |((with_reducible refine aQ 2 ?_);refine b6 26 ?_;intro de U b' ad I;have aj:=am ad;clear ad U;have cF:=am I;clear I;have ab:=cF;clear cF;have a5:=ae aj)
     |((with_reducible refine aQ 3 ?_);refine b6 31 ?_;intro gs U eE ad I;have al:=am ad;clear ad U;replace aj:=aV aj I;replace ab:=cf ab I;clear I a5;have a5:=ae aj;have bg:=ae al)
     |((with_reducible refine aQ 6 ?_);refine c4 de 0 (fR aj.1) ?_)
     |(go_at_call 47;refine (sv p _ _ (cN.bH ab.1 cR.1) ea.1).mono ?_;rw [p4.1];rintro e b9 ⟨rfl,I⟩;replace aj:=aV aj I;replace al:=aV al I;replace ab:=cf ab I;clear I a5 bg;have a5:=ae aj;have bg:=ae al)
     |(go_at_call 48;refine (fm _ _ _ _).mono ?_;(first|rw [H1.1] | rw [bn.1]);rintro e b9 ⟨rfl,rfl⟩))
     go_ret
     have ao:jh p s=false:=by
      rw [bX.1,p4.1,tE.1,show bF (s.tasks.length:Int) 1 7=true from H1.1,show bF s.clock 0 200=false from bn.1];simp only [Bool.true_and,Bool.false_and,Bool.and_false,Bool.and_true,Bool.and_self]
     rw [ao]
     exact ⟨rfl,ab.1⟩
    | true=>
     have nv:=(e0.1 (show bF s.clock 0 200=true from bn.1)).1;have ml:=(e0.1 (show bF s.clock 0 200=true from bn.1)).2
     go_wp2_with (first
     |((with_reducible refine aQ 2 ?_);refine b6 26 ?_;intro de U b' ad I;have aj:=am ad;clear ad U;have cF:=am I;clear I;have ab:=cF;clear cF;have a5:=ae aj)
     |((with_reducible refine aQ 3 ?_);refine b6 31 ?_;intro gs U eE ad I;have al:=am ad;clear ad U;replace aj:=aV aj I;replace ab:=cf ab I;clear I a5;have a5:=ae aj;have bg:=ae al)
     |((with_reducible refine aQ 6 ?_);refine c4 de 0 (fR aj.1) ?_)
     |(go_at_call 47;refine (sv p _ _ (cN.bH ab.1 cR.1) ea.1).mono ?_;rw [p4.1];rintro e b9 ⟨rfl,I⟩;replace aj:=aV aj I;replace al:=aV al I;replace ab:=cf ab I;clear I a5 bg;have a5:=ae aj;have bg:=ae al)
     |(go_at_call 48;refine (fm _ _ _ _).mono ?_;(first|rw [H1.1] | rw [bn.1]);rintro e b9 ⟨rfl,rfl⟩))
     go_loopw [5] (fun j af=>∃ k:Nat,k<=s.tasks.length/\j= .int .i64 k/\av (∀ i,i < k->qu p s i=true)/\av (af.heap[de]? = some (.cells #[.slice ek p.cells.length ey,.slice g0 p.an.length er] 26 (0,0)))/\av (af.heap[gs]? = some (.cells #[.slice cX s.cells.length bL,.slice dX s.tasks.length cu,.int .i64 s.clock,.slice cU s.log.length bO] 31 (0,0)))/\av (Below w.heap.size w af)) (fun j _=>s.tasks.length - (intOf j).toNat)
     case atStart=>exact ⟨0,Nat.zero_le _,rfl,⟨fun i aa=>by omega⟩,aj,al,ab⟩
     case round=>
      clear aj al ab a5 bg;obtain ⟨k,J,rfl,du,aj,al,ab⟩:=hrel;have a5:=ae aj;have bg:=ae al;by_cases aJ:k < s.tasks.length
      ·obtain ⟨U5,P6⟩:∃ x,qu p s k=x:=⟨_,rfl⟩
       have GC:=am P6;clear P6;have b7:(k:Int) < (s.tasks.length:Int):=by omega
       cases U5 with
       | false=>
        go_wp2_with (first
        |((with_reducible refine aQ 38 ?_);refine c4 de 0 (fR aj.1) ?_)
        |((with_reducible refine aQ 39 ?_);refine c4 gs 0 (fR al.1) ?_)
        |(go_at_call 49;refine (SZ p _ s _ k _ (cN.bH ab.1 cR.1) (cS.bH ab.1 c8.1) ea.1 aJ cK.1.tasks cK.1.cells cK.1.log nv ml (cK.1.task k aJ)).mono ?_;rw [GC.1];rintro e b9 ⟨rfl,I⟩;replace aj:=aV aj I;replace al:=aV al I;replace ab:=cf ab I;clear I a5 bg;have a5:=ae aj;have bg:=ae al))
        go_ret
        have ao:jh p s=false:=by
         rw [bX.1,p4.1,tE.1,show bF (s.tasks.length:Int) 1 7=true from H1.1,show bF s.clock 0 200=true from bn.1,hK aJ GC.1];simp only [Bool.true_and,Bool.false_and,Bool.and_false,Bool.and_true,Bool.and_self]
        rw [ao]
        exact ⟨rfl,ab.1⟩
       | true=>
        go_wp2_with (first
        |((with_reducible refine aQ 38 ?_);refine c4 de 0 (fR aj.1) ?_)
        |((with_reducible refine aQ 39 ?_);refine c4 gs 0 (fR al.1) ?_)
        |(go_at_call 49;refine (SZ p _ s _ k _ (cN.bH ab.1 cR.1) (cS.bH ab.1 c8.1) ea.1 aJ cK.1.tasks cK.1.cells cK.1.log nv ml (cK.1.task k aJ)).mono ?_;rw [GC.1];rintro e b9 ⟨rfl,I⟩;replace aj:=aV aj I;replace al:=aV al I;replace ab:=cf ab I;clear I a5 bg;have a5:=ae aj;have bg:=ae al))
        go_roundw
        case rel=>exact ⟨k+1,by omega,by go_num,⟨fun i aa=>by rcases Nat.lt_or_ge i k with h | h;exact du.1 i h;obtain rfl:k=i:=(by omega);exact GC.1⟩,aj,al,ab⟩
        case measure=>simp [intOf];omega
      ·obtain rfl:k=s.tasks.length:=by omega
       have M3:=am (hv.2 du.1);have ld:av (∀ i,i < s.tasks.length->0<=(aD s.tasks i).body/\(aD s.tasks i).body < p.an.length):=⟨fun i aa=>by have h:=du.1 i aa;simp only [qu,Bool.and_eq_true,e0] at h;omega⟩;have b7:¬ (s.tasks.length:Int) < (s.tasks.length:Int):=by omega
       cases U2 with
       | false=>
        go_wp2_with (first
        |((with_reducible refine aQ 43 ?_);refine c4 gs 0 (fR al.1) ?_)
        |((with_reducible refine aQ 46 ?_);refine c4 de 0 (fR aj.1) ?_)
        |((with_reducible refine aQ 47 ?_);refine c4 gs 0 (fR al.1) ?_)
        |(go_at_call 50;refine (S8 s _ _ (cS.bH ab.1 c8.1) cK.1.cells cK.1.tasks (fun i aa=>(cK.1.task i aa).2.2.2)).mono ?_;rw [GB.1];rintro e b9 ⟨rfl,I⟩;replace aj:=aV aj I;replace al:=aV al I;replace ab:=cf ab I;clear I a5 bg;have a5:=ae aj;have bg:=ae al))
        go_ret
        have ao:jh p s=false:=by
         rw [bX.1,p4.1,tE.1,show bF (s.tasks.length:Int) 1 7=true from H1.1,show bF s.clock 0 200=true from bn.1,M3.1,GB.1];simp only [Bool.true_and,Bool.false_and,Bool.and_false,Bool.and_true,Bool.and_self]
        rw [ao]
        exact ⟨rfl,ab.1⟩
       | true=>
        go_wp2_with (first
        |((with_reducible refine aQ 43 ?_);refine c4 gs 0 (fR al.1) ?_)
        |((with_reducible refine aQ 46 ?_);refine c4 de 0 (fR aj.1) ?_)
        |((with_reducible refine aQ 47 ?_);refine c4 gs 0 (fR al.1) ?_)
        |(go_at_call 50;refine (S8 s _ _ (cS.bH ab.1 c8.1) cK.1.cells cK.1.tasks (fun i aa=>(cK.1.task i aa).2.2.2)).mono ?_;rw [GB.1];rintro e b9 ⟨rfl,I⟩;replace aj:=aV aj I;replace al:=aV al I;replace ab:=cf ab I;clear I a5 bg;have a5:=ae aj;have bg:=ae al)
        |(go_at_call 51;refine (abD p _ s _ _ (cN.bH ab.1 cR.1) (cS.bH ab.1 c8.1) ea.1 cK.1.cells cK.1.tasks cK.1.log cK.1.kX ld.1).mono ?_;rw [M1.1];rintro e b9 ⟨rfl,I⟩;replace aj:=aV aj I;replace al:=aV al I;replace ab:=cf ab I;clear I a5 bg;have a5:=ae aj;have bg:=ae al))
        go_ret
        have ao:jh p s=U3:=by
         rw [bX.1,p4.1,tE.1,show bF (s.tasks.length:Int) 1 7=true from H1.1,show bF s.clock 0 200=true from bn.1,M3.1,GB.1,M1.1];simp only [Bool.true_and,Bool.false_and,Bool.and_false,Bool.and_true,Bool.and_self]
        rw [ao];exact ⟨rfl,ab.1⟩
  ·have U4:((s.cells.length:Int) != (p.cells.length:Int))=true:=by simp;omega
   have tE:=am (decide_eq_false Hi);clear Hi
   go_wp2_with (first
   |((with_reducible refine aQ 2 ?_);refine b6 26 ?_;intro de U b' ad I;have aj:=am ad;clear ad U;have cF:=am I;clear I;have ab:=cF;clear cF;have a5:=ae aj)
   |((with_reducible refine aQ 3 ?_);refine b6 31 ?_;intro gs U eE ad I;have al:=am ad;clear ad U;replace aj:=aV aj I;replace ab:=cf ab I;clear I a5;have a5:=ae aj;have bg:=ae al)
   |((with_reducible refine aQ 6 ?_);refine c4 de 0 (fR aj.1) ?_)
   |(go_at_call 47;refine (sv p _ _ (cN.bH ab.1 cR.1) ea.1).mono ?_;rw [p4.1];rintro e b9 ⟨rfl,I⟩;replace aj:=aV aj I;replace al:=aV al I;replace ab:=cf ab I;clear I a5 bg;have a5:=ae aj;have bg:=ae al))
   go_ret
   have ao:jh p s=false:=by
    rw [bX.1,p4.1,tE.1];simp only [Bool.true_and,Bool.false_and,Bool.and_false,Bool.and_true,Bool.and_self]
   rw [ao];exact ⟨rfl,ab.1⟩
end Go.Proofs.YteajdhhmkjblnaaGreatDoor.Eq
namespace Go.Proofs.YteajdhhmkjblnaaGreatDoorW.PrintWords
theorem cp.one {α:Type} {aC:α->List Value->Prop} {bK:List α} {cs:List Value} {p:α} {v:Value} (aB:aC p [v]) (h:cp aC 1 bK cs):cp aC 1 (p :: bK) (v :: cs):=by
 refine ⟨by simp [h.1],fun j q aF=> ?_⟩
 cases j with
 | zero=>
  simp only [List.getElem?_cons_zero,Option.some.injEq] at aF;subst aF
  simpa using aB
 | succ j=>
  simp only [List.getElem?_cons_succ] at aF;have h1:=h.2 j q aF;simpa [Nat.mul_one] using h1
theorem cp.front {α:Type} {aC:α->List Value->Prop} {size:Nat} {bK:List α} {cs c all:List Value} {p:α} (aB:aC p c) (ay:c.length=size) (h:cp aC size bK cs) (ha:c ++ cs=all):cp aC size (p :: bK) all:=by
 subst ha;refine ⟨by rw [List.length_append,ay,h.1,List.length_cons,Nat.succ_mul,Nat.add_comm],fun j q aF=> ?_⟩
 cases j with
 | zero=>
  simp only [List.getElem?_cons_zero,Option.some.injEq] at aF;subst aF;rw [Nat.zero_mul,List.drop_zero,List.take_append_of_le_length (by omega),List.take_of_length_le (by omega)]
  exact aB
 | succ j=>
  simp only [List.getElem?_cons_succ] at aF;have h1:=h.2 j q aF;rw [Nat.succ_mul,List.drop_append,List.drop_of_length_le (by rw [ay];exact Nat.le_add_left _ _),List.nil_append,ay,Nat.add_sub_cancel];exact h1
theorem cp.bO {α:Type} {aC:α->List Value->Prop} {bK:List α} {cs:List Value} {p:α} {Dy a8 aG:Value} (aB:aC p [Dy,a8,aG]) (h:cp aC 3 bK cs):cp aC 3 (p :: bK) (Dy :: a8 :: aG :: cs):=cp.front aB rfl h rfl
theorem cp.l8 {α:Type} {aC:α->List Value->Prop} {bK:List α} {cs:List Value} {p:α} {Dy a8 aG GD:Value} (aB:aC p [Dy,a8,aG,GD]) (h:cp aC 4 bK cs):cp aC 4 (p :: bK) (Dy :: a8 :: aG :: GD :: cs):=cp.front aB rfl h rfl
end Go.Proofs.YteajdhhmkjblnaaGreatDoorW.PrintWords
namespace Go.Proofs.YteajdhhmkjblnaaGreatDoor.Eq
open Go.RowKit Go.Proofs.YteajdhhmkjblnaaGreatDoorW.PrintWords Go.Proofs.YteajdhhmkjblnaaGreatDoorW.PrintLast Go.Proofs.YteajdhhmkjblnaaGreatDoorW.PrintMore
theorem FT {α:Type} {d:Kd α} {e base g:Nat} {ok:Nat->Prop} {W:World} {v:Value} {xs:List α} {cs:Array Value} {t:TypeId} (h:d.aC e W base ok v xs) (I:W.heap[g]? = some (.cells cs t (0,0))) (a6:∀ q ∈ e :: d.E,q ≠ t):d.aC e W base (fun k=>ok k/\k ≠ g) v xs:=by
 refine Kd.cG (Kd.fW h) (fun k J=>⟨J.1,fun he=> ?_⟩);obtain ⟨_,_,_,q,aF,cells,ay⟩:=J;rw [he,I] at ay;injection ay with ay;injection ay with _ ay;exact a6 q aF ay.symm
theorem lN {α:Type} {d:Kd α} {e base g:Nat} {ok:Nat->Prop} {W:World} {v:Value} {xs:List α} {cs:Array Value} {t:TypeId} (h:d.aC e W base ok v xs) (I:W.heap[g]? = some (.cells cs t (0,0))) (a6:∀ q ∈ e :: d.E,q ≠ t) (o:Nat) (u:Value):d.aC e (W.setCell ⟨g,o,none⟩ u) base ok v xs:=
 Kd.cG (Kd.lp (p:=⟨g,o,none⟩) (FT h I a6) (fun k J=>J.2) u) (fun k J=>J.1)
theorem YZ {α:Type} {d:Kd α} {e base g:Nat} {ok:Nat->Prop} {W W1:World} {v:Value} {xs:List α} {cs:Array Value} {t:TypeId} (h:d.aC e W base ok v xs) (I:W.heap[g]? = some (.cells cs t (0,0))) (a6:∀ q ∈ e :: d.E,q ≠ t) (J:ic W W1 g none):d.aC e W1 base ok v xs:=
 Kd.cG (Kd.Ye (FT h I a6) J (fun k J=>J.2)) (fun k J=>J.1)
theorem Il {α:Type} {d:Kd α} {e base g:Nat} {ok:Nat->Prop} {W W1:World} {v:Value} {xs:List α} {cs:Array Value} {t:TypeId} (h:d.aC e W base ok v xs) (I:W.heap[g]? = some (.cells cs t (0,0))) (a6:∀ q ∈ e :: d.E,q ≠ t) (U:W.grownBy W1 (some g)):d.aC e W1 base ok v xs:=
 Kd.cG (Kd.eI (FT h I a6) (fun k J ak=>U.block k ak (fun he=>J.2 (by injection he)))) (fun k J=>J.1)
theorem g6 {α : Type} {d : Kd α} {e base g : Nat} {ok : Nat → Prop} {W W1 : World} {v : Value} {xs : List α} {cs : Array Value} {t : TypeId} (h : av (d.aC e W base ok v xs)) (I : av (W.heap[g]? = some (.cells cs t (0, 0)))) (U : W.grownBy W1 (some g)) (a6 : ∀ q ∈ e :: d.E, q ≠ t := by decide) : av (d.aC e W1 base ok v xs) := ⟨Il h.out I.out a6 U⟩
def FU (W:World) (base:Nat) (s:Sys) (aG aZ aP:Value):Prop:=iU.aC 50 W base (fun _=>True) aG s.cells/\eV.aC 38 W base (fun _=>True) aZ s.tasks/\hf.aC 105 W base (fun _=>True) aP s.log
theorem FU.read {W:World} {base:Nat} {s:Sys} {aG aZ aP:Value} (h:FU W base s aG aZ aP):cS.K W s [aG,aZ,.int .i64 s.clock,aP]:=by
 obtain ⟨cX,bL,rfl,g9,fz⟩:=Kd.fG h.1;obtain ⟨dX,cu,rfl,fU,db⟩:=Kd.fG h.2.1;obtain ⟨cU,bO,rfl,gz,dj⟩:=Kd.fG h.2.2;exact Bo s g9 fz fU db gz dj
def Y0 (p:Prog) (b:Bool) (w:World) (e:Ending) (af:World):Prop:=∃ aG aZ aP,e= .returned (.tuple #[.agg #[aG,aZ,.int .i64 0,aP],.bool b])/\Below w.heap.size w af/\(b=true->FU af w.heap.size (kH p) aG aZ aP)/\(b=false->FU af w.heap.size HJ aG aZ aP)
theorem abT (l:List Int) {k:Nat} (f:Int->Cell) (h:k < l.length):(l.take (k+1)).map f=(l.take k).map f ++ [f l[k]]:=by
 rw [List.take_add_one,List.getElem?_eq_getElem h,List.map_append];rfl
theorem Yr {l:List Int} {k:Nat} (h:k < l.length):rd l (k:Int)=l[k]:=by simp [rd,List.getD_eq_getElem?_getD,List.getElem?_eq_getElem h]
theorem aaQ (p:Prog) (bK:List Value) (El:Bool) (w:World) (aB:cN.K w p bK) (aX:jI p) (Fh:k2 p=El):
  Calls Tryz.prog 60 #[.agg bK.toArray] w fun e af=>Y0 p El w e af:=by
 have cR:=am aB;have ea:=am aX;obtain ⟨ek,ey,g0,er,rfl,-,gc,-⟩:=jk aB;have nZ:=am gc;have mh:=aX.cells;clear aB aX gc;have p4:=am Fh;clear Fh;go_enter Tryz.func60,Tryz.ntmps60
 cases El with
 | false=>
  go_wp2_with (first
  |((with_reducible refine aQ 1 ?_);refine b6 26 ?_;intro de U w1 ad I;have aj:=am ad;clear ad U;have cF:=am I;clear I;have ab:=cF;clear cF;have a5:=ae aj)
  |((with_reducible refine aQ 2 ?_);refine b6 31 ?_;intro gr U b' ad I;have dc:=am ad;have tA:=am (show w.heap.size<=gr from Nat.le_trans ab.1.size (Nat.le_of_eq U.symm));clear ad U;replace aj:=aV aj I;replace ab:=cf ab I;clear I a5;have a5:=ae aj;have gQ:=ae dc)
  |((with_reducible refine aQ 6 ?_);refine c4 de 0 (fR aj.1) ?_)
  |(go_at_call 47;refine (sv p _ _ (cN.bH ab.1 cR.1) ea.1).mono ?_;rw [p4.1];rintro e b9 ⟨rfl,I⟩;replace aj:=aV aj I;replace dc:=aV dc I;replace ab:=cf ab I;clear I a5 gQ;have a5:=ae aj;have gQ:=ae dc)
  |((with_reducible refine bT 31 2 ?_);refine dG dc ?_;intro bV ad U;have ax:=am ad;have ij:=am U;have n2:=am (mA ab.1 _ ab.1.size U (fun z aX=>by cases aX;exact tA.1));clear ad U))
  exact bodyPost_ret (nK Tryz.results60 _ bV gr 31 #[.slice none 0 0,.slice none 0 0,.int .i64 0,.slice none 0 0] (0,0) _ rfl ax.1 Tryz.underlying31 rfl (by kernel_rfl)) rfl ⟨_,_,_,rfl,n2.1,(fun h=>by cases h),fun _=>⟨Kd.ht _ _ _ _ _,Kd.ht _ _ _ _ _,Kd.ht _ _ _ _ _⟩⟩
 | true=>
  go_wp2_with (first
  |((with_reducible refine aQ 1 ?_);refine b6 26 ?_;intro de U w1 ad I;have aj:=am ad;clear ad U;have cF:=am I;clear I;have ab:=cF;clear cF;have a5:=ae aj)
  |((with_reducible refine aQ 2 ?_);refine b6 31 ?_;intro gr U b' ad I;have dc:=am ad;have tA:=am (show w.heap.size<=gr from Nat.le_trans ab.1.size (Nat.le_of_eq U.symm));clear ad U;replace aj:=aV aj I;replace ab:=cf ab I;clear I a5;have a5:=ae aj;have gQ:=ae dc)
  |((with_reducible refine aQ 6 ?_);refine c4 de 0 (fR aj.1) ?_)
  |(go_at_call 47;refine (sv p _ _ (cN.bH ab.1 cR.1) ea.1).mono ?_;rw [p4.1];rintro e b9 ⟨rfl,I⟩;replace aj:=aV aj I;replace dc:=aV dc I;replace ab:=cf ab I;clear I a5 gQ;have a5:=ae aj;have gQ:=ae dc)
  |((with_reducible refine aQ 10 ?_);refine Kd.jX iU (w0:=w) w.heap.size 50 rfl (N:=10) rfl (xs:=([]:List Cell)) (inner:= []) (ok:=fun _=>True) (okp:=fun _=>False) (by go_simp<;>rfl) (cp.none _ _) (fun _ J=>J.elim) trivial ab.1 ab.1.size (by simp) ?_;intro v1 wl bG bZ fO _;have I:=hW fO;clear bZ fO;obtain ⟨a0,bL,c'⟩:=Kd.bt bG;subst c';have bc:=am bG;clear bG;replace aj:=aV aj I;replace dc:=aV dc I;replace ab:=cf ab I;clear I a5 gQ;have a5:=ae aj;have gQ:=ae dc)
  |(go_at_call 89;refine (SX 0 (-1) _).mono ?_;rintro e wl ⟨v3,bC,v9,v10,rfl,s5,I⟩;have dw:eV.M wl w.heap.size (fun _=>True) (g8 0 (-1)) [.int .i64 0,.int .i64 0,.int .i64 (-1),v3,.int .i64 0,.int .i64 0,.int .i64 0,.int .i64 0,bC,v9,v10,.int .i64 0,.int .i64 0]:=aac (g8 0 (-1)) (Kd.ft s5.aL ab.1.size) (Kd.ft s5.bE ab.1.size) (Kd.ft s5.reads ab.1.size) (Kd.ft s5.ai ab.1.size);have fo:=am dw;clear dw s5;replace bc:=c9 bc I;replace aj:=aV aj I;replace dc:=aV dc I;replace ab:=cf ab I;clear I a5 gQ;have a5:=ae aj;have gQ:=ae dc)
  |((with_reducible refine aQ 12 ?_);refine Kd.jX eV (w0:=w) w.heap.size 38 rfl (N:=12) rfl (xs:= [g8 0 (-1)]) (inner:= [.int .i64 0,.int .i64 0,.int .i64 (-1),v3,.int .i64 0,.int .i64 0,.int .i64 0,.int .i64 0,bC,v9,v10,.int .i64 0,.int .i64 0]) (ok:=fun _=>True) (okp:=fun _=>True) (by unfold Ih;first|(go_simp;done)|(go_simp;rfl)) (cp.front fo.1 rfl (cp.none _ _) (by simp)) (fun _ _=>trivial) trivial ab.1 ab.1.size (by decide) ?_;intro v1 wl bG bZ fO _;have I:=hW fO;clear bZ fO;obtain ⟨jN,cu,c'⟩:=Kd.bt bG;subst c';have sH:=am bG;clear bG fo;replace bc:=c9 bc I;replace aj:=aV aj I;replace dc:=aV dc I;replace ab:=cf ab I;clear I a5 gQ;have a5:=ae aj;have gQ:=ae dc)
  |((with_reducible refine aQ 13 ?_);refine Kd.jX hf (w0:=w) w.heap.size 105 rfl (N:=13) rfl (xs:=([]:List Entry)) (inner:= []) (ok:=fun _=>True) (okp:=fun _=>False) (by go_simp<;>rfl) (cp.none _ _) (fun _ J=>J.elim) trivial ab.1 ab.1.size (by simp) ?_;intro v1 wl bG bZ fO _;have I:=hW fO;clear bZ fO;obtain ⟨a3,bO,c'⟩:=Kd.bt bG;subst c';have yf:=am bG;clear bG;replace bc:=c9 bc I;replace sH:=c9 sH I;replace aj:=aV aj I;replace dc:=aV dc I;replace ab:=cf ab I;clear I a5 gQ;have a5:=ae aj;have gQ:=ae dc)
  |((with_reducible refine aQ 4 ?_);refine hy 31 ?_;intro gs wt Oa Di dF)
  |((with_reducible refine bT 31 4 ?_);refine dG Oa ?_;intro wn ad U;have al:=am ad;have I:=fq dF Di U;have oO:=am (show w.heap.size<=gs from Nat.le_trans ab.1.size (Nat.le_of_eq Di.1.symm));have Cd:=am (show gr ≠ gs from fun he=>by have:=dK dc.1;rw [Di.1] at he;omega);clear Oa dF ad U Di;replace bc:=c9 bc I;replace sH:=c9 sH I;replace yf:=c9 yf I;replace aj:=aV aj I;replace dc:=aV dc I;replace ab:=cf ab I;clear I a5 gQ;have a5:=ae aj;have gQ:=ae dc;have bg:=ae al))
  go_loopw [5] (fun j af=>∃ k:Nat,k<=p.cells.length/\j= .int .i64 k/\∃ aG,av (iU.aC 50 af w.heap.size (fun _=>True) aG ((p.cells.take k).map fun n=>(⟨n,0,-1⟩:Cell)))/\av (eV.aC 38 af w.heap.size (fun _=>True) (.slice jN 1 cu) [g8 0 (-1)])/\av (hf.aC 105 af w.heap.size (fun _=>True) (.slice a3 0 bO) [])/\av (af.heap[de]? = some (.cells #[.slice ek p.cells.length ey,.slice g0 p.an.length er] 26 (0,0)))/\av (af.heap[gr]? = some (.cells #[.slice none 0 0,.slice none 0 0,.int .i64 0,.slice none 0 0] 31 (0,0)))/\av (af.heap[gs]? = some (.cells #[aG,.slice jN 1 cu,.int .i64 0,.slice a3 0 bO] 31 (0,0)))/\av (Below w.heap.size w af)) (fun j _=>p.cells.length - (intOf j).toNat)
  case atStart=>exact ⟨0,Nat.zero_le _,rfl,_,bc,sH,yf,aj,dc,al,ab⟩
  case round=>
   clear bc sH yf aj dc al ab a5 gQ bg;obtain ⟨k,J,rfl,aG,bc,sH,yf,aj,dc,al,ab⟩:=hrel;obtain ⟨A,dW,c'⟩:=Kd.bt bc.1;subst c';obtain ⟨eo,eN⟩:∃ x:Nat,x=((p.cells.take k).map fun n=>(⟨n,0,-1⟩:Cell)).length:=⟨_,rfl⟩;rw [<-eN] at bc al;have zJ:=am eN;clear eN;have a5:=ae aj;have gQ:=ae dc;have bg:=ae al;by_cases aJ:k < p.cells.length
   ·have bz:(0:Int)<=(k:Int):=by omega
    have b7:(k:Int) < (p.cells.length:Int):=by omega
    obtain ⟨sI,Ob⟩:∃ x,x=rd p.cells (k:Int):=⟨_,rfl⟩;have M4:=am Ob;clear Ob;obtain ⟨adc,lY,-⟩:=Kd.kG nZ.1 (k:Int) bz b7;cases lY;go_wp2;refine kO (n:=12) (S:=fun W=>W.heap[de]? = some (.cells #[.slice (some adc) p.cells.length ey,.slice g0 p.an.length er] 26 (0,0))/\W.heap[gr]? = some (.cells #[.slice none 0 0,.slice none 0 0,.int .i64 0,.slice none 0 0] 31 (0,0))/\W.heap[gs]? = some (.cells #[.slice A eo dW,.slice jN 1 cu,.int .i64 0,.slice a3 0 bO] 31 (0,0))/\(Kd.int .i64).C W (some adc) p.cells.length p.cells) (ds:= [10,11]) (by kernel_rfl) rfl ⟨gW aj.1,gW dc.1,gW al.1,Kd.bW (Kd.bW nZ.1 ab.1) (ei (Below.refl _ _))⟩ (fun aK=> ?_);have I:=ei (Below.refl wr.heap.size wr);generalize wr.drew=fN at I aK ⊢;have iy:=cf ab I;have An:=c9 bc I;have Oc:=c9 sH I;have Od:=c9 yf I;clear I ab aj dc al a5 gQ bg bc sH yf;refine hn 4 8 [0,1,2,3,4,5,6,7] aK ?_
    iterate 8 (refine hR rfl (by rintro W ⟨bU,s1,s2,ec⟩;have t0:=bf bU;have t2:=bf s2;obtain ⟨JH,c0,cL⟩:=Kd.kG ec (k:Int) bz b7;cases c0;simp only [Int.toNat_natCast] at cL;rw [<-M4.1] at cL;clear bU s1 s2 ec;go_simp;with_reducible rfl) ?_)
    refine bN ?_;refine fs 8 (some 30) (fun K au=> ?_);refine mV (v:=.slice (some ⟨fN.heap.size,0,none⟩) 1 1) (w1:=fN.alloc (.cells #[.int .i64 sI,.int .i64 0,.int .i64 (-1)] 50 (0,0))) (by rfl) rfl (by go_simp<;>rfl) ?_;have kJ:=aK;refine au.out _ _ ⟨ss aK.1 _,ss aK.2.1 _,ss aK.2.2.1 _,Kd.bW aK.2.2.2 (mz (Below.refl _ _) _)⟩ (fun aK=>e8 ?_);clear au K
    refine fs 9 (some 31) (fun K au=> ?_);refine Kd.BE iU (w0:=w) w.heap.size (by rfl) (.tmp 23) (.tmp 30) 27 50 (.agg #[.int .i64 0,.int .i64 0,.int .i64 0]) 24 rfl Tryz.underlying27 Mm rfl (by decide) (by decide) (.slice A eo dW) ((p.cells.take k).map fun n=>(⟨n,0,-1⟩:Cell)) (⟨sI,0,-1⟩:Cell) [.int .i64 sI,.int .i64 0,.int .i64 (-1)] (fun _=>True) (fun _=>False) rfl rfl (Mk (⟨sI,0,-1⟩:Cell)) (fun _ J=>J.elim) (fun _ _=>trivial) An.1 iy.1 iy.1.size (by rw [List.length_map,List.length_take];omega) ?_;intro v1 g1 bG lG h6 o8;have Oe:some de ≠ (Value.slice A eo dW).ownBlock:=fun he=>Kd.rf An.1 kJ.1 (by decide) he
    have p':some gr ≠ (Value.slice A eo dW).ownBlock:=fun he=>Kd.rf An.1 kJ.2.1 (by decide) he
    have D7:some gs ≠ (Value.slice A eo dW).ownBlock:=fun he=>Kd.rf An.1 kJ.2.2.1 (by decide) he
    refine au.out _ _ ⟨eQ kJ.1 h6 Oe,eQ kJ.2.1 h6 p',eQ kJ.2.2.1 h6 D7,Kd.bW nZ.1 lG⟩ (fun aK=>e8 ?_);clear au K
    have Of:=am (CS Oc.1 An.1 (by decide) h6);have Og:=am (CS Od.1 An.1 (by decide) h6);have V:=am bG;have rX:=am lG;have aj:=am aK.1;have dc:=am aK.2.1;have al:=am aK.2.2.1;clear aK kJ bG lG h6 o8 Oe p' D7 An Oc Od iy;have bg:=ae al;refine lM (fuel:=2) 10 (by kernel_rfl) ?_;simp only [List.drop_succ_cons,List.drop_zero]
    go_wp2_with (first
    |((with_reducible refine bT 27 32 ?_);refine e9 (u:=v1) rfl rfl _ _ rfl (g:=gs) (off:=0) rfl rfl (qA V.1) (qF V.1) (by kernel_rfl) ⟨⟨_,by rw [bf al.1];rfl⟩,iX al.1 _⟩ ?_;intro bV aH;have U6:=am (show bV.heap[gs]? = some (.cells #[v1,.slice jN 1 cu,.int .i64 0,.slice a3 0 bO] 31 (0,0)) by rw [aH];exact ku al.1 0 v1);have U7:=am (show bV.heap[de]? = some (.cells #[.slice (some adc) p.cells.length ey,.slice g0 p.an.length er] 26 (0,0)) by rw [aH];exact eA (p:=⟨gs,0,none⟩) aj.1 (g7 aj.1 al.1 (by decide)) v1);have U8:=am (show bV.heap[gr]? = some (.cells #[.slice none 0 0,.slice none 0 0,.int .i64 0,.slice none 0 0] 31 (0,0)) by rw [aH];exact eA (p:=⟨gs,0,none⟩) dc.1 Cd.1 v1);have Em:=am (show iU.aC 50 bV w.heap.size (fun _=>True) v1 _ by rw [aH];exact lN V.1 al.1 (by decide) 0 v1);have J0:=am (show eV.aC 38 bV w.heap.size (fun _=>True) (.slice jN 1 cu) [g8 0 (-1)] by rw [aH];exact lN Of.1 al.1 (by decide) 0 v1);have J1:=am (show hf.aC 105 bV w.heap.size (fun _=>True) (.slice a3 0 bO) [] by rw [aH];exact lN Og.1 al.1 (by decide) 0 v1);have n2:=am (show Below w.heap.size w bV by rw [aH];exact jj rX.1 oO.1);clear aH V Of Og aj dc al rX bg))
    go_roundw
    case rel=>exact ⟨k+1,by omega,by go_num,v1,⟨by rw [abT _ _ aJ,<-Yr aJ,<-M4.1];exact Em.1⟩,J0,J1,U7,U8,U6,n2⟩
    case measure=>simp [intOf];omega
   ·obtain rfl:k=p.cells.length:=by omega
    have b7:¬ (p.cells.length:Int) < (p.cells.length:Int):=by omega
    go_wp2_with (first
    |((with_reducible refine aQ 33 ?_);refine c4 gs 0 (fR al.1) ?_)
    |((with_reducible refine bT 31 2 ?_);refine dG dc ?_;intro bV ad U;have ax:=am ad;have ij:=am U;have n2:=am (mA ab.1 _ ab.1.size U (fun z aX=>by cases aX;exact tA.1));clear ad U))
    have Em:=am (Il bc.1 dc.1 (by decide) ij.1);have J0:=am (Il sH.1 dc.1 (by decide) ij.1);have J1:=am (Il yf.1 dc.1 (by decide) ij.1);have ay:(p.cells.take p.cells.length).map (fun n=>(⟨n,0,-1⟩:Cell))=(kH p).cells:=by rw [List.take_length];rfl
    have ak:eo=(kH p).cells.length:=by rw [<-ay];exact zJ.1
    rw [ay] at Em;rw [ak] at Em ax;refine bodyPost_ret (nK Tryz.results60 _ bV gr 31 #[.slice A (kH p).cells.length dW,.slice jN 1 cu,.int .i64 0,.slice a3 0 bO] (0,0) _ rfl ax.1 Tryz.underlying31 rfl (by kernel_rfl)) rfl ⟨_,_,_,rfl,n2.1, ?_⟩;refine ⟨fun _=> ?_,fun h=>by cases h⟩;exact ⟨Em.1,J0.1,J1.1⟩
section
variable {P:Program} {ops:Array Oper} {Q:Exit->Go.Act->World->Prop} {md:Region.Mode} {S:World->Prop} {ds:List Nat}
theorem Sf {i j fuel:Nat} {N:Option Tmp} {c2 kc:Oper} {l:Array Bool} {a:Go.Act} {w w1:World} {v:Value} {a':Go.Act} (aa:ops[i]? = some c2) (aI:ops[j]? = some kc) (BW:c2.dst=N)
  (ay:(Region.ready md ops l == [i,j] && Region.ready md ops (l.setIfInBounds i true) == [j] && Region.ready md ops (l.setIfInBounds j true) == [i] && Region.ready md ops ((l.setIfInBounds i true).setIfInBounds j true) == [] && Region.ready md ops ((l.setIfInBounds j true).setIfInBounds i true) == [])=true) (BX:j ∈ ds)
  (U9:∀ x,Region.wanted c2 x=true) (Oh:∀ x,Region.wanted kc x=true) (Oi:∀ W,(execOp a.eval c2).run P W= .ok (.value v) W) (ha:a.put N v=a')
  (hj1:∀ K:Go.Act->World->Prop,K a w1->Oper.wp P kc a w K Q) (hj2:∀ K:Go.Act->World->Prop,K a' w1->Oper.wp P kc a' w K Q)
  (h:Q .normal a' w1):fM P md ops Q S ds (fuel+1+1) l a w:=by
 subst ha;simp only [Bool.and_eq_true,beq_iff_eq] at ay;obtain ⟨⟨⟨⟨h1,ar⟩,aA⟩,bR⟩,br⟩:=ay
 have same:∀ {fuel:Nat} {l:Array Bool} {a:Go.Act} {w:World},(∀ W,(execOp a.eval c2).run P W= .ok (.value v) W)->fM P md ops Q S ds fuel (l.setIfInBounds i true) (a.put N v) w->wpOp P ops Q i (fun a' af=>(i ∉ ds->S w->S af)/\fM P md ops Q S ds fuel (l.setIfInBounds i true) a' af) a w:=by
  intro fuel l a w ao aS;refine wpOp_step aa (fun j3 au=> ?_);rw [BW];exact mV (U9 _) BW (ao w) (au _ _ ⟨fun _ h=>h,aS⟩)
 refine Dc h1 (by simp) (fun q aF=> ?_);rcases List.mem_cons.1 aF with rfl | aF
 ·refine same Oi ?_
  refine Dc ar (by simp) (nJ.RL aI BX (fun kh hX=> ?_) nJ.nil);rw [if_pos (Oh _)];exact hj2 _ (hX.out _ _ (MO bR h fuel))
 ·refine nJ.RL aI BX (fun j3 au=> ?_) nJ.nil q aF
  rw [if_pos (Oh _)];refine hj1 _ (au.out _ _ ?_);refine Dc aA (by simp) (fun bY fk=> ?_);rw [List.mem_singleton.1 fk];exact same Oi (MO br h fuel)
end
theorem zn {W:World} {g:Nat} {bL:Array Value} {e:TypeId} {cs:List Value} (I:W.heap[g]? = some (.cells bL e (0,0))) (ak:cs.length=bL.size):(W.setCells g 0 cs).heap[g]? = some (.cells cs.toArray e (0,0))/\W.grownBy (W.setCells g 0 cs) (some g):=by
 obtain ⟨cur,ay,cP,AS⟩:=zm cs 0 W bL I (by omega);obtain ⟨s1,s2,ec,gx⟩:=pV g cs 0 W
 have b1:cur=cs.toArray:=by
  apply Array.toList_inj.1;rw [AS,List.take_zero,List.nil_append,List.drop_eq_nil_of_le (by simp;omega),List.append_nil]
 subst b1;exact ⟨ay,⟨s1,s2,ec,by rw [gx];exact Nat.le_refl _,fun i aa cm=>pn cs 0 i (fun he=>cm (by rw [he]))⟩⟩
theorem wB {P:Program} {op:Oper} {a:Go.Act} {W:World} {K:Go.Act->World->Prop} {Q:Exit->Go.Act->World->Prop} (cz:op.dst=none) (t:TypeId) (p x:Operand) (aT:op.op= .store t p x) {g:Nat} {bL:Array Value} {e:TypeId} {cs:List Value}
  (aB:a.eval p= .pointer (some ⟨g,0,none⟩)) (az:a.eval x= .agg cs.toArray) (I:W.heap[g]? = some (.cells bL e (0,0))) (ak:cs.length=bL.size) (aa:(P.info? t).map (·.size)=some cs.length) (h1:∀ v ∈ cs,v.oneCell'=true)
  (h:K a (W.setCells g 0 cs)):Oper.wp P op a W K Q:=by
 refine wp_store_mid t p x aT g 0 cs.toArray aB az (fun j aI=> ?_) (by simpa using aa) (all_oneCell_toArray h1) ?_
 ·rw [Nat.zero_add,bf I j,iX I j]
  simp at aI;simp [Array.getElem?_eq_getElem (show j < bL.size by omega)]
 ·rw [cz]
  exact h
def Y1 (p:Prog) (s:Sys) (aY:List Int) (w:World) (e:Ending) (af:World):Prop:=∃ (c6:List Value) (b:Bool),e= .returned (.tuple #[.agg c6.toArray,.bool b])/\Below w.heap.size w af/\b=(jh p s && decide (aY.length<=300))/\(b=true->∃ own aG aZ aP,c6= [aG,aZ,.int .i64 (turns p s aY).clock,aP]/\b8 w.heap.size own (turns p s aY) aG aZ aP af)/\(b=false->cS.K af HJ c6)
theorem oC.XW {s:Sys} (h:oC s):∀ e ∈ s.log,e.reads.length<=1048576/\e.ai.length<=1048576:=by
 intro e he;obtain ⟨i,aa,rfl⟩:=List.mem_iff_getElem.1 he;have:=h.kX i aa;rwa [show eh s.log i=s.log[i] by simp [eh,List.getD_eq_getElem?_getD,List.getElem?_eq_getElem aa]] at this
theorem abF (p:Prog) (bK:List Value) (s:Sys) (c6:List Value) (aY:List Int) (eF:Option Addr) (eJ:Nat) (w:World) (aB:cN.K w p bK) (hs:cS.K w s c6) (aX:jI p) (cP:oC s) (cz:s.log.length+s.tasks.length<=1000000) (J:(Kd.int .i64).C w eF aY.length aY):
  Calls Tryz.prog 32 #[.agg bK.toArray,.agg c6.toArray,.slice eF aY.length eJ] w fun e af=>Y1 p s aY w e af:=by
 have cR:=am aB;have c8:=am hs;have ea:=am aX;have cK:=am cP;have JN:=am cP.XW;have cT:=am J;obtain ⟨ek,ey,g0,er,rfl,-⟩:=jk aB;obtain ⟨cX,bL,dX,cu,cU,bO,rfl,-⟩:=gX hs;obtain ⟨U',P7⟩:∃ x,jh p s=x:=⟨_,rfl⟩;have BQ:=am P7;clear aB hs aX cP J P7;go_enter Tryz.func32,Tryz.ntmps32
 cases U' with
 | false=>
  go_wp2_with (first
  |((with_reducible refine aQ 3 ?_);refine b6 26 ?_;intro de U eE ad I;have aj:=am ad;clear ad U;have cF:=am I;clear I;have ab:=cF;clear cF;have a5:=ae aj)
  |((with_reducible refine aQ 4 ?_);refine b6 31 ?_;intro gs U dJ ad I;have al:=am ad;have oO:=am (show w.heap.size<=gs from Nat.le_trans ab.1.size (Nat.le_of_eq U.symm));clear ad U;replace aj:=aV aj I;replace ab:=cf ab I;clear I a5;have a5:=ae aj;have bg:=ae al)
  |((with_reducible refine aQ 6 ?_);refine b6 31 ?_;intro gr U g1 ad I;have dc:=am ad;have tA:=am (show w.heap.size<=gr from Nat.le_trans ab.1.size (Nat.le_of_eq U.symm));have Cd:=am (show gs ≠ gr from fun he=>by have:=dK al.1;rw [<-he] at U;omega);clear ad U;replace aj:=aV aj I;replace al:=aV al I;replace ab:=cf ab I;clear I a5 bg;have a5:=ae aj;have bg:=ae al;have gQ:=ae dc)
  |((with_reducible refine aQ 9 ?_);refine c4 de 0 (fR aj.1) ?_)
  |((with_reducible refine aQ 10 ?_);refine c4 gs 0 (fR al.1) ?_)
  |(go_at_call 25;refine (zl p _ s _ _ (cN.bH ab.1 cR.1) (cS.bH ab.1 c8.1) ea.1 cK.1).mono ?_;rw [BQ.1];rintro e b9 ⟨rfl,I⟩;replace aj:=aV aj I;replace al:=aV al I;replace dc:=aV dc I;replace ab:=cf ab I;clear I a5 bg gQ;have a5:=ae aj;have bg:=ae al;have gQ:=ae dc)
  |((with_reducible refine bT 31 6 ?_);refine dG dc ?_;intro bV ad U;have ax:=am ad;have ij:=am U;have n2:=am (mA ab.1 _ ab.1.size U (fun z aX=>by cases aX;exact tA.1));clear ad U))
  exact bodyPost_ret (nK Tryz.results32 _ bV gr 31 #[.slice none 0 0,.slice none 0 0,.int .i64 0,.slice none 0 0] (0,0) _ rfl ax.1 Tryz.underlying31 rfl (by kernel_rfl)) rfl ⟨_,false,rfl,n2.1,by rw [BQ.1];rfl,(fun h=>by cases h),fun _=>Bo HJ (Nat.zero_le _) (vo _ _) (Nat.zero_le _) (vo _ _) (Nat.zero_le _) (vo _ _)⟩
 | true=>
  by_cases hle:aY.length<=300
  ·have Tv:decide ((300:Int) < (aY.length:Int))=false:=decide_eq_false (by omega)
   have Tw:¬ (300:Int) < (aY.length:Int):=by omega
   have eD:av (s.log.length+s.tasks.length+2*aY.length<=1048576):=⟨by omega⟩
   go_wp2_with (first
   |((with_reducible refine aQ 3 ?_);refine b6 26 ?_;intro de U eE ad I;have aj:=am ad;clear ad U;have cF:=am I;clear I;have ab:=cF;clear cF;have a5:=ae aj)
   |((with_reducible refine aQ 4 ?_);refine b6 31 ?_;intro gs U dJ ad I;have al:=am ad;have oO:=am (show w.heap.size<=gs from Nat.le_trans ab.1.size (Nat.le_of_eq U.symm));clear ad U;replace aj:=aV aj I;replace ab:=cf ab I;clear I a5;have a5:=ae aj;have bg:=ae al)
   |((with_reducible refine aQ 6 ?_);refine b6 31 ?_;intro gr U g1 ad I;have dc:=am ad;have tA:=am (show w.heap.size<=gr from Nat.le_trans ab.1.size (Nat.le_of_eq U.symm));have Cd:=am (show gs ≠ gr from fun he=>by have:=dK al.1;rw [<-he] at U;omega);clear ad U;replace aj:=aV aj I;replace al:=aV al I;replace ab:=cf ab I;clear I a5 bg;have a5:=ae aj;have bg:=ae al;have gQ:=ae dc)
   |((with_reducible refine aQ 9 ?_);refine c4 de 0 (fR aj.1) ?_)
   |((with_reducible refine aQ 10 ?_);refine c4 gs 0 (fR al.1) ?_)
   |(go_at_call 25;refine (zl p _ s _ _ (cN.bH ab.1 cR.1) (cS.bH ab.1 c8.1) ea.1 cK.1).mono ?_;rw [BQ.1];rintro e b9 ⟨rfl,I⟩;replace aj:=aV aj I;replace al:=aV al I;replace dc:=aV dc I;replace ab:=cf ab I;clear I a5 bg gQ;have a5:=ae aj;have bg:=ae al;have gQ:=ae dc)
   |((with_reducible refine aQ 19 ?_);refine c4 gs 0 (fR al.1) ?_)
   |(go_at_call 56;refine (SY s [.slice cX s.cells.length bL,.slice dX s.tasks.length cu,.int .i64 s.clock,.slice cU s.log.length bO] _ (cS.bH ab.1 c8.1) cK.1.tasks cK.1.cells cK.1.log cK.1.task JN.1).mono ?_;rintro e wc ⟨own,aG,aZ,aP,rfl,iA,I⟩;obtain ⟨wS,dP,b1⟩:=Kd.bt iA.cells;obtain ⟨yb,ps,eg⟩:=Kd.bt iA.tasks;obtain ⟨yc,qH,eL⟩:=Kd.bt iA.log;rw [fH] at eg;subst b1 eg eL;have gK:=am (iA.low gs (dK al.1));have mF:=am (iA.low gr (dK dc.1));have bd:=am (iA.lower ab.1.size);clear iA;replace aj:=aV aj I;replace al:=aV al I;replace dc:=aV dc I;replace ab:=cf ab I;clear I a5 bg gQ;have a5:=ae aj;have bg:=ae al;have gQ:=ae dc)
   |((with_reducible refine bT 31 4 ?_);refine dG al ?_;intro wn ad U;have Ce:=am ad;replace bd:=am (bd.1.move U.size (fun q aF ak=>U.block q ak (fun he=>aF (by injection he with he;rw [he];exact gK.1))));replace aj:=fV aj U (g7 aj.1 al.1 (by decide));replace dc:=am (eQ dc.1 U (fun he=>Cd.1 (by injection he with he;exact he.symm)));replace ab:=am (mA ab.1 _ ab.1.size U (fun z aX=>by cases aX;exact oO.1));clear ad U al a5 bg gQ;have al:=Ce;clear Ce;have a5:=ae aj;have bg:=ae al;have gQ:=ae dc))
   clear a5 bg gQ;go_loopw [8] (fun j af=>∃ k:Nat,k<=aY.length/\j= .int .i64 k/\∃ own aG aZ aP,av (b8 w.heap.size own (turns p s (aY.take k)) aG aZ aP af)/\av (own gs=0)/\av (own gr=0)/\av (af.heap[de]? = some (.cells #[.slice ek p.cells.length ey,.slice g0 p.an.length er] 26 (0,0)))/\av (af.heap[gr]? = some (.cells #[.slice none 0 0,.slice none 0 0,.int .i64 0,.slice none 0 0] 31 (0,0)))/\av (af.heap[gs]? = some (.cells #[aG,aZ,.int .i64 (turns p s (aY.take k)).clock,aP] 31 (0,0)))/\av (Below w.heap.size w af)) (fun j _=>aY.length - (intOf j).toNat)
   case atStart=>exact ⟨0,Nat.zero_le _,rfl,own,_,_,_,bd,gK,mF,aj,dc,al,ab⟩
   case round=>
    clear bd gK mF aj dc al ab;clear own;obtain ⟨k,J,rfl,own,aG,aZ,aP,bd,gK,mF,aj,dc,al,ab⟩:=hrel;have hinv:Inv p (turns p s (aY.take k)) (s.log.length+s.tasks.length+2*(aY.take k).length):=(Inv.tb BQ.1).turns _;obtain ⟨cA,gP⟩:∃ x,x=(turns p s (aY.take k)):=⟨_,rfl⟩;rw [<-gP] at bd al hinv;have P8:=am gP;have A2:=am hinv;clear gP hinv;obtain ⟨wS,dP,b1⟩:=Kd.bt bd.1.cells;obtain ⟨yb,ps,eg⟩:=Kd.bt bd.1.tasks;obtain ⟨yc,qH,eL⟩:=Kd.bt bd.1.log;rw [fH] at eg;subst b1 eg eL;have a5:=ae aj;have bg:=ae al;have gQ:=ae dc;by_cases aJ:k < aY.length
    ·have bz:(0:Int)<=(k:Int):=by omega
     have b7:(k:Int) < (aY.length:Int):=by omega
     obtain ⟨mQ,P9⟩:∃ x,x=rd aY (k:Int):=⟨_,rfl⟩;have Oj:=am P9;clear P9;obtain ⟨adc,lY,-⟩:=Kd.kG cT.1 (k:Int) bz b7;cases lY;go_wp2;refine kO (n:=11) (S:=fun W=>W.heap[de]? = some (.cells #[.slice ek p.cells.length ey,.slice g0 p.an.length er] 26 (0,0))/\W.heap[gr]? = some (.cells #[.slice none 0 0,.slice none 0 0,.int .i64 0,.slice none 0 0] 31 (0,0))/\W.heap[gs]? = some (.cells #[.slice wS cA.cells.length dP,.slice yb cA.tasks.length ps,.int .i64 cA.clock,.slice yc cA.log.length qH] 31 (0,0))/\(Kd.int .i64).C W (some adc) aY.length aY) (ds:= [10]) (by kernel_rfl) rfl ⟨gW aj.1,gW dc.1,gW al.1,Kd.bW (Kd.bW cT.1 ab.1) (ei (Below.refl _ _))⟩ (fun aK=> ?_);have I:=ei (Below.refl wr.heap.size wr);generalize wr.drew=fN at I aK ⊢;have iy:=cf ab I;have J2:=am (bd.1.grow I);clear I ab aj dc al a5 gQ bg bd;refine hn 5 6 [0,1,2,3,4,5] aK ?_
     iterate 6 (refine hR rfl (by rintro W ⟨bU,s1,s2,ec⟩;have t0:=bf bU;have t2:=bf s2;obtain ⟨JH,c0,cL⟩:=Kd.kG ec (k:Int) bz b7;cases c0;simp only [Int.toNat_natCast] at cL;rw [<-Oj.1] at cL;clear bU s1 s2 ec;go_simp;with_reducible rfl) ?_)
     refine bN ?_;refine fs 6 (some 34) (fun K au=> ?_);refine kW Tryz.func52 #[.agg #[.slice ek p.cells.length ey,.slice g0 p.an.length er],.agg #[.slice wS cA.cells.length dP,.slice yb cA.tasks.length ps,.int .i64 cA.clock,.slice yc cA.log.length qH],.int .i64 mQ] ?_;refine (MD p cA _ [.slice wS cA.cells.length dP,.slice yb cA.tasks.length ps,.int .i64 cA.clock,.slice yc cA.log.length qH] mQ _ (cN.bH iy.1 cR.1) J2.1.read A2.1 (by have:=eD.1;rw [List.length_take];omega)).mono ?_;rintro e wn ⟨nW,rfl,I,Ok⟩;obtain ⟨bs,uj⟩:∃ x,x=turns p s (aY.take (k+1)):=⟨_,rfl⟩;have LC:bs=lK p cA mQ:=by rw [uj,aaK p s aY aJ,<-P8.1,Oj.1];rfl
     have zZ:∃ c1 En Af ui,nW= [En,Af,.int .i64 bs.clock,ui]/\b8 w.heap.size c1 bs En Af ui wn/\c1 gs=0/\c1 gr=0:=by
      rcases Ok with ⟨h1,ar⟩ | ⟨h1,c1,En,Af,ui,ar,aA⟩
      ·have he:bs=cA:=by rw [LC];unfold lK;rw [h1];rfl
       subst he;exact ⟨own,_,_,_,ar,J2.1.grow I,gK.1,mF.1⟩
      ·have he:bs=step p cA mQ.toNat:=by rw [LC];unfold lK;rw [h1];rfl
       rw [<-he] at ar aA;exact ⟨c1,En,Af,ui,ar,aA.lower iy.1.size,aA.low gs (dK aK.2.2.1),aA.low gr (dK aK.2.1)⟩
     obtain ⟨c1,En,Af,ui,rfl,Fi,GU,Ao⟩:=zZ;clear Ok;obtain ⟨jB,i',b1⟩:=Kd.bt Fi.cells;obtain ⟨ma,ut,eg⟩:=Kd.bt Fi.tasks;obtain ⟨jq,ul,eL⟩:=Kd.bt Fi.log;rw [fH] at eg;subst b1 eg eL;have Ed:=am uj;have nx:=am Fi;have J3:=am GU;have Ol:=am Ao;clear Fi GU Ao LC uj;refine ⟨_,rfl, ?_⟩;refine au.out _ _ ⟨fS aK.1 I,fS aK.2.1 I,fS aK.2.2.1 I,Kd.bW aK.2.2.2 I⟩ (fun aK=> ?_);clear au K;have J4:=cf iy I;clear I J2 iy;refine Qz (a':= ?_) ?_ ?_;rotate_left
     ·show Act.put _ (some 34) _=_
      simp only [Act.put,nL,nM,nN,k0];rfl
     refine hn 2 2 [7,8] aK ?_
     iterate 2 (refine hR rfl (by intro W fx;go_simp;with_reducible rfl) ?_)
     refine bN ?_;have Eo:=am aK.2.2.1;obtain ⟨iC,p'⟩:=zn (cs:= [.slice jB bs.cells.length i',.slice ma bs.tasks.length ut,.int .i64 bs.clock,.slice jq bs.log.length ul]) Eo.1 rfl;refine Sf (i:=9) (j:=10) (N:=some 36) (fuel:=0) (a':= ?a2) (v:=.bool (jY cA mQ)) (w1:=wn.setCells gs 0 [.slice jB bs.cells.length i',.slice ma bs.tasks.length ut,.int .i64 bs.clock,.slice jq bs.log.length ul]) rfl rfl rfl (by kernel_rfl) (by decide) (fun _=>rfl) (fun _=>rfl) (by intro W;first|(go_simp;done)|(go_simp;rfl)) ?ha ?hj1 ?hj2 ?h
     case ha=>
      simp only [Act.put,nL,nM,nN,k0];rfl
     case hj1=>exact fun K au=>wB rfl 31 (.tmp 4) (.tmp 35) rfl rfl rfl Eo.1 rfl (by kernel_rfl) (oI rfl) au
     case hj2=>exact fun K au=>wB rfl 31 (.tmp 4) (.tmp 35) rfl rfl rfl Eo.1 rfl (by kernel_rfl) (oI rfl) au
     case h=>
      have J5:=am (eQ aK.1 p' (fun he=>g7 aK.1 Eo.1 (by decide) (by injection he)));have J6:=am (eQ aK.2.1 p' (fun he=>Cd.1 (by injection he with he;exact he.symm)));have J7:=am (nx.1.move p'.size (fun q aF ak=>p'.block q ak (fun he=>aF (by injection he with he;rw [he];exact J3.1))));have J8:=am (mA J4.1 _ J4.1.size p' (fun z aX=>by cases aX;exact oO.1));have Ce:=am iC;generalize wn.setCells gs 0 [.slice jB bs.cells.length i',.slice ma bs.tasks.length ut,.int .i64 bs.clock,.slice jq bs.log.length ul]=bV at J5 J6 J7 J8 Ce ⊢;clear aK J4 nx iC p' Eo gK mF;have aj:=J5;have dc:=J6;have al:=Ce;have bd:=J7;have ab:=J8;have gK:=J3;have mF:=Ol;clear J5 J6 Ce J7 J8 J3 Ol;go_wp2;go_roundw
      case rel=>exact ⟨k+1,by omega,by go_num,c1,_,_,_,⟨by rw [<-Ed.1];exact bd.1⟩,gK,mF,aj,dc,⟨by rw [<-Ed.1];exact al.1⟩,ab⟩
      case measure=>simp [intOf];omega
    ·obtain rfl:k=aY.length:=by omega
     have b7:¬ (aY.length:Int) < (aY.length:Int):=by omega
     go_wp2_with (first
     |((with_reducible refine aQ 37 ?_);refine c4 gs 0 (fR al.1) ?_)
     |((with_reducible refine bT 31 6 ?_);refine dG dc ?_;intro bV ad U;have ax:=am ad;have ij:=am U;have n2:=am (mA ab.1 _ ab.1.size U (fun z aX=>by cases aX;exact tA.1));clear ad U))
     have pK:cA=turns p s aY:=by rw [P8.1,List.take_length]
     have G9:=bd.1.move ij.1.size (fun q aF ak=>ij.1.block q ak (fun he=>aF (by injection he with he;rw [he];exact mF.1)));rw [pK] at G9;rw [pK] at ax;exact bodyPost_ret (nK Tryz.results32 _ bV gr 31 #[.slice wS (turns p s aY).cells.length dP,.slice yb (turns p s aY).tasks.length ps,.int .i64 (turns p s aY).clock,.slice yc (turns p s aY).log.length qH] (0,0) _ rfl ax.1 Tryz.underlying31 rfl (by kernel_rfl)) rfl ⟨_,true,rfl,n2.1,by rw [BQ.1,decide_eq_true hle];rfl,(fun _=>⟨own,_,_,_,rfl,G9⟩),fun h=>by cases h⟩
  ·have Tv:decide ((300:Int) < (aY.length:Int))=true:=decide_eq_true (by omega)
   have Tw:(300:Int) < (aY.length:Int):=by omega
   go_wp2_with (first
   |((with_reducible refine aQ 3 ?_);refine b6 26 ?_;intro de U eE ad I;have aj:=am ad;clear ad U;have cF:=am I;clear I;have ab:=cF;clear cF;have a5:=ae aj)
   |((with_reducible refine aQ 4 ?_);refine b6 31 ?_;intro gs U dJ ad I;have al:=am ad;have oO:=am (show w.heap.size<=gs from Nat.le_trans ab.1.size (Nat.le_of_eq U.symm));clear ad U;replace aj:=aV aj I;replace ab:=cf ab I;clear I a5;have a5:=ae aj;have bg:=ae al)
   |((with_reducible refine aQ 6 ?_);refine b6 31 ?_;intro gr U g1 ad I;have dc:=am ad;have tA:=am (show w.heap.size<=gr from Nat.le_trans ab.1.size (Nat.le_of_eq U.symm));have Cd:=am (show gs ≠ gr from fun he=>by have:=dK al.1;rw [<-he] at U;omega);clear ad U;replace aj:=aV aj I;replace al:=aV al I;replace ab:=cf ab I;clear I a5 bg;have a5:=ae aj;have bg:=ae al;have gQ:=ae dc)
   |((with_reducible refine aQ 9 ?_);refine c4 de 0 (fR aj.1) ?_)
   |((with_reducible refine aQ 10 ?_);refine c4 gs 0 (fR al.1) ?_)
   |(go_at_call 25;refine (zl p _ s _ _ (cN.bH ab.1 cR.1) (cS.bH ab.1 c8.1) ea.1 cK.1).mono ?_;rw [BQ.1];rintro e b9 ⟨rfl,I⟩;replace aj:=aV aj I;replace al:=aV al I;replace dc:=aV dc I;replace ab:=cf ab I;clear I a5 bg gQ;have a5:=ae aj;have bg:=ae al;have gQ:=ae dc)
   |((with_reducible refine bT 31 6 ?_);refine dG dc ?_;intro bV ad U;have ax:=am ad;have ij:=am U;have n2:=am (mA ab.1 _ ab.1.size U (fun z aX=>by cases aX;exact tA.1));clear ad U))
   exact bodyPost_ret (nK Tryz.results32 _ bV gr 31 #[.slice none 0 0,.slice none 0 0,.int .i64 0,.slice none 0 0] (0,0) _ rfl ax.1 Tryz.underlying31 rfl (by kernel_rfl)) rfl ⟨_,false,rfl,n2.1,by rw [decide_eq_false hle,Bool.and_false],(fun h=>by cases h),fun _=>Bo HJ (Nat.zero_le _) (vo _ _) (Nat.zero_le _) (vo _ _) (Nat.zero_le _) (vo _ _)⟩
end Go.Proofs.YteajdhhmkjblnaaGreatDoor.Eq
namespace Go.Proofs.YteajdhhmkjblnaaGreatDoor.Rd
open Go.RowKit Go.Proofs.YteajdhhmkjblnaaGreatDoorW.PrintWords
open Go.Proofs.YteajdhhmkjblnaaGreatDoor.Eq (Deed kDeed kAct)
def IsS101 (w0 W:World) (g:Nat) (b:List Int) (q:Int):Prop:=∃ cX bL,W.heap[g]? = some (.cells #[.slice cX b.length bL,.int .i64 q] 91 (0,0))/\w0.heap.size<=g/\(Kd.int .u8).C w0 cX b.length b
section
variable {w0 W W1:World} {g:Nat} {b:List Int} {q:Int}
theorem IsS101.grown {row:Option Nat} (h:IsS101 w0 W g b q) (hw:W.grownBy W1 row) (cm:some g ≠ row):IsS101 w0 W1 g b q:=by
 obtain ⟨cX,bL,h1,ar,aA⟩:=h;exact ⟨cX,bL,eQ h1 hw cm,ar,aA⟩
theorem IsS101.lt (h:IsS101 w0 W g b q):g < W.heap.size:=by
 obtain ⟨cX,bL,h1,ar,aA⟩:=h;exact dK h1
theorem IsS101.ge (h:IsS101 w0 W g b q):w0.heap.size<=g:=by
 obtain ⟨cX,bL,h1,ar,aA⟩:=h;exact ar
theorem IsS101.Ys {a:Nat} {cs:Array Value} {t:TypeId} {fr:Nat × Nat} (h:IsS101 w0 W g b q) (gf:W.heap[a]? = some (.cells cs t fr)) (a6:t ≠ 91):g ≠ a:=by
 obtain ⟨cX,bL,h1,ar,aA⟩:=h;rintro rfl;rw [h1] at gf;injection gf with gf;injection gf with _ Ap;exact a6 Ap.symm
end
structure Code (b:List Int):Prop where
 byte:∀ i:Nat,0<=b.getD i 0/\b.getD i 0<=255
 len:b.length<=2000
theorem wrap_in {x:Int} (aq:0<=x) (h1:x<=1099511627776):wrap64 x=x:=by unfold wrap64;omega
theorem Y2 (a b:Nat) (ha:a < 2 ^ 63) (I:b < 2 ^ 63):Go.bits .xor .i64 (a:Int) (b:Int)=((a ^^^ b:Nat):Int):=by
 have yE:a % 2 ^ 64=a:=Nat.mod_eq_of_lt (Nat.lt_of_lt_of_le ha (by decide));have Va:b % 2 ^ 64=b:=Nat.mod_eq_of_lt (Nat.lt_of_lt_of_le I (by decide));have az:a ^^^ b < 2 ^ 63:=Nat.xor_lt_two_pow ha I;simp only [Go.bits,BitVec.ofInt_natCast,BitVec.toNat_xor,BitVec.toNat_ofNat,show IntKind.i64.bits=64 from rfl,yE,Va];rw [IntKind.wrap_i64];omega
theorem xor_pos {x y:Int} (az:0<=x) (DW:x<=1099511627776) (aW:0<=y) (J9:y<=1099511627776):0<=Go.bits .xor .i64 x y:=by
 obtain ⟨a,rfl⟩:=Int.eq_ofNat_of_zero_le az;obtain ⟨b,rfl⟩:=Int.eq_ofNat_of_zero_le aW;rw [Y2 a b (by omega) (by omega)];exact Int.natCast_nonneg _
theorem tmod_in {x n:Int} (az:0<=x) (aS:1<=n):0<=Int.tmod x n/\Int.tmod x n < n:=⟨Int.tmod_nonneg _ az,Int.tmod_lt_of_pos _ (by omega)⟩
theorem tdiv_in {x n:Int} (az:0<=x) (aS:1<=n):0<=Int.tdiv x n/\Int.tdiv x n<=x:=⟨Int.tdiv_nonneg az (by omega),by rw [Int.tdiv_eq_ediv_of_nonneg az];exact Int.ediv_le_self _ az⟩
def Bc (a:Eq.Act):Prop:=a.bP.length<=5/\a.kids.length<=2
theorem FV {P:Eq.Act->Prop} {l:List Eq.Act} {a:Eq.Act} (h:∀ x ∈ l,P x) (ha:P a):∀ x ∈ l ++ [a],P x:=by
 intro x az;rcases List.mem_append.1 az with az | az
 ·exact h x az
 ·rw [List.mem_singleton.1 az];exact ha
end Go.Proofs.YteajdhhmkjblnaaGreatDoor.Rd
namespace Go.Proofs.YteajdhhmkjblnaaGreatDoor.Eq
open Go.RowKit Go.Proofs.YteajdhhmkjblnaaGreatDoorW.PrintWords Go.Proofs.YteajdhhmkjblnaaGreatDoorW.PrintLast Go.Proofs.YteajdhhmkjblnaaGreatDoorW.PrintMore
open Go.Proofs.YteajdhhmkjblnaaGreatDoor.Rd (IsS101 Code wrap_in)
structure ee (w0 w:World) (g:Nat) (b:List Int) (q:Int) (W:World):Prop where
 rd:IsS101 w0 W g b q
 below:Below w0.heap.size w0 W
 lo:ic w W g none
 lt:g < w.heap.size
 pos:0<=q
section
variable {w0 w W W1:World} {g:Nat} {b:List Int} {q bY:Int}
theorem ee.start (j4:IsS101 w0 w g b q) (dt:Below w0.heap.size w0 w) (aq:0<=q):ee w0 w g b q w:=⟨j4,dt,ic.refl _ _ _,j4.lt,aq⟩
theorem ee.bB (h:ee w0 w g b q W):∃ cs,W.heap[g]? = some (.cells cs 91 (0,0)):=by
 obtain ⟨cX,bL,h1,-⟩:=h.rd;exact ⟨_,h1⟩
theorem ee.low (h:ee w0 w g b q W):w0.heap.size<=w.heap.size:=Nat.le_of_lt (Nat.lt_of_le_of_lt h.rd.ge h.lt)
theorem ee.size (h:ee w0 w g b q W):w.heap.size<=W.heap.size:=h.lo.1
theorem ee.next (h:ee w0 w g b q W) (aa:IsS101 w0 W1 g b bY) (I:Below w0.heap.size w0 W1) (J:ic W W1 g none) (aq:0<=bY):ee w0 w g b bY W1:=⟨aa,I,h.lo.trans J (.inl rfl),h.lt,aq⟩
theorem ee.dH (h:ee w0 w g b q W) (J:ic W W1 g none) {a:Nat} {cs:Array Value} {t:TypeId} (I:W.heap[a]? = some (.cells cs t (0,0))) (a6:t ≠ 91):W1.heap[a]? = some (.cells cs t (0,0)):=J.bB I (Ne.symm (h.rd.Ys I a6)) (by simp)
theorem ee.fa (h:ee w0 w g b q W) (J:ic W W1 g none) {α:Type} {d:Kd α} {e base:Nat} {ok:Nat->Prop} {v:Value} {xs:List α} (ao:d.aC e W base ok v xs) (a6:∀ q ∈ e :: d.E,q ≠ 91):d.aC e W1 base ok v xs:=by
 obtain ⟨cs,I⟩:=h.bB;exact YZ ao I a6 J
theorem ee.grown (h:ee w0 w g b q W) {row:Option Nat} (U:W.grownBy W1 row) (ao:∀ k,row=some k->w.heap.size<=k):ee w0 w g b q W1:=
 ⟨h.rd.grown U (fun he=>by have:=ao g he.symm;have:=h.lt;omega),mA h.below row h.below.size U (fun k J=>Nat.le_trans h.low (ao k J)),by
  cases row with
  | none=>exact h.lo.trans (ic.L7 U g) (.inl rfl)
  | some k=>exact h.lo.trans (ic.L7 U g) (.inr ⟨k,rfl,ao k rfl⟩),h.lt,h.pos⟩
theorem ee.grow (h:ee w0 w g b q W) (I:Below W.heap.size W W1):ee w0 w g b q W1:=h.grown (S7 I none) (fun _ J=>by cases J)
theorem ee.row (h:ee w0 w g b q W) {α:Type} {d:Kd α} {e:Nat} {ok:Nat->Prop} {v:Value} {xs:List α} (ao:d.aC e W w.heap.size ok v xs) (U:W.grownBy W1 v.ownBlock):ee w0 w g b q W1:=h.grown U (fun k J=>Kd.FF ao k J)
theorem ee.set (h:ee w0 w g b q W) {a:Nat} (ha:w.heap.size<=a) (o:Nat) (u:Value):ee w0 w g b q (W.setCell ⟨a,o,none⟩ u):=
 h.grown (row:=some a) ⟨rfl,rfl,rfl,by simp [World.setCell],fun k _ cm=>Below.heap_setCell W ⟨a,o,none⟩ u k (fun he=>cm (by rw [show k=a from he]))⟩ (fun k J=>by injection J with J;omega)
end
theorem ee.back {w0 w W W1:World} {g:Nat} {b:List Int} {q bY:Int} (h:ee w0 w g b q W) (k:ee w0 W g b bY W1):ee w0 w g b bY W1:=h.next k.rd k.below k.lo k.pos
theorem Im {p:Prog} (ay:p.cells.length<=4) (I:p.an.length<=4) (ha:∀ b ∈ p.an,b.length<=3/\∀ a ∈ b,Rd.Bc a):jI p:=
 ⟨by omega,by omega,fun b Om=>⟨by have:=(ha b Om).1;omega,fun a Vb=>by have:=(ha b Om).2 a Vb;exact ⟨by have:=this.1;omega,by have:=this.2;omega⟩⟩⟩
end Go.Proofs.YteajdhhmkjblnaaGreatDoor.Eq
namespace Go.Proofs.YteajdhhmkjblnaaGreatDoor.Eq
open Go.Proofs.YteajdhhmkjblnaaGreatDoor.Rd (IsS101 Code wrap_in tmod_in tdiv_in xor_pos)
open Go.RowKit Go.Proofs.YteajdhhmkjblnaaGreatDoorW.PrintWords Go.Proofs.YteajdhhmkjblnaaGreatDoorW.PrintLast Go.Proofs.YteajdhhmkjblnaaGreatDoorW.PrintMore
theorem Rf {cs:List Value} (h:cs.all (fun v=>v.oneCell')=true):∀ v ∈ cs,v.oneCell'=true:=by simpa using h
section
variable {w0 w W:World} {g:Nat} {b:List Int} {q:Int}
def RD (w0 w W:World) (g:Nat) (b:List Int) (q n:Int) (e:Ending) (bM:World):Prop:=∃ (x:Nat) (bY:Int),e= .returned (.int .i64 x)/\((x:Int) < n\/x=0)/\bY=q+1/\ee w0 w g b bY bM/\ic W bM g none
theorem Io {n x:Int} {W1 bM:World} (az:0<=x) (aS:x < n\/x=0) (h:ee w0 w g b (q+1) W1) (J:ic W W1 g none) (I:Below W1.heap.size W1 bM):RD w0 w W g b q n (.returned (.int .i64 x)) bM:=by
 obtain ⟨m,rfl⟩:=Int.eq_ofNat_of_zero_le az;exact ⟨m,_,rfl,by rcases aS with h | h;exact .inl h;exact .inr (by omega),rfl,h.grow I,J.trans (ic.L7 (S7 I none) g) (.inl rfl)⟩
theorem ee.lK (h:ee w0 w g b q W) (x:Int) (az:0<=x):ee w0 w g b x (W.setCell ⟨g,1,none⟩ (.int .i64 x))/\ic W (W.setCell ⟨g,1,none⟩ (.int .i64 x)) g none:=by
 obtain ⟨cX,bL,h1,ar,aA⟩:=h.rd;have J:ic W (W.setCell ⟨g,1,none⟩ (.int .i64 x)) g none:=ic.WT (ic.refl _ _ _) _ _;exact ⟨h.next ⟨cX,bL,by simpa using ku h1 1 (.int .i64 x),ar,aA⟩ (jj h.below ar) J az,J⟩
theorem ig (h:ee w0 w g b q W) (ay:Rd.Code b) (aF:q<=1000000) (n:Int):
  Calls Tryz.prog 40 #[.pointer (some ⟨g,0,none⟩),.int .i64 n] W fun e bM=>RD w0 w W g b q n e bM:=by
 have ag:=am h;have aq:=h.pos;have Vc:av (0<=q+1):=⟨by omega⟩;obtain ⟨cX,bL,iC,t',jw⟩:=h.rd;have dN:=am iC;have aN:=bf iC;have cb:=am jw;have w1:wrap64 (q+1)=q+1:=wrap_in (by omega) (by omega);have b':wrap64 q=q:=wrap_in (by omega) (by omega);have cl:=am ay;have cd:=am aF;have rJ:=am aq;clear h iC t' jw ay aF;have qf:=iX dN.1 1;go_enter Tryz.func40,Tryz.ntmps40;go_upto_region 2 with (fail);obtain ⟨aO,J⟩:=ag.1.lK (q+1) Vc.1;have Ep:(W.setCell ⟨g,1,none⟩ (.int .i64 (q+1))).heap[g]? = some (.cells #[.slice cX b.length bL,.int .i64 (q+1)] 91 (0,0)):=by simpa using ku dN.1 1 (.int .i64 (q+1))
 generalize W.setCell ⟨g,1,none⟩ (.int .i64 (q+1))=bV at aO J Ep ⊢;clear ag dN aN qf;have ag:=am aO;have cT:=am J;have aN:=bf Ep;clear aO J Ep;by_cases aS:n < 1
 ·have ed:decide (n < 1)=true:=decide_eq_true aS
  clear aS;go_wp2;go_ret;exact Io (Int.le_refl 0) (.inr rfl) ag.1 cT.1 (Below.refl _ _)
 have ed:decide (n < 1)=false:=decide_eq_false aS;have eD:=am aS;clear aS;by_cases aX:b.length=0
 ·have cg:((b.length:Int) == 0)=true:=by simp [aX]
  clear aX;go_wp2;go_ret;exact Io (Int.le_refl 0) (.inr rfl) ag.1 cT.1 (Below.refl _ _)
 have cg:((b.length:Int) == 0)=false:=by simpa using aX
 have fY:=am aX;clear aX;have z9:¬ n=0:=by have:=eD.1;omega
 have z0:(n == 0)=false:=beq_eq_false_iff_ne.mpr (by have:=eD.1;omega);have gq:(n != 0)=true:=bne_iff_ne.mpr (by have:=eD.1;omega);by_cases aJ:q < (b.length:Int)
 ·have cO:decide (q < (b.length:Int))=true:=decide_eq_true aJ
  obtain ⟨cy,mb,az⟩:=Kd.kG cb.1 q aq aJ;cases mb;obtain ⟨y,aW⟩:∃ y,y=rd b q:=⟨_,rfl⟩;rw [<-aW] at az;have fJ:av (0<=y/\y<=255):=⟨by rw [aW];exact cl.1.byte _⟩;have nR:wrap64 y=y:=wrap_in fJ.1.1 (by have:=fJ.1.2;omega);have eT:(0<=q)=True:=eq_true aq;have iq:(q < (b.length:Int))=True:=eq_true aJ;replace az:=j2 ag.1.below az;clear aW aq aJ;go_wp2;go_ret;have a6:=tmod_in (n:=n) fJ.1.1 (by have:=eD.1;omega);exact Io a6.1 (.inl a6.2) ag.1 cT.1 (Below.refl _ _)
 ·have cO:decide (q < (b.length:Int))=false:=decide_eq_false aJ
  have ak:1<=(b.length:Int):=by have:=fY.1;omega
  have Dx:¬ (b.length:Int)=0:=by omega
  have Tx:¬ b= []:=fun h=>Dx (by rw [h];rfl)
  have jm:((b.length:Int) != 0)=true:=bne_iff_ne.mpr (by omega);have fN:wrap64 (q*7)=q*7:=wrap_in (by omega) (by have:=cd.1;omega);have ac9:wrap64 (q*7+3)=q*7+3:=wrap_in (by omega) (by have:=cd.1;omega);obtain ⟨j,aI⟩:∃ j,Int.tmod q (b.length:Int)=j:=⟨_,rfl⟩;obtain ⟨k,J⟩:∃ k,Int.tmod (q*7+3) (b.length:Int)=k:=⟨_,rfl⟩;obtain ⟨d,aO⟩:∃ d,Int.tdiv q (b.length:Int)=d:=⟨_,rfl⟩;have BR:=tmod_in aq ak;have mk:=tmod_in (x:=q*7+3) (by omega) ak;have md:=tdiv_in aq ak;rw [aI] at BR;rw [J] at mk;rw [aO] at md;obtain ⟨cy,mb,az⟩:=Kd.kG cb.1 j BR.1 BR.2;obtain ⟨Vd,On,sS⟩:=Kd.kG cb.1 k mk.1 mk.2;cases mb;obtain rfl:cy=Vd:=(by injection On);obtain ⟨y,aW⟩:∃ y,y=rd b j:=⟨_,rfl⟩;obtain ⟨z,aX⟩:∃ z,z=rd b k:=⟨_,rfl⟩;rw [<-aW] at az;rw [<-aX] at sS;have M5:0<=y/\y<=255:=by rw [aW];exact cl.1.byte _
  have M6:0<=z/\z<=255:=by rw [aX];exact cl.1.byte _
  have mC:=cd.1;have nR:wrap64 y=y:=wrap_in M5.1 (by omega);have ada:wrap64 z=z:=wrap_in M6.1 (by omega);have wd:wrap64 d=d:=wrap_in md.1 (by omega);obtain ⟨X,M7⟩:∃ X,y*131+z*1117+q*29+d*53=X:=⟨_,rfl⟩;have Cf:0<=X/\X<=1099511627776:=by omega
  have W1:wrap64 (y*131)=y*131:=wrap_in (by omega) (by omega);have dY:wrap64 (z*1117)=z*1117:=wrap_in (by omega) (by omega);have wV:wrap64 (y*131+z*1117)=y*131+z*1117:=wrap_in (by omega) (by omega);have acq:wrap64 (q*29)=q*29:=wrap_in (by omega) (by omega);have mH:wrap64 (y*131+z*1117+q*29)=y*131+z*1117+q*29:=wrap_in (by omega) (by omega);have qS:wrap64 (d*53)=d*53:=wrap_in (by omega) (by omega);have Ty:wrap64 (y*131+z*1117+q*29+d*53)=X:=by rw [M7];exact wrap_in Cf.1 Cf.2
  have d2:=tdiv_in (x:=X) Cf.1 (n:=64) (by decide);have acr:wrap64 (Int.tdiv X 64)=Int.tdiv X 64:=wrap_in d2.1 (by omega);have h7:=am (xor_pos Cf.1 Cf.2 d2.1 (by omega));have eT:(0<=j)=True:=eq_true BR.1;have iq:(j < (b.length:Int))=True:=eq_true BR.2;have c3:(0<=k)=True:=eq_true mk.1;have I2:(k < (b.length:Int))=True:=eq_true mk.2;clear aW aX aq aJ M7 Cf d2 BR mk md M5 M6 mC On ak;replace az:=j2 ag.1.below az;replace sS:=j2 ag.1.below sS;go_wp2;go_quiet (fail);rw [Ty];go_wp2;go_ret;have a6:=tmod_in (n:=n) h7.1 (by have:=eD.1;omega);exact Io a6.1 (.inl a6.2) ag.1 cT.1 (iY (Below.refl _ _) _)
def ZC (w0 w W:World) (g:Nat) (b:List Int) (q:Int) (e:Ending) (bM:World):Prop:=∃ (x y z bY:Int),e= .returned (.agg #[.int .i64 x,.int .i64 y,.int .i64 z])/\q<=bY/\bY<=q+3/\ee w0 w g b bY bM/\ic W bM g none
theorem ZD (h:ee w0 w g b q W) (ay:Rd.Code b) (aF:q<=900000) (n:Int):
  Calls Tryz.prog 120 #[.pointer (some ⟨g,0,none⟩),.int .i64 n] W fun e bM=>ZC w0 w W g b q e bM:=by
 have ag:=am (ee.start h.rd h.below h.pos);have cl:=am ay;have bS:=am aF;have py:=am h;clear h ay aF;go_enter Tryz.func120,Tryz.ntmps120;by_cases aS:n=0
 ·have ed:(n == 0)=true:=by simp [aS]
  go_wp2_with (first
  |((with_reducible refine aQ 4 ?_);refine b6 62 ?_;intro cQ e5 wn ad I;have Fj:=am ad;have J':=am (show W.heap.size<=cQ from Nat.le_trans ag.1.size (Nat.le_of_eq e5.symm));clear ad e5;replace ag:=am (ag.1.grow I);clear I;have pz:=Fj;clear Fj;have xo:=ae pz)
  |(go_at_call 40;refine (ig ag.1 cl.1 (by have:=bS.1;omega) _).mono ?_;rintro e wn ⟨x,_,rfl,az,rfl,aO,J⟩;replace pz:=am (ag.1.dH J pz.1 (by decide));replace ag:=am (aO);clear xo;have xo:=ae pz;clear J aO)
  |((with_reducible refine bT 62 4 ?_);refine C7 rfl rfl 62 (.tmp 4) _ rfl rfl rfl pz.1 rfl (by kernel_rfl) (Rf rfl) ?_;intro wn ad U;have zK:=am ad;replace ag:=am (ag.1.grown U (fun k J=>by cases J;exact J'.1));clear pz xo ad U))
  refine bodyPost_ret (sx Tryz.results120 (.cell cQ 62 _ (0,0) _ rfl zK.1 Tryz.underlying62 rfl (by kernel_rfl) .nil)) rfl ?_;exact ⟨_,_,_,_,rfl,by omega,by omega,py.1.back ag.1,ag.1.lo⟩
 have ed:(n == 0)=false:=by simpa using aS
 go_upto_if 14 with (first
 |((with_reducible refine aQ 4 ?_);refine b6 62 ?_;intro cQ e5 wn ad I;have Fj:=am ad;have J':=am (show W.heap.size<=cQ from Nat.le_trans ag.1.size (Nat.le_of_eq e5.symm));clear ad e5;replace ag:=am (ag.1.grow I);clear I;have pz:=Fj;clear Fj;have xo:=ae pz)
 |(go_at_call 40;refine (ig ag.1 cl.1 (by have:=bS.1;omega) 10).mono ?_;rintro e wn ⟨x,_,rfl,az,rfl,aO,J⟩;replace pz:=am (ag.1.dH J pz.1 (by decide));replace ag:=am (aO);clear xo;have xo:=ae pz;clear J aO))
 have fw:x=0\/x=1\/x=2\/x=3\/x=4\/x=5\/x=6\/x=7\/x=8\/x=9:=by omega
 clear az;rcases fw with rfl|rfl|rfl|rfl|rfl|rfl|rfl|rfl|rfl|rfl
 all_goals
  go_wp2_with (first
  |(go_at_call 40;refine (ig ag.1 cl.1 (by have:=bS.1;omega) _).mono ?_;rintro e wn ⟨x,_,rfl,az,rfl,aO,J⟩;replace pz:=am (ag.1.dH J pz.1 (by decide));replace ag:=am (aO);clear xo;have xo:=ae pz;clear J aO)
  |((with_reducible refine bT 62 4 ?_);refine C7 rfl rfl 62 (.tmp 4) _ rfl rfl rfl pz.1 rfl (by kernel_rfl) (Rf rfl) ?_;intro wn ad U;have zK:=am ad;replace ag:=am (ag.1.grown U (fun k J=>by cases J;exact J'.1));clear pz xo ad U))
  refine bodyPost_ret (sx Tryz.results120 (.cell cQ 62 _ (0,0) _ rfl zK.1 Tryz.underlying62 rfl (by kernel_rfl) .nil)) rfl ?_;exact ⟨_,_,_,_,rfl,by omega,by omega,py.1.back ag.1,ag.1.lo⟩
def aai (w0 w W:World) (g:Nat) (b:List Int) (q:Int) (e:Ending) (bM:World):Prop:=∃ (v:Value) (ds:List Deed) (bY:Int),e= .returned v/\kDeed.aC 62 bM W.heap.size (fun _=>True) v ds/\ds.length<=5/\q<=bY/\bY<=q+20/\ee w0 w g b bY bM/\ic W bM g none
theorem Mn (h:ee w0 w g b q W) (ay:Rd.Code b) (aF:q<=800000) (n:Int):
  Calls Tryz.prog 88 #[.pointer (some ⟨g,0,none⟩),.int .i64 n] W fun e bM=>aai w0 w W g b q e bM:=by
 have ag:=am (ee.start h.rd h.below h.pos);have cl:=am ay;have bS:=am aF;have py:=am h;clear h ay aF;go_enter Tryz.func88,Tryz.ntmps88;refine (Classical.em (0 < n)).elim (fun aq=> ?gA) (fun aq=> ?gB)
 case' gA=>
  have ed:decide (0 < n)=true:=decide_eq_true aq;clear aq
  go_upto_if 14 with (first
  |(go_at_call 40;refine (ig ag.1 cl.1 (by have:=bS.1;omega) 3).mono ?_;rintro e wn ⟨x,_,rfl,az,rfl,aO,J⟩;replace ag:=am (aO);clear J aO))
  refine (Classical.em (x=0)).elim (fun mM=> ?gC) (fun mM=> ?gD)
  case gC=>
   have cg:((x:Int) == 0)=true:=by simp [mM]
   have cO:(x == 0)=true:=by simp [mM]
   have Dz:True:=trivial;clear az mM
   go_wp2_with (first
   |(go_at_call 40;clear Dz;refine (ig ag.1 cl.1 (by have:=bS.1;omega) n).mono ?_;rintro e wn ⟨c,_,rfl,ay,rfl,aO,J⟩;replace ag:=am (aO);clear J aO)
   |(go_at_call 40;refine (ig ag.1 cl.1 (by have:=bS.1;omega) 4).mono ?_;rintro e wn ⟨y,_,rfl,aW,rfl,aO,J⟩;replace ag:=am (aO);clear J aO;have nR:wrap64 (1+(y:Int))=1+(y:Int):=wrap_in (by omega) (by omega))
   |((with_reducible refine aQ 27 ?_);refine Kd.jX kDeed (w0:=_) W.heap.size 62 rfl (N:=27) rfl (xs:=([⟨1,0,(c:Int)⟩,⟨3,1,1+(y:Int)⟩,⟨4,0,1⟩,⟨2,(c:Int),0⟩]:List Deed)) (inner:= [.int .i64 1,.int .i64 0,.int .i64 (c:Int),.int .i64 3,.int .i64 1,.int .i64 (1+(y:Int)),.int .i64 4,.int .i64 0,.int .i64 1,.int .i64 2,.int .i64 (c:Int),.int .i64 0]) (ok:=(fun _=>True)) (okp:=(fun _=>True)) (by go_simp<;>rfl) (cp.bO (zg (⟨1,0,(c:Int)⟩:Deed)) (cp.bO (zg (⟨3,1,1+(y:Int)⟩:Deed)) (cp.bO (zg (⟨4,0,1⟩:Deed)) (cp.bO (zg (⟨2,(c:Int),0⟩:Deed)) (cp.none _ _))))) (fun _ _=>trivial) trivial (Below.refl _ _) ag.1.size (by simp) ?_;intro v1 wl bG bZ U fw;clear bZ fw;obtain ⟨A,dW,c'⟩:=Kd.bt bG;subst c';have vf:=am bG;clear bG;have I:=hW U;replace ag:=am (ag.1.grow I);clear I;clear U;have dg:=vf;clear vf))
   go_ret;exact ⟨_,_,_,rfl,dg.1,by simp,by omega,by omega,py.1.back ag.1,ag.1.lo⟩
  have cg:((x:Int) == 0)=false:=by simp [mM]
  have cO:(x == 0)=false:=by simp [mM]
  clear az mM;obtain ⟨b7,yr,Ka⟩:∃ b7,(q<=b7/\b7<=q+1)/\av (ee w0 W g b b7 wn):=⟨_,by omega,ag⟩;clear ag
 case' gB=>
  have ed:decide (0 < n)=false:=decide_eq_false aq;clear aq;obtain ⟨b7,yr,Ka⟩:∃ b7,(q<=b7/\b7<=q+1)/\av (ee w0 W g b b7 W):=⟨_,by omega,ag⟩;clear ag
 all_goals
  have ag:=Ka;clear Ka;have cd:=am yr;have Er:=bS;replace bS:=am (show b7<=900000 by have:=bS.1;omega);clear yr
  go_wp2_with (first
  |((with_reducible refine aQ 28 ?_);refine Kd.jX kDeed (w0:=_) W.heap.size 62 rfl (N:=28) rfl (xs:=([]:List Deed)) (inner:= []) (ok:=(fun _=>True)) (okp:=(fun _=>True)) (by go_simp<;>rfl) (cp.none _ _) (fun _ _=>trivial) trivial (Below.refl _ _) ag.1.size (by simp) ?_;intro v1 wl bG bZ U fw;clear bZ fw;obtain ⟨A,dW,c'⟩:=Kd.bt bG;subst c';have vf:=am bG;clear bG;have I:=hW U;replace ag:=am (ag.1.grow I);clear I;clear U;have dg:=vf;clear vf)
  |(go_at_call 40;refine (ig ag.1 cl.1 (by have:=bS.1;omega) 5).mono ?_;rintro e wn ⟨x,_,rfl,az,rfl,aO,J⟩;replace dg:=am (ag.1.fa J dg.1 (by decide));replace ag:=am (aO);clear J aO;have Aq:x<=4:=(by omega)))
  obtain ⟨m,hm⟩:∃ m:Nat,(m:Int)=1+(x:Int):=⟨1+x,by omega⟩;rw [<-hm];have fo:=am (show m<=5 by omega);have Oo:=cd;clear hm Aq az;go_loopw [6,7] (fun v j af=>∃ (m:Nat) (bY:Int) (ds:List Deed),j= .int .i64 m/\ds.length+m<=5/\q<=bY/\bY+3*m<=q+20/\av (ee w0 W g b bY af)/\av (kDeed.aC 62 af W.heap.size (fun _=>True) v ds)) (fun _ j _=>(intOf j).toNat)
  case atStart=>exact ⟨m,_, [],rfl,by have:=fo.1;simp;omega,by have:=Oo.1;omega,by have:=Oo.1;have:=fo.1;omega,ag,dg⟩
  case round=>
   clear ag dg;obtain ⟨m,bY,ds,rfl,ak,nz,Hj,ag,dg⟩:=hrel;obtain ⟨A,dW,c'⟩:=Kd.bt dg.1;subst c';by_cases hm:0 < m
   ·have dh:(0:Int) < (m:Int):=by omega
    have yg:wrap64 ((m:Int) - 1)=((m - 1:Nat):Int):=by rw [wrap_in (by omega) (by omega)];omega
    replace bS:=am (show bY<=900000 by have:=Er.1;omega);have dq:=am ak
    go_wp2_with (first
    |(go_at_call 120;refine (ZD ag.1 cl.1 bS.1 n).mono ?_;rintro e wn ⟨x,y,z,l5,rfl,Ve,Vf,aO,J⟩;replace dg:=am (ag.1.fa J dg.1 (by decide));replace ag:=am (aO);clear J aO)
    |((with_reducible refine jJ (b:=.append) (xs:=#[.tmp 36,.tmp 40]) rfl ?_);at_builtin;refine Kd.mY kDeed (w0:=_) W.heap.size rfl (.tmp 36) (.tmp 40) 53 62 (.agg #[.int .i64 0,.int .i64 0,.int .i64 0]) 24 rfl Tryz.underlying53 (by kernel_rfl) rfl (by decide) (by decide) _ ds (⟨x,y,z⟩:Deed) [.int .i64 x,.int .i64 y,.int .i64 z] (fun _=>True) (fun _=>False) rfl rfl (zg (⟨x,y,z⟩:Deed)) (fun _ J=>J.elim) (fun _ _=>trivial) dg.1 (Below.refl _ _) ag.1.size (by have:=dq.1;omega) ?_;intro v1 w1 aT I U _;clear I;have nA:=am aT;replace ag:=am (ag.1.row dg.1 U);clear aT U dg;have dg:=nA;clear nA))
    go_roundw
    case rel=>exact ⟨m - 1,_,ds ++ [⟨x,y,z⟩],by go_num,by rw [List.length_append];simp only [List.length_singleton];omega,by omega,by omega,ag,dg⟩
    case measure=>simp [intOf];omega
   ·have dh:¬ (0:Int) < (m:Int):=by omega
    go_wp2;go_ret;exact ⟨_,_,_,rfl,dg.1,by omega,nz,by omega,py.1.back ag.1,ag.1.lo⟩
def ZE (w0 w W:World) (g:Nat) (b:List Int) (q:Int) (e:Ending) (bM:World):Prop:=∃ (v:Value) (cq:List Act) (bY:Int),e= .returned v/\kAct.aC 55 bM W.heap.size (fun _=>True) v cq/\(cq.length<=3/\∀ a ∈ cq,Rd.Bc a)/\q<=bY/\bY<=q+91/\ee w0 w g b bY bM/\ic W bM g none
theorem ZF (h:ee w0 w g b q W) (ay:Rd.Code b) (aF:q<=600000) (hx gJ n:Int):
  Calls Tryz.prog 87 #[.pointer (some ⟨g,0,none⟩),.int .i64 hx,.int .i64 gJ,.int .i64 n] W fun e bM=>ZE w0 w W g b q e bM:=by
 have ag:=am (ee.start h.rd h.below h.pos);have cl:=am ay;have bS:=am aF;have py:=am h;clear h ay aF;go_enter Tryz.func87,Tryz.ntmps87
 go_wp2_with (first
 |((with_reducible refine aQ 12 ?_);refine Kd.jX kAct (w0:=_) W.heap.size 55 rfl (N:=12) rfl (xs:=([]:List Act)) (inner:= []) (ok:=(fun _=>True)) (okp:=(fun _=>True)) (by go_simp<;>rfl) (cp.none _ _) (fun _ _=>trivial) trivial (Below.refl _ _) ag.1.size (by simp) ?_;intro v1 wl bG bZ U fw;clear bZ fw;obtain ⟨A,dW,c'⟩:=Kd.bt bG;subst c';have vf:=am bG;clear bG;have I:=hW U;replace ag:=am (ag.1.grow I);clear I;clear U;have dg:=vf;clear vf)
 |(go_at_call 40;refine (ig ag.1 cl.1 (by have:=bS.1;omega) 3).mono ?_;rintro e wn ⟨x,_,rfl,az,rfl,aO,J⟩;replace dg:=am (ag.1.fa J dg.1 (by decide));replace ag:=am (aO);clear J aO;have Aq:x<=2:=(by omega)))
 obtain ⟨m,hm⟩:∃ m:Nat,(m:Int)=1+(x:Int):=⟨1+x,by omega⟩;rw [<-hm];have fo:=am (show m<=3 by omega);have Er:=bS;clear hm Aq az;go_loopw [9,10] (fun v j af=>∃ (m:Nat) (bY:Int) (cq:List Act),j= .int .i64 m/\cq.length+m<=3/\q<=bY/\bY+30*m<=q+91/\av (∀ a ∈ cq,Rd.Bc a)/\av (ee w0 W g b bY af)/\av (kAct.aC 55 af W.heap.size (fun _=>True) v cq)) (fun _ j _=>(intOf j).toNat)
 case atStart=>exact ⟨m,_, [],rfl,by have:=fo.1;simp;omega,by omega,by have:=fo.1;omega,⟨fun _ h=>by cases h⟩,ag,dg⟩
 case round=>
  clear ag dg;obtain ⟨m,bY,cq,rfl,ak,nz,Hj,fK,ag,dg⟩:=hrel;obtain ⟨A,dW,c'⟩:=Kd.bt dg.1;subst c';by_cases hm:0 < m
  ·have dh:(0:Int) < (m:Int):=by omega
   have yg:wrap64 ((m:Int) - 1)=((m - 1:Nat):Int):=by rw [wrap_in (by omega) (by omega)];omega
   replace bS:=am (show bY<=700000 by have:=Er.1;omega);have dq:=am ak;have fo:=am hm
   go_upto_if 29 with (first
   |(go_at_call 40;refine (ig ag.1 cl.1 (by have:=bS.1;omega) _).mono ?_;rintro e wn ⟨x,_,rfl,az,rfl,aO,J⟩;replace dg:=am (ag.1.fa J dg.1 (by decide));replace ag:=am (aO);clear J aO))
   have fw:x=0\/x=1\/(x=2\/x=3\/x=4\/x=5)\/6<=x:=by omega
   clear az;rcases fw with rfl|rfl | fw | hp
   ·go_upto_if 33 with (first
    |(go_at_call 40;refine (ig ag.1 cl.1 (by have:=bS.1;omega) _).mono ?_;rintro e wn ⟨y,_,rfl,aW,rfl,aO,J⟩;replace dg:=am (ag.1.fa J dg.1 (by decide));replace ag:=am (aO);clear J aO))
    by_cases vV:y=0
    ·have cg:((y:Int) == 0)=true:=by simp [vV]
     have cO:(y == 0)=true:=by simp [vV]
     clear aW vV
     go_wp2_with (first
     |((with_reducible refine jJ (b:=.append) (xs:=#[.tmp 34,.tmp 36]) rfl ?_);at_builtin;refine Kd.mY kAct (w0:=_) W.heap.size rfl (.tmp 34) (.tmp 36) 48 55 (.agg #[.int .i64 0,.slice none 0 0,.slice none 0 0,.int .i64 0]) 64 rfl Tryz.underlying48 (by kernel_rfl) rfl (by decide) (by decide) _ cq (⟨3, [], [],0⟩:Act) [.int .i64 3,.slice none 0 0,.slice none 0 0,.int .i64 0] (fun _=>True) (fun _=>False) rfl rfl (vx (⟨3, [], [],0⟩:Act) (Kd.ht _ _ _ _ _) (Kd.ht _ _ _ _ _)) (fun _ J=>J.elim) (fun _ _=>trivial) dg.1 (Below.refl _ _) ag.1.size (by have:=dq.1;omega) ?_;intro v1 w1 aT I U _;clear I;have nA:=am aT;replace ag:=am (ag.1.row dg.1 U);clear aT U dg;have dg:=nA;clear nA))
     go_roundw
     case rel=>exact ⟨m - 1,_,cq ++ [⟨3, [], [],0⟩],by go_num,by rw [List.length_append];simp only [List.length_singleton];omega,by omega,by omega,⟨Rd.FV fK.1 ⟨by simp,by simp⟩⟩,ag,dg⟩
     case measure=>simp [intOf];omega
    ·have cg:((y:Int) == 0)=false:=by simp [vV]
     have cO:(y == 0)=false:=by simp [vV]
     clear aW vV;go_wp2;go_roundw
     case rel=>exact ⟨m - 1,_,cq,by go_num,by omega,by omega,by omega,fK,ag,dg⟩
     case measure=>simp [intOf];omega
   ·go_wp2_with (first
    |(go_at_call 40;refine (ig ag.1 cl.1 (by have:=bS.1;omega) _).mono ?_;rintro e wn ⟨y,_,rfl,aW,rfl,aO,J⟩;replace dg:=am (ag.1.fa J dg.1 (by decide));replace ag:=am (aO);clear J aO)
    |((with_reducible refine jJ (b:=.append) (xs:=#[.tmp 40,.tmp 44]) rfl ?_);at_builtin;refine Kd.mY kAct (w0:=_) W.heap.size rfl (.tmp 40) (.tmp 44) 48 55 (.agg #[.int .i64 0,.slice none 0 0,.slice none 0 0,.int .i64 0]) 64 rfl Tryz.underlying48 (by kernel_rfl) rfl (by decide) (by decide) _ cq (⟨4, [], [],(y:Int)⟩:Act) [.int .i64 4,.slice none 0 0,.slice none 0 0,.int .i64 (y:Int)] (fun _=>True) (fun _=>False) rfl rfl (vx (⟨4, [], [],(y:Int)⟩:Act) (Kd.ht _ _ _ _ _) (Kd.ht _ _ _ _ _)) (fun _ J=>J.elim) (fun _ _=>trivial) dg.1 (Below.refl _ _) ag.1.size (by have:=dq.1;omega) ?_;intro v1 w1 aT I U _;clear I;have nA:=am aT;replace ag:=am (ag.1.row dg.1 U);clear aT U dg;have dg:=nA;clear nA))
    go_roundw
    case rel=>exact ⟨m - 1,_,cq ++ [⟨4, [], [],(y:Int)⟩],by go_num,by rw [List.length_append];simp only [List.length_singleton];omega,by omega,by omega,⟨Rd.FV fK.1 ⟨by simp,by simp⟩⟩,ag,dg⟩
    case measure=>simp [intOf];omega
   ·rcases fw with rfl|rfl|rfl|rfl
    all_goals
     by_cases aJ:wrap64 (hx+1) < gJ
     ·have iH:decide (wrap64 (hx+1) < gJ)=true:=decide_eq_true aJ
      clear aJ;have Dz:True:=trivial
      go_upto_if 67 with (first
      |(go_at_call 40;clear Dz;refine (ig ag.1 cl.1 (by have:=bS.1;omega) _).mono ?_;rintro e wn ⟨z,_,rfl,aX,rfl,aO,J⟩;replace dg:=am (ag.1.fa J dg.1 (by decide));replace ag:=am (aO);clear J aO)
      |((with_reducible refine aQ 64 ?_);obtain ⟨z0,jQ⟩:∃ z,z=wn.heap.size:=⟨_,rfl⟩;replace dg:=am (Kd.cG (ok':=fun k=>k < z0) (Kd.fW dg.1) (fun k J=>by rw [jQ];exact J.2.2.1));refine Kd.jX (Kd.int .i64) (w0:=_) W.heap.size 3 rfl (N:=64) rfl (xs:=([wrap64 (wrap64 (hx+1)+(z:Int))]:List Int)) (inner:= [.int .i64 (wrap64 (wrap64 (hx+1)+(z:Int)))]) (ok:=(fun k=>some k ≠ (Value.slice A cq.length dW).ownBlock)) (okp:=(fun _=>False)) (by go_simp<;>rfl) (cp.one rfl (cp.none _ _)) (fun _ J=>J.elim) (fun he=>by have:=Kd.HH dg.1 _ he.symm;omega) (Below.refl _ _) ag.1.size (by simp) ?_;intro v1 wl bG bZ U fw;have zJ:=am (show ∀ k,v1.ownBlock=some k->z0<=k from fun k J=>by obtain ⟨tv,dE,hle⟩:=fw;rw [dE] at J;cases J;rw [jQ];exact hle);clear jQ;clear bZ fw;obtain ⟨Tz,eJ,c'⟩:=Kd.bt bG;subst c';have P':=am bG;clear bG;have I:=hW U;replace dg:=c9 dg I;replace ag:=am (ag.1.grow I);clear I;clear U;have qT:=P';clear P')
      |(go_at_call 40;refine (ig ag.1 cl.1 (by have:=bS.1;omega) _).mono ?_;rintro e wn ⟨y,_,rfl,aW,rfl,aO,J⟩;replace dg:=am (ag.1.fa J dg.1 (by decide));replace qT:=am (ag.1.fa J qT.1 (by decide));replace ag:=am (aO);clear J aO))
      by_cases vV:0 < y
      ·have p5:(0:Int) < (y:Int):=by omega
       clear aW
       go_wp2_with (first
       |(go_at_call 40;refine (ig ag.1 cl.1 (by have:=bS.1;omega) _).mono ?_;rintro e wn ⟨jm,_,rfl,lC,rfl,aO,J⟩;replace dg:=am (ag.1.fa J dg.1 (by decide));replace qT:=am (ag.1.fa J qT.1 (by decide));replace ag:=am (aO);clear J aO)
       |((with_reducible refine jJ (b:=.append) (xs:=#[.tmp 68,.tmp 78]) rfl ?_);at_builtin;refine Kd.mY (Kd.int .i64) (w0:=_) W.heap.size rfl (.tmp 68) (.tmp 78) 23 3 (.int .i64 0) 8 rfl Tryz.underlying23 od rfl (by decide) (by decide) _ [wrap64 (wrap64 (hx+1)+(z:Int))] (wrap64 (wrap64 (hx+1)+(jm:Int))) [.int .i64 (wrap64 (wrap64 (hx+1)+(jm:Int)))] (fun k=>some k ≠ (Value.slice A cq.length dW).ownBlock) (fun _=>False) rfl rfl rfl (fun _ J=>J.elim) (fun k J he=>by have:=Kd.HH dg.1 k he.symm;omega) qT.1 (Below.refl _ _) ag.1.size (by simp) ?_;intro v1 w1 aT I U _;clear I;have Oq:=am aT;replace ag:=am (ag.1.row qT.1 U);have Vg:=qT;have Es:=am U;clear aT U qT;have qT:=Oq;clear Oq;replace dg:=am (Kd.cG (ok':=fun _=>True) (Kd.eI dg.1 (fun k J aJ=>Es.out.5 k aJ (fun he=>by have:=zJ.1 k he.symm;omega))) (fun _ _=>trivial));clear Vg Es zJ;obtain ⟨Vh,Vi,c'⟩:=Kd.bt qT.1;subst c')
       |((with_reducible refine jJ (b:=.append) (xs:=#[.tmp 80,.tmp 83]) rfl ?_);at_builtin;refine Kd.mY kAct (w0:=_) W.heap.size rfl (.tmp 80) (.tmp 83) 48 55 (.agg #[.int .i64 0,.slice none 0 0,.slice none 0 0,.int .i64 0]) 64 rfl Tryz.underlying48 (by kernel_rfl) rfl (by decide) (by decide) _ cq (⟨2, [], [wrap64 (wrap64 (hx+1)+(z:Int)),wrap64 (wrap64 (hx+1)+(jm:Int))],0⟩:Act) [.int .i64 2,.slice none 0 0,.slice Vh 2 Vi,.int .i64 0] (fun _=>True) (fun k=>some k ≠ (Value.slice A cq.length dW).ownBlock) rfl rfl (vx (⟨2, [], [wrap64 (wrap64 (hx+1)+(z:Int)),wrap64 (wrap64 (hx+1)+(jm:Int))],0⟩:Act) (Kd.ht _ _ _ _ _) qT.1) (fun k J=>⟨trivial,J⟩) (fun _ _=>trivial) dg.1 (Below.refl _ _) ag.1.size (by have:=dq.1;omega) ?_;intro v1 w1 aT I U _;clear I;have nA:=am aT;replace ag:=am (ag.1.row dg.1 U);clear aT U dg qT;have dg:=nA;clear nA))
       go_roundw
       case rel=>exact ⟨m - 1,_,cq ++ [⟨2, [], [wrap64 (wrap64 (hx+1)+(z:Int)),wrap64 (wrap64 (hx+1)+(jm:Int))],0⟩],by go_num,by rw [List.length_append];simp only [List.length_singleton];omega,by omega,by omega,⟨Rd.FV fK.1 ⟨by simp,by simp⟩⟩,ag,dg⟩
       case measure=>simp [intOf];omega
      ·have p5:¬ (0:Int) < (y:Int):=by omega
       replace dg:=am (Kd.cG (ok':=fun _=>True) dg.1 (fun _ _=>trivial));clear aW zJ
       go_wp2_with (first
       |((with_reducible refine jJ (b:=.append) (xs:=#[.tmp 80,.tmp 83]) rfl ?_);at_builtin;refine Kd.mY kAct (w0:=_) W.heap.size rfl (.tmp 80) (.tmp 83) 48 55 (.agg #[.int .i64 0,.slice none 0 0,.slice none 0 0,.int .i64 0]) 64 rfl Tryz.underlying48 (by kernel_rfl) rfl (by decide) (by decide) _ cq (⟨2, [], [wrap64 (wrap64 (hx+1)+(z:Int))],0⟩:Act) [.int .i64 2,.slice none 0 0,.slice Tz 1 eJ,.int .i64 0] (fun _=>True) (fun k=>some k ≠ (Value.slice A cq.length dW).ownBlock) rfl rfl (vx (⟨2, [], [wrap64 (wrap64 (hx+1)+(z:Int))],0⟩:Act) (Kd.ht _ _ _ _ _) qT.1) (fun k J=>⟨trivial,J⟩) (fun _ _=>trivial) dg.1 (Below.refl _ _) ag.1.size (by have:=dq.1;omega) ?_;intro v1 w1 aT I U _;clear I;have nA:=am aT;replace ag:=am (ag.1.row dg.1 U);clear aT U dg qT;have dg:=nA;clear nA))
       go_roundw
       case rel=>exact ⟨m - 1,_,cq ++ [⟨2, [], [wrap64 (wrap64 (hx+1)+(z:Int))],0⟩],by go_num,by rw [List.length_append];simp only [List.length_singleton];omega,by omega,by omega,⟨Rd.FV fK.1 ⟨by simp,by simp⟩⟩,ag,dg⟩
       case measure=>simp [intOf];omega
     ·have iH:decide (wrap64 (hx+1) < gJ)=false:=decide_eq_false aJ
      clear aJ;go_wp2;go_roundw
      case rel=>exact ⟨m - 1,_,cq,by go_num,by omega,by omega,by omega,fK,ag,dg⟩
      case measure=>simp [intOf];omega
   ·have kK:((x:Int) == 0)=false:=by simp;omega
    have hq:((x:Int) == 1)=false:=by simp;omega
    have pZ:((x:Int) == 2)=false:=by simp;omega
    have iF:((x:Int) == 3)=false:=by simp;omega
    have zp:((x:Int) == 4)=false:=by simp;omega
    have Gu:((x:Int) == 5)=false:=by simp;omega
    have DA:=am (Kd.HH dg.1);have kN:=am ag.1.size
    go_wp2_with (first
    |(go_at_call 88;refine (Mn ag.1 cl.1 (by have:=bS.1;omega) n).mono ?_;rintro e wd ⟨v,ds,l5,rfl,bp,n0,Ve,Vf,aO,J⟩;replace dg:=am (ag.1.fa J dg.1 (by decide));replace ag:=am (aO);clear J aO;obtain ⟨wH,GF,c'⟩:=Kd.bt bp;subst c';have vI:=am bp;have s0:=am n0;clear bp n0)
    |((with_reducible refine jJ (b:=.append) (xs:=#[.tmp 22,.tmp 27]) rfl ?_);at_builtin;refine Kd.mY kAct (w0:=_) W.heap.size rfl (.tmp 22) (.tmp 27) 48 55 (.agg #[.int .i64 0,.slice none 0 0,.slice none 0 0,.int .i64 0]) 64 rfl Tryz.underlying48 (by kernel_rfl) rfl (by decide) (by decide) _ cq (⟨1,ds, [],0⟩:Act) [.int .i64 1,.slice wH ds.length GF,.slice none 0 0,.int .i64 0] (fun _=>True) (fun k=>wn.heap.size<=k) rfl rfl (vx (⟨1,ds, [],0⟩:Act) (Kd.ft (Kd.cG (Kd.fW vI.1) (fun k J=>J.2.1)) kN.1) (Kd.ht _ _ _ _ _)) (fun k J=>⟨trivial,fun he=>by have:=DA.1 k he.symm;omega⟩) (fun _ _=>trivial) dg.1 (Below.refl _ _) ag.1.size (by have:=dq.1;omega) ?_;intro v1 w1 aT I U _;clear I;have nA:=am aT;replace ag:=am (ag.1.row dg.1 U);clear aT U dg vI;have dg:=nA;clear nA))
    go_roundw
    case rel=>exact ⟨m - 1,_,cq ++ [⟨1,ds, [],0⟩],by go_num,by rw [List.length_append];simp only [List.length_singleton];omega,by omega,by omega,⟨Rd.FV fK.1 ⟨s0.1,by simp⟩⟩,ag,dg⟩
    case measure=>simp [intOf];omega
  ·have dh:¬ (0:Int) < (m:Int):=by omega
   go_wp2;go_ret;exact ⟨_,_,_,rfl,dg.1,⟨by omega,fK.1⟩,nz,by omega,py.1.back ag.1,ag.1.lo⟩
def aaj (w0 w W:World) (g:Nat) (b:List Int) (q:Int) (e:Ending) (bM:World):Prop:=∃ (v:Value) (aY:List Int) (bY:Int),e= .returned v/\(Kd.int .i64).aC 3 bM W.heap.size (fun _=>True) v aY/\aY.length<=200/\q<=bY/\bY<=q+1000/\ee w0 w g b bY bM/\ic W bM g none
def lenOf:Value->Nat
 | .slice _ n _=>n
 | _=>0
theorem aak (h:ee w0 w g b q W) (ay:Rd.Code b) (aF:q<=600000) {n:Int} (ue:0<=n) (m8:n<=190):
  Calls Tryz.prog 55 #[.pointer (some ⟨g,0,none⟩),.int .i64 n] W fun e bM=>aaj w0 w W g b q e bM:=by
 have ag:=am (ee.start h.rd h.below h.pos);have cl:=am ay;have bS:=am aF;have py:=am h;clear h ay aF;have rD:=am ue;have sA:=am m8;clear ue m8;go_enter Tryz.func55,Tryz.ntmps55
 go_wp2_with (first
 |((with_reducible refine aQ 8 ?_);refine Kd.jX (Kd.int .i64) (w0:=_) W.heap.size 3 rfl (N:=8) rfl (xs:=([]:List Int)) (inner:= []) (ok:=(fun _=>True)) (okp:=(fun _=>True)) (by go_simp<;>rfl) (cp.none _ _) (fun _ _=>trivial) trivial (Below.refl _ _) ag.1.size (by simp) ?_;intro v1 wl bG bZ U fw;clear bZ fw;obtain ⟨A,dW,c'⟩:=Kd.bt bG;subst c';have vf:=am bG;clear bG;have I:=hW U;replace ag:=am (ag.1.grow I);clear I;clear U;have dg:=vf;clear vf))
 have Er:=bS;go_loopw [5] (fun v af=>∃ (bY:Int) (aY:List Int),(aY.length:Int)<=n+4/\q<=bY/\bY<=q+3*aY.length/\av (ee w0 W g b bY af)/\av ((Kd.int .i64).aC 3 af W.heap.size (fun _=>True) v aY)) (fun v _=>(n+5).toNat - lenOf v)
 case atStart=>exact ⟨_, [],by have:=rD.1;simp;omega,by omega,by simp,ag,dg⟩
 case round=>
  clear ag dg;obtain ⟨bY,aY,ak,nz,Hj,ag,dg⟩:=hrel;obtain ⟨A,dW,c'⟩:=Kd.bt dg.1;subst c';have dq:=am ak;have Ot:=am nz;have Ou:=am Hj;replace bS:=am (show bY<=700000 by have:=Er.1;have:=sA.1;omega);clear ak nz Hj;by_cases aJ:(aY.length:Int) < n
  ·have Vj:=am aJ
   have Dz:True:=trivial
   go_wp2_with (first
   |(go_at_call 40;clear Dz;refine (ig ag.1 cl.1 (by have:=bS.1;omega) _).mono ?_;rintro e wn ⟨t,_,rfl,a6,rfl,aO,J⟩;replace dg:=am (ag.1.fa J dg.1 (by decide));replace ag:=am (aO);clear J aO)
   |(go_at_call 40;refine (ig ag.1 cl.1 (by have:=bS.1;omega) 5).mono ?_;rintro e wn ⟨x,_,rfl,az,rfl,aO,J⟩;replace dg:=am (ag.1.fa J dg.1 (by decide));replace ag:=am (aO);clear J aO;have Aq:x<=4:=(by omega)))
   obtain ⟨m,hm⟩:∃ m:Nat,(m:Int)=1+(x:Int):=⟨1+x,by omega⟩;rw [<-hm];have fo:=am (show 1<=m/\m<=5 by omega);clear hm Aq az a6 aJ;go_loopw [5,7] (fun v j af=>∃ (rL:Nat) (ur:List Int),j= .int .i64 rL/\ur.length+rL=aY.length+m/\av (ee w0 W g b (bY+1+1) af)/\av ((Kd.int .i64).aC 3 af W.heap.size (fun _=>True) v ur)) (fun _ j _=>(intOf j).toNat)
   case atStart=>exact ⟨m,aY,rfl,rfl,ag,dg⟩
   case round=>
    clear ag dg;obtain ⟨rL,ur,rfl,vW,ag,dg⟩:=hrel;obtain ⟨zs,adb,c'⟩:=Kd.bt dg.1;subst c';have s7:=am vW;by_cases hm:0 < rL
    ·have dh:(0:Int) < (rL:Int):=by omega
     have yg:wrap64 ((rL:Int) - 1)=((rL - 1:Nat):Int):=by rw [wrap_in (by omega) (by have:=fo.1;have:=dq.1;have:=sA.1;omega)];omega
     go_wp2_with (first
     |((with_reducible refine jJ (b:=.append) (xs:=#[.tmp 22,.tmp 24]) rfl ?_);at_builtin;refine Kd.mY (Kd.int .i64) (w0:=_) W.heap.size rfl (.tmp 22) (.tmp 24) 23 3 (.int .i64 0) 8 rfl Tryz.underlying23 od rfl (by decide) (by decide) _ ur (t:Int) [.int .i64 (t:Int)] (fun _=>True) (fun _=>False) rfl rfl rfl (fun _ J=>J.elim) (fun _ _=>trivial) dg.1 (Below.refl _ _) ag.1.size (by have:=s7.1;have:=dq.1;have:=fo.1;have:=sA.1;omega) ?_;intro v1 w1 aT I U _;clear I;have nA:=am aT;replace ag:=am (ag.1.row dg.1 U);clear aT U dg;have dg:=nA;clear nA))
     go_roundw
     case rel=>exact ⟨rL - 1,ur ++ [(t:Int)],by go_num,by rw [List.length_append];simp only [List.length_singleton];omega,ag,dg⟩
     case measure=>simp [intOf];omega
    ·have dh:¬ (0:Int) < (rL:Int):=by omega
     have Vk:=am (show rL=0 by omega);clear vW
     go_upto_if 28 with (first
     |(go_at_call 40;refine (ig ag.1 cl.1 (by have:=bS.1;omega) 40).mono ?_;rintro e wn ⟨x,_,rfl,az,rfl,aO,J⟩;replace dg:=am (ag.1.fa J dg.1 (by decide));replace ag:=am (aO);clear J aO))
     have gf:(ur.length:Int)=aY.length+m:=by have:=s7.1;have:=Vk.1;omega
     have ej:=fo.1;have b2:=dq.1;have b3:=Vj.1;have b4:=Ot.1;have b5:=Ou.1;have sJ:=sA.1;have ab:=am (show ur.length<=200/\(ur.length:Int)<=n+4/\q<=bY+1+1+1/\bY+1+1+1<=q+3*ur.length/\aY.length < ur.length/\(aY.length:Int) < n by omega);clear gf ej b2 b3 b4 b5 sJ az;by_cases mM:x=0
     ·have cg:((x:Int) == 0)=true:=by simp [mM]
      have cO:(x == 0)=true:=by simp [mM]
      clear mM;go_wp2;go_ret;exact ⟨_,_,_,rfl,dg.1,ab.1.1,ab.1.2.2.1,by have:=ab.1;omega,py.1.back ag.1,ag.1.lo⟩
     ·have cg:((x:Int) == 0)=false:=by simp [mM]
      have cO:(x == 0)=false:=by simp [mM]
      clear mM;go_wp2;go_roundw
      case rel=>exact ⟨_,ur,ab.1.2.1,ab.1.2.2.1,ab.1.2.2.2.1,ag,dg⟩
      case measure=>have:=ab.1;simp [lenOf];omega
  ·have hle:n<=(aY.length:Int):=by omega
   obtain ⟨i0,lh,_,cP,_⟩:=info_parts od;have hcut:=QO (P:=Tryz.prog) 23 3 .i64 Tryz.underlying23 lh A aY.length dW n rD.1 hle (Kd.ie dg.1).2.1;have ao:=Kd.Yh (m:=n.toNat) dg.1 (by omega);obtain ⟨cH,zY⟩:∃ cH,cH=aY.take n.toNat:=⟨_,rfl⟩;have Ov:cH.length=n.toNat:=by rw [zY,List.length_take];omega
   rw [<-zY] at ao;rw [<-Ov] at ao hcut;have eT:(0<=n)=True:=eq_true rD.1;have iq:(n<=(aY.length:Int))=True:=eq_true hle;have sH:=am ao;have ab:=am (show cH.length<=200/\bY<=q+1000 by have:=sA.1;have:=dq.1;have:=Ou.1;omega);clear ao dg zY lh cP hle Ov;go_wp2;go_ret;exact ⟨_,cH,_,rfl,sH.1,ab.1.1,Ot.1,ab.1.2,py.1.back ag.1,ag.1.lo⟩
end
theorem Y3:(Tryz.prog.info? 5).map (fun i=>(i.zero,i.size,i.bytes))=some (some (.int .u8 0),1,1):=by kernel_rfl
end Go.Proofs.YteajdhhmkjblnaaGreatDoor.Eq
namespace Go.Proofs.YteajdhhmkjblnaaGreatDoor.Eq
open Go.RowKit Go.Proofs.YteajdhhmkjblnaaGreatDoorW.PrintWords Go.Proofs.YteajdhhmkjblnaaGreatDoorW.PrintLast Go.Proofs.YteajdhhmkjblnaaGreatDoorW.PrintMore
theorem Yt:k2 (⟨[1], [[(⟨2, [], [1,1],0⟩:Act)], [(⟨1, [⟨1,0,0⟩,⟨4,0,0⟩,⟨2,0,0⟩], [],0⟩:Act)]]⟩:Prog)=true:=by rfl
theorem Yu:jI (⟨[1], [[(⟨2, [], [1,1],0⟩:Act)], [(⟨1, [⟨1,0,0⟩,⟨4,0,0⟩,⟨2,0,0⟩], [],0⟩:Act)]]⟩:Prog):=Im (by decide) (by decide) (by simp [Rd.Bc])
theorem zj {m n:Nat} (h:m < n) (aS:n<=10):wrap64 ((m:Int)+1)=(m:Int)+1:=Rd.wrap_in (by omega) (by omega)
theorem Bd {n m:Nat} (h:m < n):n - (intOf (.int .i64 ((m:Int)+1))).toNat < n - (intOf (.int .i64 (m:Int))).toNat:=by simp [intOf];omega
theorem CJ {n m:Nat} (h:m < n) (hw:wrap64 ((m:Int)+1)=(m:Int)+1):n - (intOf (.int .i64 (wrap64 ((m:Int)+1)))).toNat < n - (intOf (.int .i64 (m:Int))).toNat:=by rw [hw];exact Bd h
section
variable {P:Program} {a:Go.Act} {c2:Oper} {Q:Exit->Go.Act->World->Prop}
theorem LD {N:Option Tmp} {w:World} {e:TypeId} {c:Value} {K:Go.Act->World->Prop} {cH:Nat->Option Bool} (hw:Region.wanted c2 cH=true) (cz:c2.dst=N) (iT:(execOp a.eval c2).run P w= .ok (.value (.slice (some ⟨w.heap.size,0,none⟩) 1 1)) (w.alloc (.cells #[c] e (0,0))))
  (h:K (a.put N (.slice (some ⟨w.heap.size,0,none⟩) 1 1)) (w.alloc (.cells #[c] e (0,0)))):if Region.wanted c2 cH=true then Oper.wp P c2 a w K Q else K (a.put N undef) w:=by
 rw [if_pos hw];subst cz;unfold Oper.wp;rw [iT];exact h
end
def ZG (w0 w:World) (g:Nat) (b:List Int) (bz:Int) (e:Ending) (af:World):Prop:=∃ (p:Prog) (aG a8:Value) (q:Int),e= .returned (.agg #[aG,a8])/\k2 p=true/\jI p/\1<=p.cells.length/\(Kd.int .i64).aC 3 af w.heap.size (fun _=>True) aG p.cells/\(Kd.slice 55 kAct).aC 48 af w.heap.size (fun _=>True) a8 p.an/\Rd.IsS101 w0 af g b q/\bz<=q/\q<=bz+5000/\Below w0.heap.size w0 af/\ic w af g none
theorem abU (w0 w:World) (g:Nat) (b:List Int) (bz:Int) (j4:Rd.IsS101 w0 w g b bz) (dt:Below w0.heap.size w0 w) (ay:Rd.Code b) (aq:0<=bz) (h1:bz<=500000):
  Calls Tryz.prog 59 #[.pointer (some ⟨g,0,none⟩)] w fun e af=>ZG w0 w g b bz e af:=by
 have ag:=am (ee.start j4 dt aq);have cl:=am ay;have lH:=am h1;clear j4 dt ay aq h1;go_enter Tryz.func59,Tryz.ntmps59
 go_wp2_with (first
 |((with_reducible refine aQ 2 ?_);refine b6 26 ?_;intro fp e5 wn ad I;have h':=am ad;have s8:=am (show w.heap.size<=fp from Nat.le_trans ag.1.size (Nat.le_of_eq e5.symm));clear ad e5;replace ag:=am (ag.1.grow I);clear I;have ax:=h';clear h';have bu:=ae ax))
 go_loopw [3] (fun j af=>∃ i:Nat,i<=10/\j= .int .i64 i/\∃ q,av (ee w0 w g b q af)/\av (bz<=q/\q<=bz+420*(i:Int))/\av (af.heap[fp]? = some (.cells #[.slice none 0 0,.slice none 0 0] 26 (0,0)))) (fun j _=>10 - (intOf j).toNat)
 case atStart=>exact ⟨0,by decide,rfl,_,ag,⟨by omega⟩,ax⟩
 case round=>
  clear ag ax bu;obtain ⟨i,aa,rfl,q,ag,cd,ax⟩:=hrel;have bu:=ae ax;by_cases aJ:i < 10
  ·have b7:(i:Int) < 10:=by omega
   go_wp2_with (first
   |((with_reducible refine aQ 13 ?_);refine Kd.jX (Kd.int .i64) (w0:=_) w.heap.size 3 rfl (N:=13) rfl (xs:=([]:List Int)) (inner:= []) (ok:=(fun _=>True)) (okp:=(fun _=>True)) (by go_simp<;>rfl) (cp.none _ _) (fun _ _=>trivial) trivial (Below.refl _ _) ag.1.size (by simp) ?_;intro v1 wl bG bZ U fw;clear bZ fw;obtain ⟨a0,bL,c'⟩:=Kd.bt bG;subst c';have Fk:=am (show (Kd.int .i64).aC 3 wl w.heap.size (fun _=>True) (.slice a0 0 bL) ([]:List Int) from bG);clear bG;have I:=hW U;replace ax:=aV ax I;replace ag:=am (ag.1.grow I);clear bu;have bu:=ae ax;clear I U;have bc:=Fk;clear Fk)
   |((with_reducible refine aQ 4 ?_);refine b6 26 ?_;intro h2 e5 wn ad I;have rm:=am ad;have Hk:=am (show w.heap.size<=h2 from Nat.le_trans ag.1.size (Nat.le_of_eq e5.symm));have Hl:=am (show fp ≠ h2 from fun he=>by have:=dK ax.1;omega);clear ad e5;replace bc:=c9 bc I;replace ax:=aV ax I;replace ag:=am (ag.1.grow I);clear bu;have bu:=ae ax;clear I;have ca:=rm;clear rm;have e':=ae ca)
   |((with_reducible refine bT 26 4 ?_);refine dG ca ?_;intro wn ad U;have rm:=am ad;replace bc:=g6 bc ca U;replace ax:=fV ax U Hl.1;replace ag:=am (ag.1.grown U (fun k J=>by cases J;exact Hk.1));clear ca e' bu;have bu:=ae ax;have ca:=rm;clear rm ad U;have e':=ae ca)
   |(go_at_call 40;refine (ig ag.1 cl.1 (by have:=cd.1;have:=lH.1;(try have:=fC.1);(try have:=gR.1);omega) 3).mono ?_;rintro e wn ⟨x,bY,rfl,az,fk,aO,J⟩;replace cd:=am (show bz<=bY/\bY<=bz+420*(i:Int)+2 from by have:=cd.1;(try have:=fC.1);(try have:=gR.1);omega);clear fk;replace bc:=am (ag.1.fa J bc.1 (by decide));replace ax:=am (ag.1.dH J ax.1 (by decide));replace ca:=am (ag.1.dH J ca.1 (by decide));replace ag:=am (aO);clear bu e';have bu:=ae ax;have e':=ae ca;clear J aO;have Aq:x<=2:=by omega))
   obtain ⟨qU,zZ⟩:∃ y:Nat,(y:Int)=1+(x:Int):=⟨1+x,by omega⟩;rw [<-zZ];have fC:av (1<=qU/\qU<=3):=⟨by omega⟩;clear az zZ Aq;go_loopw [6] (fun j af=>∃ m:Nat,m<=qU/\j= .int .i64 m/\∃ q aG cs,av (ee w0 w g b q af)/\av (bz<=q/\q<=bz+420*(i:Int)+2+(m:Int))/\av ((Kd.int .i64).aC 3 af w.heap.size (fun _=>True) aG cs)/\av (cs.length=m)/\av (af.heap[h2]? = some (.cells #[aG,.slice none 0 0] 26 (0,0)))/\av (af.heap[fp]? = some (.cells #[.slice none 0 0,.slice none 0 0] 26 (0,0)))) (fun j _=>qU - (intOf j).toNat)
   case atStart=>exact ⟨0,Nat.zero_le _,rfl,_,_, [],ag,⟨by have:=cd.1;omega⟩,bc,⟨rfl⟩,ca,ax⟩
   case round=>
    clear ag cd bc ca ax e' bu;clear q;obtain ⟨m,hm,rfl,q,aG,cs,ag,cd,bc,vX,ca,ax⟩:=hrel;obtain ⟨A,dW,c'⟩:=Kd.bt bc.1;subst c';obtain ⟨eo,eN⟩:∃ z:Nat,z=cs.length:=⟨_,rfl⟩;rw [<-eN] at bc ca;have zJ:=am eN;clear eN;have bu:=ae ax;have e':=ae ca;by_cases s4:m < qU
    ·have bY:(m:Int) < (qU:Int):=by omega
     go_wp2;refine kO (n:=11) (S:=fun W=>W.heap[h2]? = some (.cells #[.slice A eo dW,.slice none 0 0] 26 (0,0))) (ds:= [9,10]) (by kernel_rfl) rfl (by exact gW ca.1) (fun aK=> ?_);have I:=ei (Below.refl wr.heap.size wr);generalize wr.drew=fN at I aK ⊢;replace bc:=c9 bc I;replace ax:=aV ax I;replace ca:=aV ca I;replace ag:=am (ag.1.grow I);clear bu e';have bu:=ae ax;have e':=ae ca;clear I;refine hn 8 3 [0,1,3] aK ?_
     iterate 3 (refine hR rfl (by intro W bU;have t0:=bf bU;clear bU;go_simp;with_reducible rfl) ?_)
     refine bN ?_;refine BY (i:=2) (j:=4) (Ni:=some 25) (Nj:=some 27) rfl rfl rfl rfl (by kernel_rfl) (by decide) (by decide) (fun K au=> ?_) (fun K au=> ?_)
     ·refine Kd.qG (w0:=_) (Kd.int .i64) w.heap.size 3 (by rfl) (N:=25) rfl (xs:=([0,0,1,5,99]:List Int)) (inner:= [.int .i64 0,.int .i64 0,.int .i64 1,.int .i64 5,.int .i64 99]) (ok:=(fun _=>True)) (okp:=(fun _=>True)) (by go_simp<;>rfl) (cp.one rfl (cp.one rfl (cp.one rfl (cp.one rfl (cp.one rfl (cp.none _ _)))))) (fun _ _=>trivial) trivial (Below.refl _ _) ag.1.size (by simp) ?_
      intro v1 wl bG bZ U fw;clear bZ fw;obtain ⟨vF,nS,c'⟩:=Kd.bt bG;subst c';have y0:=am (show (Kd.int .i64).aC 3 wl w.heap.size (fun _=>True) (.slice vF 5 nS) ([0,0,1,5,99]:List Int) from bG);refine au.out _ _ (fS aK (hW U)) (fun aK=>e8 ?_);clear au K
      clear bG;have I:=hW U;replace bc:=c9 bc I;replace ax:=aV ax I;replace ca:=aV ca I;replace ag:=am (ag.1.grow I);clear bu e';have bu:=ae ax;have e':=ae ca;clear I U;have oS:=y0;clear y0;refine fs 4 (some 27) (fun K au=> ?_);refine kW Tryz.func40 #[.pointer (some ⟨g,0,none⟩),.int .i64 5] ?_;refine (ig ag.1 cl.1 (by have:=cd.1;have:=lH.1;have:=fC.1;omega) 5).mono ?_;rintro e wn ⟨x,bY,rfl,az,fk,aO,J⟩;refine ⟨_,rfl, ?_⟩;refine au.out _ _ (ag.1.dH J aK (by decide)) (fun aK=>e8 ?_);clear au K
      replace cd:=am (show bz<=bY/\bY<=bz+420*(i:Int)+3+(m:Int) from by have:=cd.1;(try have:=fC.1);(try have:=gR.1);omega);clear fk;replace bc:=am (ag.1.fa J bc.1 (by decide));replace oS:=am (ag.1.fa J oS.1 (by decide));replace ax:=am (ag.1.dH J ax.1 (by decide));replace ca:=am (ag.1.dH J ca.1 (by decide));replace ag:=am (aO);clear bu e';have bu:=ae ax;have e':=ae ca;clear J aO;have Kb:(x:Int) < 5:=by omega
      have mM:(0:Int)<=(x:Int):=by omega
      obtain ⟨rM,il,n4,-⟩:=Kd.oa oS.1 (by decide);injection n4 with n4 xp xq;subst n4;obtain ⟨y,yh⟩:∃ y:Int,wn.cell? ⟨rM,x,none⟩=some (.int .i64 y):=⟨_,by have h:=Kd.wx 0 oS.1 (x:Int) mM Kb;rw [Int.toNat_natCast] at h;exact h.1⟩;clear xp xq;refine fs 5 (some 28) (fun K au=> ?_);refine mV (v:=.pointer (some ⟨rM,x,none⟩)) (w1:=wn) (by rfl) rfl (by go_simp<;>rfl) ?_;refine au.out _ _ (aK) (fun aK=>e8 ?_);clear au K
      refine fs 6 (some 29) (fun K au=> ?_);refine mV (v:=.int .i64 y) (w1:=wn) (by rfl) rfl (by go_simp<;>rfl) ?_;refine au.out _ _ (aK) (fun aK=>e8 ?_);clear au K
      clear yh;refine fs 7 (some 30) (fun K au=> ?_);refine LD (e:=3) (c:=.int .i64 y) (by rfl) rfl (by go_simp<;>rfl) ?_;have kJ:=aK;refine au.out _ _ (ss aK _) (fun aK=>e8 ?_);clear au K
      refine fs 8 (some 31) (fun K au=> ?_);refine Kd.BE (Kd.int .i64) (w0:=_) w.heap.size (by rfl) (.tmp 24) (.tmp 30) 23 3 (.int .i64 0) 8 rfl Tryz.underlying23 od rfl (by decide) (by decide) (.slice A eo dW) cs y [.int .i64 y] (fun _=>True) (fun _=>False) rfl rfl rfl (fun _ J=>J.elim) (fun _ _=>trivial) bc.1 (Below.refl _ _) ag.1.size (by have:=vX.1;have:=fC.1;omega) ?_;intro v1 g1 bG lG U o8;clear lG o8;have uu:some h2 ≠ (Value.slice A eo dW).ownBlock:=fun he=>Kd.rf bc.1 ca.1 (by decide) he
      have yF:some fp ≠ (Value.slice A eo dW).ownBlock:=fun he=>Kd.rf bc.1 ax.1 (by decide) he
      refine au.out _ _ (eQ kJ U uu) (fun aK=>e8 ?_);clear au K
      have oT:=am bG;replace ca:=am (eQ ca.1 U uu);replace ax:=am (eQ ax.1 U yF);replace ag:=am (ag.1.row bc.1 U);clear aK kJ bG U uu yF bc oS e' bu;have e':=ae ca;refine lM (fuel:=2) 9 (by kernel_rfl) ?_;simp only [List.drop_succ_cons,List.drop_zero]
      go_wp2_with (first
      |((with_reducible refine bT 23 32 ?_);refine e9 (u:=v1) rfl rfl _ _ rfl (g:=h2) (off:=0) rfl rfl (qA oT.1) (qF oT.1) (by kernel_rfl) ⟨⟨_,by rw [bf ca.1];rfl⟩,iX ca.1 _⟩ ?_;intro bV aH;have rm:=am (show bV.heap[h2]? = some (.cells #[v1,.slice none 0 0] 26 (0,0)) by rw [aH];exact ku ca.1 0 v1);replace ax:=am (show bV.heap[fp]? = some (.cells #[.slice none 0 0,.slice none 0 0] 26 (0,0)) by rw [aH];exact eA (p:=⟨h2,0,none⟩) ax.1 Hl.1 v1);replace ag:=am (show ee w0 w g b _ bV by rw [aH];exact ag.1.set Hk.1 0 v1);replace oT:=am (show (Kd.int .i64).aC 3 bV w.heap.size (fun _=>True) v1 _ by rw [aH];exact lN oT.1 ca.1 (by decide) 0 v1);clear aH ca;have ca:=rm;clear rm))
      have yg:=zj s4 (Nat.le_trans fC.1.2 (by decide));go_roundw
      case rel=>exact ⟨m+1,by omega,by go_num,_,v1,cs ++ [y],ag,⟨by have:=cd.1;omega⟩,oT,⟨by rw [List.length_append,vX.1];rfl⟩,ca,ax⟩
      case measure=>first | exact Bd s4 | exact CJ s4 yg
     ·refine kW Tryz.func40 #[.pointer (some ⟨g,0,none⟩),.int .i64 5] ?_
      refine (ig ag.1 cl.1 (by have:=cd.1;have:=lH.1;have:=fC.1;omega) 5).mono ?_;rintro e wn ⟨x,bY,rfl,az,fk,aO,J⟩;refine ⟨_,rfl, ?_⟩;refine au.out _ _ (ag.1.dH J aK (by decide)) (fun aK=>e8 ?_);clear au K
      replace cd:=am (show bz<=bY/\bY<=bz+420*(i:Int)+3+(m:Int) from by have:=cd.1;(try have:=fC.1);(try have:=gR.1);omega);clear fk;replace bc:=am (ag.1.fa J bc.1 (by decide));replace ax:=am (ag.1.dH J ax.1 (by decide));replace ca:=am (ag.1.dH J ca.1 (by decide));replace ag:=am (aO);clear bu e';have bu:=ae ax;have e':=ae ca;clear J aO;refine fs 2 (some 25) (fun K au=> ?_);refine Kd.qG (w0:=_) (Kd.int .i64) w.heap.size 3 (by rfl) (N:=25) rfl (xs:=([0,0,1,5,99]:List Int)) (inner:= [.int .i64 0,.int .i64 0,.int .i64 1,.int .i64 5,.int .i64 99]) (ok:=(fun _=>True)) (okp:=(fun _=>True)) (by go_simp<;>rfl) (cp.one rfl (cp.one rfl (cp.one rfl (cp.one rfl (cp.one rfl (cp.none _ _)))))) (fun _ _=>trivial) trivial (Below.refl _ _) ag.1.size (by simp) ?_;intro v1 wl bG bZ U fw;clear bZ fw;obtain ⟨vF,nS,c'⟩:=Kd.bt bG;subst c';have y0:=am (show (Kd.int .i64).aC 3 wl w.heap.size (fun _=>True) (.slice vF 5 nS) ([0,0,1,5,99]:List Int) from bG);refine au.out _ _ (fS aK (hW U)) (fun aK=>e8 ?_);clear au K
      clear bG;have I:=hW U;replace bc:=c9 bc I;replace ax:=aV ax I;replace ca:=aV ca I;replace ag:=am (ag.1.grow I);clear bu e';have bu:=ae ax;have e':=ae ca;clear I U;have oS:=y0;clear y0;have Kb:(x:Int) < 5:=by omega
      have mM:(0:Int)<=(x:Int):=by omega
      obtain ⟨rM,il,n4,-⟩:=Kd.oa oS.1 (by decide);injection n4 with n4 xp xq;subst n4;obtain ⟨y,yh⟩:∃ y:Int,wl.cell? ⟨rM,x,none⟩=some (.int .i64 y):=⟨_,by have h:=Kd.wx 0 oS.1 (x:Int) mM Kb;rw [Int.toNat_natCast] at h;exact h.1⟩;clear xp xq;refine fs 5 (some 28) (fun K au=> ?_);refine mV (v:=.pointer (some ⟨rM,x,none⟩)) (w1:=wl) (by rfl) rfl (by go_simp<;>rfl) ?_;refine au.out _ _ (aK) (fun aK=>e8 ?_);clear au K
      refine fs 6 (some 29) (fun K au=> ?_);refine mV (v:=.int .i64 y) (w1:=wl) (by rfl) rfl (by go_simp<;>rfl) ?_;refine au.out _ _ (aK) (fun aK=>e8 ?_);clear au K
      clear yh;refine fs 7 (some 30) (fun K au=> ?_);refine LD (e:=3) (c:=.int .i64 y) (by rfl) rfl (by go_simp<;>rfl) ?_;have kJ:=aK;refine au.out _ _ (ss aK _) (fun aK=>e8 ?_);clear au K
      refine fs 8 (some 31) (fun K au=> ?_);refine Kd.BE (Kd.int .i64) (w0:=_) w.heap.size (by rfl) (.tmp 24) (.tmp 30) 23 3 (.int .i64 0) 8 rfl Tryz.underlying23 od rfl (by decide) (by decide) (.slice A eo dW) cs y [.int .i64 y] (fun _=>True) (fun _=>False) rfl rfl rfl (fun _ J=>J.elim) (fun _ _=>trivial) bc.1 (Below.refl _ _) ag.1.size (by have:=vX.1;have:=fC.1;omega) ?_;intro v1 g1 bG lG U o8;clear lG o8;have uu:some h2 ≠ (Value.slice A eo dW).ownBlock:=fun he=>Kd.rf bc.1 ca.1 (by decide) he
      have yF:some fp ≠ (Value.slice A eo dW).ownBlock:=fun he=>Kd.rf bc.1 ax.1 (by decide) he
      refine au.out _ _ (eQ kJ U uu) (fun aK=>e8 ?_);clear au K
      have oT:=am bG;replace ca:=am (eQ ca.1 U uu);replace ax:=am (eQ ax.1 U yF);replace ag:=am (ag.1.row bc.1 U);clear aK kJ bG U uu yF bc oS e' bu;have e':=ae ca;refine lM (fuel:=2) 9 (by kernel_rfl) ?_;simp only [List.drop_succ_cons,List.drop_zero]
      go_wp2_with (first
      |((with_reducible refine bT 23 32 ?_);refine e9 (u:=v1) rfl rfl _ _ rfl (g:=h2) (off:=0) rfl rfl (qA oT.1) (qF oT.1) (by kernel_rfl) ⟨⟨_,by rw [bf ca.1];rfl⟩,iX ca.1 _⟩ ?_;intro bV aH;have rm:=am (show bV.heap[h2]? = some (.cells #[v1,.slice none 0 0] 26 (0,0)) by rw [aH];exact ku ca.1 0 v1);replace ax:=am (show bV.heap[fp]? = some (.cells #[.slice none 0 0,.slice none 0 0] 26 (0,0)) by rw [aH];exact eA (p:=⟨h2,0,none⟩) ax.1 Hl.1 v1);replace ag:=am (show ee w0 w g b _ bV by rw [aH];exact ag.1.set Hk.1 0 v1);replace oT:=am (show (Kd.int .i64).aC 3 bV w.heap.size (fun _=>True) v1 _ by rw [aH];exact lN oT.1 ca.1 (by decide) 0 v1);clear aH ca;have ca:=rm;clear rm))
      have yg:=zj s4 (Nat.le_trans fC.1.2 (by decide));go_roundw
      case rel=>exact ⟨m+1,by omega,by go_num,_,v1,cs ++ [y],ag,⟨by have:=cd.1;omega⟩,oT,⟨by rw [List.length_append,vX.1];rfl⟩,ca,ax⟩
      case measure=>first | exact Bd s4 | exact CJ s4 yg
    ·obtain rfl:m=qU:=by omega
     have bY:¬ (m:Int) < (m:Int):=by omega
     go_wp2_with (first
     |(go_at_call 40;refine (ig ag.1 cl.1 (by have:=cd.1;have:=lH.1;(try have:=fC.1);(try have:=gR.1);omega) 3).mono ?_;rintro e wn ⟨y,bY,rfl,aW,fk,aO,J⟩;replace cd:=am (show bz<=bY/\bY<=bz+420*(i:Int)+6 from by have:=cd.1;(try have:=fC.1);(try have:=gR.1);omega);clear fk;replace bc:=am (ag.1.fa J bc.1 (by decide));replace ax:=am (ag.1.dH J ax.1 (by decide));replace ca:=am (ag.1.dH J ca.1 (by decide));replace ag:=am (aO);clear bu e';have bu:=ae ax;have e':=ae ca;clear J aO;have Vl:y<=2:=by omega))
     obtain ⟨lB,Hm⟩:∃ z:Nat,(z:Int)=2+(y:Int):=⟨2+y,by omega⟩;rw [<-Hm];have gR:av (2<=lB/\lB<=4):=⟨by omega⟩;clear aW Hm Vl;obtain ⟨qU,zZ⟩:∃ z,z=m:=⟨_,rfl⟩;subst zZ;go_loopw [8] (fun j af=>∃ m:Nat,m<=lB/\j= .int .i64 m/\∃ q a8 gJ,av (ee w0 w g b q af)/\av (bz<=q/\q<=bz+420*(i:Int)+6+91*(m:Int))/\av ((Kd.int .i64).aC 3 af w.heap.size (fun _=>True) (.slice A eo dW) cs)/\av ((Kd.slice 55 kAct).aC 48 af w.heap.size (fun _=>True) a8 gJ)/\av (gJ.length=m)/\av (∀ x ∈ gJ,x.length<=3/\∀ a ∈ x,Rd.Bc a)/\av (af.heap[h2]? = some (.cells #[.slice A eo dW,a8] 26 (0,0)))/\av (af.heap[fp]? = some (.cells #[.slice none 0 0,.slice none 0 0] 26 (0,0)))) (fun j _=>lB - (intOf j).toNat)
     case atStart=>exact ⟨0,Nat.zero_le _,rfl,_,_, [],ag,⟨by have:=cd.1;have:=fC.1;omega⟩,bc,⟨Kd.ht _ _ _ _ _⟩,⟨rfl⟩,⟨fun _ h=>by cases h⟩,ca,ax⟩
     case round=>
      clear ag cd bc ca ax e' bu;clear q;obtain ⟨m,pG,rfl,q,a8,gJ,ag,cd,bc,bq,ov,s9,ca,ax⟩:=hrel;obtain ⟨B,fE,c'⟩:=Kd.bt bq.1;subst c';obtain ⟨eX,h4⟩:∃ z:Nat,z=gJ.length:=⟨_,rfl⟩;rw [<-h4] at bq ca;have Xd:=am h4;clear h4;have bu:=ae ax;have e':=ae ca;by_cases K9:m < lB
      ·have l5:(m:Int) < (lB:Int):=by omega
       go_wp2;refine kO (n:=11) (S:=fun W=>W.heap[h2]? = some (.cells #[.slice A eo dW,.slice B eX fE] 26 (0,0))) (ds:= [9,10]) (by kernel_rfl) rfl (by exact gW ca.1) (fun aK=> ?_);have I:=ei (Below.refl wr.heap.size wr);generalize wr.drew=fN at I aK ⊢;replace bc:=c9 bc I;replace bq:=c9 bq I;replace ax:=aV ax I;replace ca:=aV ca I;replace ag:=am (ag.1.grow I);clear bu e';have bu:=ae ax;have e':=ae ca;clear I;refine hn 5 6 [0,1,2,3,4,5] aK ?_
       iterate 6 (refine hR rfl (by intro W bU;have t0:=bf bU;clear bU;go_simp;with_reducible rfl) ?_)
       refine bN ?_;refine fs 6 (some 47) (fun K au=> ?_);refine kW Tryz.func87 #[.pointer (some ⟨g,0,none⟩),.int .i64 m,.int .i64 lB,.int .i64 qU] ?_;refine (ZF ag.1 cl.1 (by have:=cd.1;have:=lH.1;have:=fC.1;have:=gR.1;omega) (m:Int) (lB:Int) (qU:Int)).mono ?_;rintro e wn ⟨v,cq,bY,rfl,bp,ha,fk,nz,aO,J⟩;refine ⟨_,rfl, ?_⟩;refine au.out _ _ (ag.1.dH J aK (by decide)) (fun aK=>e8 ?_);clear au K
       have kN:=am (show w.heap.size<=fN.heap.size from ag.1.size);have DA:=am (Kd.HH bq.1);replace cd:=am (show bz<=bY/\bY<=bz+420*(i:Int)+6+91*((m:Int)+1) from by have:=cd.1;(try have:=fC.1);(try have:=gR.1);omega);clear fk nz;replace bc:=am (ag.1.fa J bc.1 (by decide));replace bq:=am (ag.1.fa J bq.1 (by decide));replace ax:=am (ag.1.dH J ax.1 (by decide));replace ca:=am (ag.1.dH J ca.1 (by decide));replace ag:=am (aO);clear bu e';have bu:=ae ax;have e':=ae ca;clear J aO;obtain ⟨wH,GF,c'⟩:=Kd.bt bp;subst c';have M8:=am bp;have fK:=am ha;clear bp ha;refine fs 7 (some 48) (fun K au=> ?_);refine LD (e:=48) (c:=.slice wH cq.length GF) (by rfl) rfl (by go_simp<;>rfl) ?_;have kJ:=aK;refine au.out _ _ (ss aK _) (fun aK=>e8 ?_);clear au K
       refine fs 8 (some 49) (fun K au=> ?_);refine Kd.BE (Kd.slice 55 kAct) (w0:=_) w.heap.size (by rfl) (.tmp 42) (.tmp 48) 24 48 (.slice none 0 0) 24 rfl Tryz.underlying24 (by kernel_rfl) rfl (by decide) (by decide) (.slice B eX fE) gJ cq [.slice wH cq.length GF] (fun _=>True) (fun k=>fN.heap.size<=k) rfl rfl ⟨_,rfl,Kd.ft (Kd.cG (Kd.fW M8.1) (fun k J=>J.2.1)) kN.1⟩ (fun k J=>⟨trivial,fun he=>by have:=DA.1 k he.symm;omega⟩) (fun _ _=>trivial) bq.1 (Below.refl _ _) ag.1.size (by have:=ov.1;have:=gR.1;omega) ?_;intro v1 g1 bG lG U o8;clear lG o8;have uu:some h2 ≠ (Value.slice B eX fE).ownBlock:=fun he=>Kd.rf bq.1 ca.1 (by decide) he
       have yF:some fp ≠ (Value.slice B eX fE).ownBlock:=fun he=>Kd.rf bq.1 ax.1 (by decide) he
       refine au.out _ _ (eQ kJ U uu) (fun aK=>e8 ?_);clear au K
       have oT:=am bG;replace bc:=am (Kd.LN bc.1 bq.1 (by decide) U);replace ca:=am (eQ ca.1 U uu);replace ax:=am (eQ ax.1 U yF);replace ag:=am (ag.1.row bq.1 U);clear aK kJ bG U uu yF bq M8 e' bu DA kN;have e':=ae ca;refine lM (fuel:=2) 9 (by kernel_rfl) ?_;simp only [List.drop_succ_cons,List.drop_zero]
       go_wp2_with (first
       |((with_reducible refine bT 24 50 ?_);refine e9 (u:=v1) rfl rfl _ _ rfl (g:=h2) (off:=1) rfl rfl (qA oT.1) (qF oT.1) (by kernel_rfl) ⟨⟨_,by rw [bf ca.1];rfl⟩,iX ca.1 _⟩ ?_;intro bV aH;have rm:=am (show bV.heap[h2]? = some (.cells #[.slice A eo dW,v1] 26 (0,0)) by rw [aH];exact ku ca.1 1 v1);replace ax:=am (show bV.heap[fp]? = some (.cells #[.slice none 0 0,.slice none 0 0] 26 (0,0)) by rw [aH];exact eA (p:=⟨h2,1,none⟩) ax.1 Hl.1 v1);replace ag:=am (show ee w0 w g b _ bV by rw [aH];exact ag.1.set Hk.1 1 v1);replace bc:=am (show (Kd.int .i64).aC 3 bV w.heap.size (fun _=>True) (.slice A eo dW) _ by rw [aH];exact lN bc.1 ca.1 (by decide) 1 v1);replace oT:=am (show (Kd.slice 55 kAct).aC 48 bV w.heap.size (fun _=>True) v1 _ by rw [aH];exact lN oT.1 ca.1 (by decide) 1 v1);clear aH ca;have ca:=rm;clear rm))
       have yg:=zj K9 (Nat.le_trans gR.1.2 (by decide));go_roundw
       case rel=>exact ⟨m+1,by omega,by go_num,_,v1,gJ ++ [cq],ag,⟨by have:=cd.1;omega⟩,bc,oT,⟨by rw [List.length_append,ov.1];rfl⟩,⟨fun y aW=>by rcases List.mem_append.1 aW with aW | aW;exact s9.1 y aW;rw [List.mem_singleton.1 aW];exact fK.1⟩,ca,ax⟩
       case measure=>first | exact Bd K9 | exact CJ K9 yg
      ·obtain rfl:m=lB:=by omega
       have l5:¬ (m:Int) < (m:Int):=by omega
       obtain ⟨lB,Hm⟩:∃ z,z=m:=⟨_,rfl⟩;subst Hm
       go_wp2_with (first
       |(go_at_call 40;refine (ig ag.1 cl.1 (by have:=cd.1;have:=lH.1;(try have:=fC.1);(try have:=gR.1);omega) 4).mono ?_;rintro e wn ⟨z,bY,rfl,aX,fk,aO,J⟩;replace cd:=am (show bz<=bY/\bY<=bz+420*(i:Int)+375 from by have:=cd.1;(try have:=fC.1);(try have:=gR.1);omega);clear fk;replace bc:=am (ag.1.fa J bc.1 (by decide));replace bq:=am (ag.1.fa J bq.1 (by decide));replace ax:=am (ag.1.dH J ax.1 (by decide));replace ca:=am (ag.1.dH J ca.1 (by decide));replace ag:=am (aO);clear bu e';have bu:=ae ax;have e':=ae ca;clear J aO))
       ·clear aX
        obtain ⟨gb,ade,Kc,-⟩:=Kd.oa bq.1 (by have:=ov.1;have:=gR.1;omega);injection Kc with Kc Xe Xf;subst Kc;have h4:(0:Int) < (eX:Int):=by have:=ov.1;have:=gR.1;have:=Xd.1;omega
        have adS:0 < eX:=by omega
        clear Xe Xf;have Vm:wrap64 ((lB:Int) - 1)=(lB:Int) - 1:=Rd.wrap_in (by have:=gR.1;omega) (by have:=gR.1;omega);go_wp2;refine kO (n:=16) (S:=fun W=>W.heap[h2]? = some (.cells #[.slice A eo dW,.slice (some ⟨gb,0,none⟩) eX fE] 26 (0,0))) (ds:= [14,15]) (by kernel_rfl) rfl (by exact gW ca.1) (fun aK=> ?_);have I:=ei (Below.refl wn.heap.size wn);generalize wn.drew=fN at I aK ⊢;replace bc:=c9 bc I;replace bq:=c9 bq I;replace ax:=aV ax I;replace ca:=aV ca I;replace ag:=am (ag.1.grow I);clear bu e';have bu:=ae ax;have e':=ae ca;clear I;refine hn 9 7 [0,1,2,3,4,9,10] aK ?_
        iterate 7 (refine hR rfl (by intro W bU;have t0:=bf bU;clear bU;go_simp;with_reducible rfl) ?_)
        refine bN ?_;refine fs 5 (some 59) (fun K au=> ?_);refine kW Tryz.func40 #[.pointer (some ⟨g,0,none⟩),.int .i64 (wrap64 ((lB:Int) - 1))] ?_;refine (ig ag.1 cl.1 (by have:=cd.1;have:=lH.1;have:=fC.1;have:=gR.1;omega) (wrap64 ((lB:Int) - 1))).mono ?_;rintro e wn ⟨x,bY,rfl,az,fk,aO,J⟩;refine ⟨_,rfl, ?_⟩;refine au.out _ _ (ag.1.dH J aK (by decide)) (fun aK=>e8 ?_);clear au K
        rw [Vm] at az;replace cd:=am (show bz<=bY/\bY<=bz+420*(i:Int)+376 from by have:=cd.1;(try have:=fC.1);(try have:=gR.1);omega);clear fk;replace bc:=am (ag.1.fa J bc.1 (by decide));replace bq:=am (ag.1.fa J bq.1 (by decide));replace ax:=am (ag.1.dH J ax.1 (by decide));replace ca:=am (ag.1.dH J ca.1 (by decide));replace ag:=am (aO);clear bu e';have bu:=ae ax;have e':=ae ca;clear J aO;obtain ⟨y,aW⟩:∃ y:Int,y=1+(x:Int):=⟨_,rfl⟩;have nR:wrap64 y=y:=by have:=gR.1;exact Rd.wrap_in (by omega) (by omega)
        clear az;refine hn 7 1 [6] aK ?_;refine Gl (v:= ?_) (a':= ?_) rfl (Or.inl ⟨by rfl, ?_⟩) ?_ ?_;rotate_left
        ·intro W bU
         go_simp
         with_reducible rfl
        rotate_left
        ·simp only [Act.put,nL,nM,nN,k0]
         rfl
        refine bN ?_;rw [<-aW];rw [nR];clear aW nR;refine BY (i:=7) (j:=11) (Ni:=some 61) (Nj:=some 65) rfl rfl rfl rfl (by kernel_rfl) (by decide) (by decide) (fun K au=> ?_) (fun K au=> ?_)
        ·refine Kd.qG (w0:=_) (Kd.int .i64) w.heap.size 3 (by rfl) (N:=61) rfl (xs:=([1,y]:List Int)) (inner:= [.int .i64 1,.int .i64 y]) (ok:=(fun _=>True)) (okp:=(fun _=>True)) (by go_simp<;>rfl) (cp.one rfl (cp.one rfl (cp.none _ _))) (fun _ _=>trivial) trivial (Below.refl _ _) ag.1.size (by simp) ?_
         intro v1 wl bG bZ U fw;clear bZ fw;obtain ⟨vE,mI,c'⟩:=Kd.bt bG;subst c';have Fl:=am (show (Kd.int .i64).aC 3 wl w.heap.size (fun _=>True) (.slice vE 2 mI) ([1,y]:List Int) from bG);refine au.out _ _ (fS aK (hW U)) (fun aK=>e8 ?_);clear au K
         clear bG;have I:=hW U;replace bc:=c9 bc I;replace bq:=c9 bq I;replace ax:=aV ax I;replace ca:=aV ca I;replace ag:=am (ag.1.grow I);clear bu e';have bu:=ae ax;have e':=ae ca;clear I U;have zL:=Fl;clear Fl;refine hn 5 1 [8] aK ?_
         iterate 1 (refine hR rfl (by intro W bU;go_simp;with_reducible rfl) ?_)
         refine bN ?_;refine fs 11 (some 65) (fun K au=> ?_);refine kW Tryz.func88 #[.pointer (some ⟨g,0,none⟩),.int .i64 qU] ?_;refine (Mn ag.1 cl.1 (by have:=cd.1;have:=lH.1;have:=fC.1;have:=gR.1;omega) (qU:Int)).mono ?_;rintro e wn ⟨v,ds,bY,rfl,bp,n0,fk,nz,aO,J⟩;refine ⟨_,rfl, ?_⟩;refine au.out _ _ (ag.1.dH J aK (by decide)) (fun aK=>e8 ?_);clear au K
         have kN:=ag.1.size;replace cd:=am (show bz<=bY/\bY<=bz+420*(i:Int)+396 from by have:=cd.1;(try have:=fC.1);(try have:=gR.1);omega);clear fk nz;replace bc:=am (ag.1.fa J bc.1 (by decide));replace bq:=am (ag.1.fa J bq.1 (by decide));replace zL:=am (ag.1.fa J zL.1 (by decide));replace ax:=am (ag.1.dH J ax.1 (by decide));replace ca:=am (ag.1.dH J ca.1 (by decide));replace ag:=am (aO);clear bu e';have bu:=ae ax;have e':=ae ca;clear J aO;obtain ⟨cy,ez,c'⟩:=Kd.bt bp;subst c';have vI:=am (Kd.ft bp kN);have s0:=am n0;clear bp n0 kN;refine hn 3 1 [12] aK ?_
         iterate 1 (refine hR rfl (by intro W bU;go_simp;with_reducible rfl) ?_)
         refine bN ?_;refine fs 13 (some 67) (fun K au=> ?_);refine Kd.qG (w0:=_) kAct w.heap.size 55 (by rfl) (N:=67) rfl (xs:=([(⟨2, [], [1,y],0⟩:Act),(⟨1,ds, [],0⟩:Act)]:List Act)) (inner:= [.int .i64 2,.slice none 0 0,.slice vE 2 mI,.int .i64 0,.int .i64 1,.slice cy ds.length ez,.slice none 0 0,.int .i64 0]) (ok:=(fun _=>True)) (okp:=(fun _=>True)) (by go_simp<;>rfl) (cp.l8 (vx (⟨2, [], [1,y],0⟩:Act) (Kd.ht _ _ _ _ _) zL.1) (cp.l8 (vx (⟨1,ds, [],0⟩:Act) vI.1 (Kd.ht _ _ _ _ _)) (cp.none _ _))) (fun _ _=>trivial) trivial (Below.refl _ _) ag.1.size (by simp) ?_;intro v1 wl bG bZ U fw;clear bZ fw;obtain ⟨qI,zM,c'⟩:=Kd.bt bG;subst c';have Fm:=am (show kAct.aC 55 wl w.heap.size (fun _=>True) (.slice qI 2 zM) ([(⟨2, [], [1,y],0⟩:Act),(⟨1,ds, [],0⟩:Act)]:List Act) from bG);refine au.out _ _ (fS aK (hW U)) (fun aK=>e8 ?_);clear au K
         clear bG zL vI;have I:=hW U;replace bc:=c9 bc I;replace bq:=c9 bq I;replace ax:=aV ax I;replace ca:=aV ca I;replace ag:=am (ag.1.grow I);clear bu e';have bu:=ae ax;have e':=ae ca;clear I U;have DB:=Fm;clear Fm;have Fo:av (∀ z ∈ gJ.set 0 [(⟨2, [], [1,y],0⟩:Act),(⟨1,ds, [],0⟩:Act)],z.length<=3/\∀ a ∈ z,Rd.Bc a):=⟨fun z aX=>by rcases List.mem_or_eq_of_mem_set aX with aX | aX;exact s9.1 z aX;rw [aX];refine ⟨by simp,fun a ha=> ?_⟩;simp only [List.mem_cons,List.not_mem_nil,or_false] at ha;rcases ha with rfl|rfl;exact ⟨by simp,by simp⟩;exact ⟨s0.1,by simp⟩⟩;clear aK s9;have s9:=Fo;clear Fo;have Fp:av ((gJ.set 0 [(⟨2, [], [1,y],0⟩:Act),(⟨1,ds, [],0⟩:Act)]).length=lB):=⟨by rw [List.length_set];exact ov.1⟩;refine lM (fuel:=2) 14 (by kernel_rfl) ?_;simp only [List.drop_succ_cons,List.drop_zero]
         go_wp2_with (first
         |((with_reducible refine bT 48 68 ?_);obtain ⟨ce,Ar,_,en,_⟩:=Kd.ob bq.1 [] (0:Int) (Int.le_refl 0) h4;obtain ⟨Vn,Fq⟩:=FK bq.1 gb rfl;refine Kd.Q8 (w0:=_) (Kd.slice 55 kAct) w.heap.size rfl rfl 48 (.tmp 68) (.tmp 67) rfl 48 (0:Int) 0 gJ [(⟨2, [], [1,y],0⟩:Act),(⟨1,ds, [],0⟩:Act)] (.slice qI 2 zM) [.slice qI 2 zM] ce (fun _=>True) (fun k=>k ≠ gb) rfl rfl rfl rfl (by kernel_rfl) (by simp [Value.oneCell']) bq.1 (Int.le_refl 0) h4 Ar en (Nat.le_refl _) (by rw [List.take_zero,List.nil_append,List.drop_eq_nil_of_le (by rw [Ar];exact Nat.le_refl _),List.append_nil];exact ⟨_,rfl,Kd.cG (FT DB.1 Fq (by decide)) (fun k J=>J.2)⟩) (fun k J=>⟨trivial,J⟩) (Below.refl _ _) ?_;intro bV aT lG U;clear lG;have y1:=am aT;replace ag:=am (ag.1.grown U (fun k J=>by cases J;exact Kd.FF bq.1 gb rfl));replace bc:=am (Kd.LN bc.1 bq.1 (by decide) U);replace ca:=am (eQ ca.1 U (fun he=>Kd.rf bq.1 ca.1 (by decide) he));replace ax:=am (eQ ax.1 U (fun he=>Kd.rf bq.1 ax.1 (by decide) he));clear aT U bq DB Fq Ar en e' bu;have bq:=y1;clear y1)
         |((with_reducible refine aQ 69 ?_);refine c4 h2 0 (fR ca.1) ?_))
         clear ov;have ov:=Fp;clear Fp;obtain ⟨o2,Fs⟩:∃ z,z=gJ.set 0 [(⟨2, [], [1,y],0⟩:Act),(⟨1,ds, [],0⟩:Act)]:=⟨_,rfl⟩;rw [show Int.toNat 0=0 from rfl] at bq;rw [<-Fs] at ov s9 bq;have e':=ae ca;have bu:=ae ax;clear Fs;obtain ⟨g9,vJ,fz⟩:=Kd.ie bc.1;obtain ⟨fU,vK,db⟩:=Kd.ie bq.1;have cR:av (cN.K _ (⟨cs,o2⟩:Prog) [.slice A eo dW,.slice (some ⟨gb,0,none⟩) eX fE]):=⟨by have h:=F4 (⟨cs,o2⟩:Prog) (by rw [<-g9];exact vJ) fz (by rw [<-fU];exact vK) db;rw [show (⟨cs,o2⟩:Prog).cells.length=eo from g9.symm,show (⟨cs,o2⟩:Prog).an.length=eX from fU.symm] at h;exact h⟩;clear fz db vJ vK;have cK:av (jI (⟨cs,o2⟩:Prog)):=⟨Im (by have:=vX.1;have:=fC.1;show cs.length<=4;omega) (by have:=ov.1;have:=gR.1;show o2.length<=4;omega) s9.1⟩;obtain ⟨Et,yG⟩:∃ x,k2 (⟨cs,o2⟩:Prog)=x:=⟨_,rfl⟩;have mJ:=am yG;clear yG
         cases Et with
         | false=>
          go_wp2_with (first
          |((with_reducible refine aQ 69 ?_);refine c4 h2 0 (fR ca.1) ?_)
          |(go_at_call 47;refine (sv _ _ _ cR.1 cK.1).mono ?_;rw [mJ.1];rintro e wn ⟨rfl,I⟩;clear cR;replace bc:=c9 bc I;replace bq:=c9 bq I;replace ax:=aV ax I;replace ca:=aV ca I;replace ag:=am (ag.1.grow I);clear bu e';have bu:=ae ax;have e':=ae ca;clear I))
          have DC:=zj aJ (by decide);go_roundw
          case rel=>exact ⟨i+1,by omega,by go_num,_,ag,⟨by have:=cd.1;omega⟩,ax⟩
          case measure=>first | exact Bd aJ | exact CJ aJ DC
         | true=>
          go_wp2_with (first
          |((with_reducible refine aQ 69 ?_);refine c4 h2 0 (fR ca.1) ?_)
          |(go_at_call 47;refine (sv _ _ _ cR.1 cK.1).mono ?_;rw [mJ.1];rintro e wn ⟨rfl,I⟩;clear cR;replace bc:=c9 bc I;replace bq:=c9 bq I;replace ax:=aV ax I;replace ca:=aV ca I;replace ag:=am (ag.1.grow I);clear bu e';have bu:=ae ax;have e':=ae ca;clear I)
          |((with_reducible refine aQ 71 ?_);refine c4 h2 0 (fR ca.1) ?_)
          |((with_reducible refine bT 26 2 ?_);refine dG ax ?_;intro wn ad U;have h':=am ad;replace bc:=g6 bc ax U;replace bq:=g6 bq ax U;replace ag:=am (ag.1.grown U (fun k J=>by cases J;exact s8.1));clear ax bu;have ax:=h';clear h' ad U;have bu:=ae ax))
          refine bodyPost_ret (sx Tryz.results59 (.cell fp 26 #[.slice A eo dW,.slice (some ⟨gb,0,none⟩) eX fE] (0,0) _ rfl ax.1 Tryz.underlying26 rfl (by kernel_rfl) .nil)) rfl ?_;exact ⟨(⟨cs,o2⟩:Prog),_,_,_,rfl,mJ.1,cK.1,(by have:=vX.1;have:=fC.1;show 1<=cs.length;omega),bc.1,bq.1,ag.1.rd,cd.1.1,by have:=cd.1.2;omega,ag.1.below,ag.1.lo⟩
        ·refine kW Tryz.func88 #[.pointer (some ⟨g,0,none⟩),.int .i64 qU] ?_
         refine (Mn ag.1 cl.1 (by have:=cd.1;have:=lH.1;have:=fC.1;have:=gR.1;omega) (qU:Int)).mono ?_;rintro e wn ⟨v,ds,bY,rfl,bp,n0,fk,nz,aO,J⟩;refine ⟨_,rfl, ?_⟩;refine au.out _ _ (ag.1.dH J aK (by decide)) (fun aK=>e8 ?_);clear au K
         have kN:=ag.1.size;replace cd:=am (show bz<=bY/\bY<=bz+420*(i:Int)+396 from by have:=cd.1;(try have:=fC.1);(try have:=gR.1);omega);clear fk nz;replace bc:=am (ag.1.fa J bc.1 (by decide));replace bq:=am (ag.1.fa J bq.1 (by decide));replace ax:=am (ag.1.dH J ax.1 (by decide));replace ca:=am (ag.1.dH J ca.1 (by decide));replace ag:=am (aO);clear bu e';have bu:=ae ax;have e':=ae ca;clear J aO;obtain ⟨cy,ez,c'⟩:=Kd.bt bp;subst c';have vI:=am (Kd.ft bp kN);have s0:=am n0;clear bp n0 kN;refine hn 5 1 [12] aK ?_
         iterate 1 (refine hR rfl (by intro W bU;go_simp;with_reducible rfl) ?_)
         refine bN ?_;refine fs 7 (some 61) (fun K au=> ?_);refine Kd.qG (w0:=_) (Kd.int .i64) w.heap.size 3 (by rfl) (N:=61) rfl (xs:=([1,y]:List Int)) (inner:= [.int .i64 1,.int .i64 y]) (ok:=(fun _=>True)) (okp:=(fun _=>True)) (by go_simp<;>rfl) (cp.one rfl (cp.one rfl (cp.none _ _))) (fun _ _=>trivial) trivial (Below.refl _ _) ag.1.size (by simp) ?_;intro v1 wl bG bZ U fw;clear bZ fw;obtain ⟨vE,mI,c'⟩:=Kd.bt bG;subst c';have Fl:=am (show (Kd.int .i64).aC 3 wl w.heap.size (fun _=>True) (.slice vE 2 mI) ([1,y]:List Int) from bG);refine au.out _ _ (fS aK (hW U)) (fun aK=>e8 ?_);clear au K
         clear bG;have I:=hW U;replace bc:=c9 bc I;replace bq:=c9 bq I;replace vI:=c9 vI I;replace ax:=aV ax I;replace ca:=aV ca I;replace ag:=am (ag.1.grow I);clear bu e';have bu:=ae ax;have e':=ae ca;clear I U;have zL:=Fl;clear Fl;refine hn 3 1 [8] aK ?_
         iterate 1 (refine hR rfl (by intro W bU;go_simp;with_reducible rfl) ?_)
         refine bN ?_;refine fs 13 (some 67) (fun K au=> ?_);refine Kd.qG (w0:=_) kAct w.heap.size 55 (by rfl) (N:=67) rfl (xs:=([(⟨2, [], [1,y],0⟩:Act),(⟨1,ds, [],0⟩:Act)]:List Act)) (inner:= [.int .i64 2,.slice none 0 0,.slice vE 2 mI,.int .i64 0,.int .i64 1,.slice cy ds.length ez,.slice none 0 0,.int .i64 0]) (ok:=(fun _=>True)) (okp:=(fun _=>True)) (by go_simp<;>rfl) (cp.l8 (vx (⟨2, [], [1,y],0⟩:Act) (Kd.ht _ _ _ _ _) zL.1) (cp.l8 (vx (⟨1,ds, [],0⟩:Act) vI.1 (Kd.ht _ _ _ _ _)) (cp.none _ _))) (fun _ _=>trivial) trivial (Below.refl _ _) ag.1.size (by simp) ?_;intro v1 wl bG bZ U fw;clear bZ fw;obtain ⟨qI,zM,c'⟩:=Kd.bt bG;subst c';have Fm:=am (show kAct.aC 55 wl w.heap.size (fun _=>True) (.slice qI 2 zM) ([(⟨2, [], [1,y],0⟩:Act),(⟨1,ds, [],0⟩:Act)]:List Act) from bG);refine au.out _ _ (fS aK (hW U)) (fun aK=>e8 ?_);clear au K
         clear bG zL vI;have I:=hW U;replace bc:=c9 bc I;replace bq:=c9 bq I;replace ax:=aV ax I;replace ca:=aV ca I;replace ag:=am (ag.1.grow I);clear bu e';have bu:=ae ax;have e':=ae ca;clear I U;have DB:=Fm;clear Fm;have Fo:av (∀ z ∈ gJ.set 0 [(⟨2, [], [1,y],0⟩:Act),(⟨1,ds, [],0⟩:Act)],z.length<=3/\∀ a ∈ z,Rd.Bc a):=⟨fun z aX=>by rcases List.mem_or_eq_of_mem_set aX with aX | aX;exact s9.1 z aX;rw [aX];refine ⟨by simp,fun a ha=> ?_⟩;simp only [List.mem_cons,List.not_mem_nil,or_false] at ha;rcases ha with rfl|rfl;exact ⟨by simp,by simp⟩;exact ⟨s0.1,by simp⟩⟩;clear aK s9;have s9:=Fo;clear Fo;have Fp:av ((gJ.set 0 [(⟨2, [], [1,y],0⟩:Act),(⟨1,ds, [],0⟩:Act)]).length=lB):=⟨by rw [List.length_set];exact ov.1⟩;refine lM (fuel:=2) 14 (by kernel_rfl) ?_;simp only [List.drop_succ_cons,List.drop_zero]
         go_wp2_with (first
         |((with_reducible refine bT 48 68 ?_);obtain ⟨ce,Ar,_,en,_⟩:=Kd.ob bq.1 [] (0:Int) (Int.le_refl 0) h4;obtain ⟨Vn,Fq⟩:=FK bq.1 gb rfl;refine Kd.Q8 (w0:=_) (Kd.slice 55 kAct) w.heap.size rfl rfl 48 (.tmp 68) (.tmp 67) rfl 48 (0:Int) 0 gJ [(⟨2, [], [1,y],0⟩:Act),(⟨1,ds, [],0⟩:Act)] (.slice qI 2 zM) [.slice qI 2 zM] ce (fun _=>True) (fun k=>k ≠ gb) rfl rfl rfl rfl (by kernel_rfl) (by simp [Value.oneCell']) bq.1 (Int.le_refl 0) h4 Ar en (Nat.le_refl _) (by rw [List.take_zero,List.nil_append,List.drop_eq_nil_of_le (by rw [Ar];exact Nat.le_refl _),List.append_nil];exact ⟨_,rfl,Kd.cG (FT DB.1 Fq (by decide)) (fun k J=>J.2)⟩) (fun k J=>⟨trivial,J⟩) (Below.refl _ _) ?_;intro bV aT lG U;clear lG;have y1:=am aT;replace ag:=am (ag.1.grown U (fun k J=>by cases J;exact Kd.FF bq.1 gb rfl));replace bc:=am (Kd.LN bc.1 bq.1 (by decide) U);replace ca:=am (eQ ca.1 U (fun he=>Kd.rf bq.1 ca.1 (by decide) he));replace ax:=am (eQ ax.1 U (fun he=>Kd.rf bq.1 ax.1 (by decide) he));clear aT U bq DB Fq Ar en e' bu;have bq:=y1;clear y1)
         |((with_reducible refine aQ 69 ?_);refine c4 h2 0 (fR ca.1) ?_))
         clear ov;have ov:=Fp;clear Fp;obtain ⟨o2,Fs⟩:∃ z,z=gJ.set 0 [(⟨2, [], [1,y],0⟩:Act),(⟨1,ds, [],0⟩:Act)]:=⟨_,rfl⟩;rw [show Int.toNat 0=0 from rfl] at bq;rw [<-Fs] at ov s9 bq;have e':=ae ca;have bu:=ae ax;clear Fs;obtain ⟨g9,vJ,fz⟩:=Kd.ie bc.1;obtain ⟨fU,vK,db⟩:=Kd.ie bq.1;have cR:av (cN.K _ (⟨cs,o2⟩:Prog) [.slice A eo dW,.slice (some ⟨gb,0,none⟩) eX fE]):=⟨by have h:=F4 (⟨cs,o2⟩:Prog) (by rw [<-g9];exact vJ) fz (by rw [<-fU];exact vK) db;rw [show (⟨cs,o2⟩:Prog).cells.length=eo from g9.symm,show (⟨cs,o2⟩:Prog).an.length=eX from fU.symm] at h;exact h⟩;clear fz db vJ vK;have cK:av (jI (⟨cs,o2⟩:Prog)):=⟨Im (by have:=vX.1;have:=fC.1;show cs.length<=4;omega) (by have:=ov.1;have:=gR.1;show o2.length<=4;omega) s9.1⟩;obtain ⟨Et,yG⟩:∃ x,k2 (⟨cs,o2⟩:Prog)=x:=⟨_,rfl⟩;have mJ:=am yG;clear yG
         cases Et with
         | false=>
          go_wp2_with (first
          |((with_reducible refine aQ 69 ?_);refine c4 h2 0 (fR ca.1) ?_)
          |(go_at_call 47;refine (sv _ _ _ cR.1 cK.1).mono ?_;rw [mJ.1];rintro e wn ⟨rfl,I⟩;clear cR;replace bc:=c9 bc I;replace bq:=c9 bq I;replace ax:=aV ax I;replace ca:=aV ca I;replace ag:=am (ag.1.grow I);clear bu e';have bu:=ae ax;have e':=ae ca;clear I))
          have DC:=zj aJ (by decide);go_roundw
          case rel=>exact ⟨i+1,by omega,by go_num,_,ag,⟨by have:=cd.1;omega⟩,ax⟩
          case measure=>first | exact Bd aJ | exact CJ aJ DC
         | true=>
          go_wp2_with (first
          |((with_reducible refine aQ 69 ?_);refine c4 h2 0 (fR ca.1) ?_)
          |(go_at_call 47;refine (sv _ _ _ cR.1 cK.1).mono ?_;rw [mJ.1];rintro e wn ⟨rfl,I⟩;clear cR;replace bc:=c9 bc I;replace bq:=c9 bq I;replace ax:=aV ax I;replace ca:=aV ca I;replace ag:=am (ag.1.grow I);clear bu e';have bu:=ae ax;have e':=ae ca;clear I)
          |((with_reducible refine aQ 71 ?_);refine c4 h2 0 (fR ca.1) ?_)
          |((with_reducible refine bT 26 2 ?_);refine dG ax ?_;intro wn ad U;have h':=am ad;replace bc:=g6 bc ax U;replace bq:=g6 bq ax U;replace ag:=am (ag.1.grown U (fun k J=>by cases J;exact s8.1));clear ax bu;have ax:=h';clear h' ad U;have bu:=ae ax))
          refine bodyPost_ret (sx Tryz.results59 (.cell fp 26 #[.slice A eo dW,.slice (some ⟨gb,0,none⟩) eX fE] (0,0) _ rfl ax.1 Tryz.underlying26 rfl (by kernel_rfl) .nil)) rfl ?_;exact ⟨(⟨cs,o2⟩:Prog),_,_,_,rfl,mJ.1,cK.1,(by have:=vX.1;have:=fC.1;show 1<=cs.length;omega),bc.1,bq.1,ag.1.rd,cd.1.1,by have:=cd.1.2;omega,ag.1.below,ag.1.lo⟩
       ·clear aX
        obtain ⟨g9,vJ,fz⟩:=Kd.ie bc.1;obtain ⟨fU,vK,db⟩:=Kd.ie bq.1;have cR:av (cN.K _ (⟨cs,gJ⟩:Prog) [.slice A eo dW,.slice B eX fE]):=⟨by have h:=F4 (⟨cs,gJ⟩:Prog) (by rw [<-g9];exact vJ) fz (by rw [<-fU];exact vK) db;rw [show (⟨cs,gJ⟩:Prog).cells.length=eo from g9.symm,show (⟨cs,gJ⟩:Prog).an.length=eX from fU.symm] at h;exact h⟩;clear fz db vJ vK;have cK:av (jI (⟨cs,gJ⟩:Prog)):=⟨Im (by have:=vX.1;have:=fC.1;show cs.length<=4;omega) (by have:=ov.1;have:=gR.1;show gJ.length<=4;omega) s9.1⟩;obtain ⟨Et,yG⟩:∃ x,k2 (⟨cs,gJ⟩:Prog)=x:=⟨_,rfl⟩;have mJ:=am yG;clear yG
        cases Et with
        | false=>
         go_wp2_with (first
         |((with_reducible refine aQ 69 ?_);refine c4 h2 0 (fR ca.1) ?_)
         |(go_at_call 47;refine (sv _ _ _ cR.1 cK.1).mono ?_;rw [mJ.1];rintro e wn ⟨rfl,I⟩;clear cR;replace bc:=c9 bc I;replace bq:=c9 bq I;replace ax:=aV ax I;replace ca:=aV ca I;replace ag:=am (ag.1.grow I);clear bu e';have bu:=ae ax;have e':=ae ca;clear I))
         have DC:=zj aJ (by decide);go_roundw
         case rel=>exact ⟨i+1,by omega,by go_num,_,ag,⟨by have:=cd.1;omega⟩,ax⟩
         case measure=>first | exact Bd aJ | exact CJ aJ DC
        | true=>
         go_wp2_with (first
         |((with_reducible refine aQ 69 ?_);refine c4 h2 0 (fR ca.1) ?_)
         |(go_at_call 47;refine (sv _ _ _ cR.1 cK.1).mono ?_;rw [mJ.1];rintro e wn ⟨rfl,I⟩;clear cR;replace bc:=c9 bc I;replace bq:=c9 bq I;replace ax:=aV ax I;replace ca:=aV ca I;replace ag:=am (ag.1.grow I);clear bu e';have bu:=ae ax;have e':=ae ca;clear I)
         |((with_reducible refine aQ 71 ?_);refine c4 h2 0 (fR ca.1) ?_)
         |((with_reducible refine bT 26 2 ?_);refine dG ax ?_;intro wn ad U;have h':=am ad;replace bc:=g6 bc ax U;replace bq:=g6 bq ax U;replace ag:=am (ag.1.grown U (fun k J=>by cases J;exact s8.1));clear ax bu;have ax:=h';clear h' ad U;have bu:=ae ax))
         refine bodyPost_ret (sx Tryz.results59 (.cell fp 26 #[.slice A eo dW,.slice B eX fE] (0,0) _ rfl ax.1 Tryz.underlying26 rfl (by kernel_rfl) .nil)) rfl ?_;exact ⟨(⟨cs,gJ⟩:Prog),_,_,_,rfl,mJ.1,cK.1,(by have:=vX.1;have:=fC.1;show 1<=cs.length;omega),bc.1,bq.1,ag.1.rd,cd.1.1,by have:=cd.1.2;omega,ag.1.below,ag.1.lo⟩
  ·obtain rfl:i=10:=by omega
   go_wp2_with (first
   |((with_reducible refine aQ 72 ?_);refine Kd.jX (Kd.int .i64) (w0:=_) w.heap.size 3 rfl (N:=72) rfl (xs:=([1]:List Int)) (inner:= [.int .i64 1]) (ok:=(fun _=>True)) (okp:=(fun _=>True)) (by go_simp<;>rfl) (cp.one rfl (cp.none _ _)) (fun _ _=>trivial) trivial (Below.refl _ _) ag.1.size (by simp) ?_;intro v1 wl bG bZ U fw;clear bZ fw;obtain ⟨Ow,Ox,c'⟩:=Kd.bt bG;subst c';have Fk:=am (show (Kd.int .i64).aC 3 wl w.heap.size (fun _=>True) (.slice Ow 1 Ox) ([1]:List Int) from bG);clear bG;have I:=hW U;replace ax:=aV ax I;replace ag:=am (ag.1.grow I);clear bu;have bu:=ae ax;clear I U;have bc:=Fk;clear Fk)
   |((with_reducible refine aQ 73 ?_);refine Kd.jX (Kd.int .i64) (w0:=_) w.heap.size 3 rfl (N:=73) rfl (xs:=([1,1]:List Int)) (inner:= [.int .i64 1,.int .i64 1]) (ok:=(fun _=>True)) (okp:=(fun _=>True)) (by go_simp<;>rfl) (cp.one rfl (cp.one rfl (cp.none _ _))) (fun _ _=>trivial) trivial (Below.refl _ _) ag.1.size (by simp) ?_;intro v1 wl bG bZ U fw;clear bZ fw;obtain ⟨Oy,Oz,c'⟩:=Kd.bt bG;subst c';have Qa:=am (show (Kd.int .i64).aC 3 wl w.heap.size (fun _=>True) (.slice Oy 2 Oz) ([1,1]:List Int) from bG);clear bG;have I:=hW U;replace bc:=c9 bc I;replace ax:=aV ax I;replace ag:=am (ag.1.grow I);clear bu;have bu:=ae ax;clear I U;have lR:=Qa;clear Qa)
   |((with_reducible refine aQ 75 ?_);refine Kd.jX kAct (w0:=_) w.heap.size 55 rfl (N:=75) rfl (xs:=([(⟨2, [], [1,1],0⟩:Act)]:List Act)) (inner:= [.int .i64 2,.slice none 0 0,.slice Oy 2 Oz,.int .i64 0]) (ok:=(fun _=>True)) (okp:=(fun _=>True)) (by go_simp<;>rfl) (cp.l8 (vx (⟨2, [], [1,1],0⟩:Act) (Kd.ht _ _ _ _ _) lR.1) (cp.none _ _)) (fun _ _=>trivial) trivial (Below.refl _ _) ag.1.size (by simp) ?_;intro v1 wl bG bZ U fw;clear bZ fw;obtain ⟨OA,OB,c'⟩:=Kd.bt bG;subst c';have y0:=am (show kAct.aC 55 wl w.heap.size (fun _=>True) (.slice OA 1 OB) ([(⟨2, [], [1,1],0⟩:Act)]:List Act) from bG);clear bG;have I:=hW U;replace bc:=c9 bc I;replace lR:=c9 lR I;replace ax:=aV ax I;replace ag:=am (ag.1.grow I);clear bu;have bu:=ae ax;clear I U;have oS:=y0;clear y0)
   |((with_reducible refine aQ 79 ?_);refine Kd.jX kDeed (w0:=_) w.heap.size 62 rfl (N:=79) rfl (xs:=([⟨1,0,0⟩,⟨4,0,0⟩,⟨2,0,0⟩]:List Deed)) (inner:= [.int .i64 1,.int .i64 0,.int .i64 0,.int .i64 4,.int .i64 0,.int .i64 0,.int .i64 2,.int .i64 0,.int .i64 0]) (ok:=(fun _=>True)) (okp:=(fun _=>True)) (by go_simp<;>rfl) (cp.bO (zg (⟨1,0,0⟩:Deed)) (cp.bO (zg (⟨4,0,0⟩:Deed)) (cp.bO (zg (⟨2,0,0⟩:Deed)) (cp.none _ _)))) (fun _ _=>trivial) trivial (Below.refl _ _) ag.1.size (by simp) ?_;intro v1 wl bG bZ U fw;clear bZ fw;obtain ⟨OC,OD,c'⟩:=Kd.bt bG;subst c';have vg:=am (show kDeed.aC 62 wl w.heap.size (fun _=>True) (.slice OC 3 OD) ([⟨1,0,0⟩,⟨4,0,0⟩,⟨2,0,0⟩]:List Deed) from bG);clear bG;have I:=hW U;replace bc:=c9 bc I;replace oS:=c9 oS I;replace ax:=aV ax I;replace ag:=am (ag.1.grow I);clear bu;have bu:=ae ax;clear I U;have hi:=vg;clear vg)
   |((with_reducible refine aQ 81 ?_);refine Kd.jX kAct (w0:=_) w.heap.size 55 rfl (N:=81) rfl (xs:=([(⟨1, [⟨1,0,0⟩,⟨4,0,0⟩,⟨2,0,0⟩], [],0⟩:Act)]:List Act)) (inner:= [.int .i64 1,.slice OC 3 OD,.slice none 0 0,.int .i64 0]) (ok:=(fun _=>True)) (okp:=(fun _=>True)) (by go_simp<;>rfl) (cp.l8 (vx (⟨1, [⟨1,0,0⟩,⟨4,0,0⟩,⟨2,0,0⟩], [],0⟩:Act) hi.1 (Kd.ht _ _ _ _ _)) (cp.none _ _)) (fun _ _=>trivial) trivial (Below.refl _ _) ag.1.size (by simp) ?_;intro v1 wl bG bZ U fw;clear bZ fw;obtain ⟨OE,OF,c'⟩:=Kd.bt bG;subst c';have Qb:=am (show kAct.aC 55 wl w.heap.size (fun _=>True) (.slice OE 1 OF) ([(⟨1, [⟨1,0,0⟩,⟨4,0,0⟩,⟨2,0,0⟩], [],0⟩:Act)]:List Act) from bG);clear bG;have I:=hW U;replace bc:=c9 bc I;replace oS:=c9 oS I;replace hi:=c9 hi I;replace ax:=aV ax I;replace ag:=am (ag.1.grow I);clear bu;have bu:=ae ax;clear I U;have pq:=Qb;clear Qb)
   |((with_reducible refine aQ 82 ?_);refine Kd.jX (Kd.slice 55 kAct) (w0:=_) w.heap.size 48 rfl (N:=82) rfl (xs:=([[(⟨2, [], [1,1],0⟩:Act)], [(⟨1, [⟨1,0,0⟩,⟨4,0,0⟩,⟨2,0,0⟩], [],0⟩:Act)]]:List (List Act))) (inner:= [.slice OA 1 OB,.slice OE 1 OF]) (ok:=(fun _=>True)) (okp:=(fun _=>True)) (by go_simp<;>rfl) (cp.one ⟨_,rfl,oS.1⟩ (cp.one ⟨_,rfl,pq.1⟩ (cp.none _ _))) (fun _ _=>trivial) trivial (Below.refl _ _) ag.1.size (by simp) ?_;intro v1 wl bG bZ U fw;clear bZ fw;obtain ⟨OG,OH,c'⟩:=Kd.bt bG;subst c';have y1:=am (show (Kd.slice 55 kAct).aC 48 wl w.heap.size (fun _=>True) (.slice OG 2 OH) ([[(⟨2, [], [1,1],0⟩:Act)], [(⟨1, [⟨1,0,0⟩,⟨4,0,0⟩,⟨2,0,0⟩], [],0⟩:Act)]]:List (List Act)) from bG);clear bG;have I:=hW U;replace bc:=c9 bc I;replace ax:=aV ax I;replace ag:=am (ag.1.grow I);clear bu;have bu:=ae ax;clear I U;have bq:=y1;clear y1)
   |((with_reducible refine bT 26 2 ?_);refine dG ax ?_;intro wn ad U;have h':=am ad;replace bc:=g6 bc ax U;replace bq:=g6 bq ax U;replace ag:=am (ag.1.grown U (fun k J=>by cases J;exact s8.1));clear ax bu;have ax:=h';clear h' ad U;have bu:=ae ax))
   refine bodyPost_ret (sx Tryz.results59 (.cell fp 26 #[.slice Ow 1 Ox,.slice OG 2 OH] (0,0) _ rfl ax.1 Tryz.underlying26 rfl (by kernel_rfl) .nil)) rfl ?_;exact ⟨(⟨[1], [[(⟨2, [], [1,1],0⟩:Act)], [(⟨1, [⟨1,0,0⟩,⟨4,0,0⟩,⟨2,0,0⟩], [],0⟩:Act)]]⟩:Prog),_,_,_,rfl,Yt,Yu,(by decide),bc.1,bq.1,ag.1.rd,cd.1.1,by have:=cd.1.2;omega,ag.1.below,ag.1.lo⟩
end Go.Proofs.YteajdhhmkjblnaaGreatDoor.Eq
namespace Go.Proofs.YteajdhhmkjblnaaGreatDoor.Eq
section
variable {s:Sys} {i:Nat}
theorem L2 (w:Int):(ib s i w).tasks.length=s.tasks.length:=c5 _ _ _
theorem Sw (w:Int):(k4 s i w).tasks.length=s.tasks.length:=c5 _ _ _
theorem ZH (w:Int):(done s i w).tasks.length=s.tasks.length:=c5 _ _ _
theorem ZI (d:Deed):(load s i d).tasks.length=s.tasks.length:=by
 unfold load;simp only [];split
 ·exact c5 _ _ _
 ·split
  ·exact m1
  ·exact c5 _ _ _
theorem ZJ (ds:List Deed):(n7 s i ds).tasks.length=s.tasks.length:=by
 unfold n7;simp only [];split
 ·split
  ·exact ZH _
  ·exact Sw _
 ·split
  ·exact ZI _
  ·split
   ·exact c5 _ _ _
   ·split
    ·exact (c5 _ _ _).trans m1
    ·exact c5 _ _ _
theorem ZK:(lock s i).tasks.length=s.tasks.length:=by
 unfold lock;simp only [];split
 ·exact m1
 ·exact c5 _ _ _
theorem aal:(check s i).tasks.length=s.tasks.length:=by
 unfold check;simp only [];split
 ·exact Sw _
 ·split
  ·exact m1
  ·exact c5 _ _ _
theorem Y4 (ds:List Deed):(jT s i ds).tasks.length=s.tasks.length:=by
 unfold jT;repeat' split
 ·exact c5 _ _ _
 ·exact ZJ _
 ·exact ZK
 ·exact c5 _ _ _
 ·exact aal
 ·exact wC
theorem aaR:(pg s i).tasks.length=s.tasks.length:=by
 unfold pg;split
 ·exact c5 _ _ _
 ·exact (L2 _).trans Ij
theorem ZL (p:Prog):s.tasks.length<=(step p s i).tasks.length:=by
 unfold step;simp only [];repeat' split
 ·exact Nat.le_of_eq aaR.symm
 ·exact Nat.le_of_eq (L2 _).symm
 ·exact Nat.le_of_eq (Y4 _).symm
 ·rw [RB];omega
 ·exact Nat.le_of_eq (L2 _).symm
 ·exact Nat.le_of_eq (c5 _ _ _).symm
end
theorem ZM (p:Prog) (s:Sys) (k:Int):s.tasks.length<=(lK p s k).tasks.length:=by
 unfold lK;split
 ·exact ZL p
 ·exact Nat.le_refl _
theorem zk (p:Prog):∀ (aY:List Int) (s:Sys),s.tasks.length<=(turns p s aY).tasks.length
 | [],s=>Nat.le_refl _
 | k :: aY,s=>Nat.le_trans (ZM p s k) (zk p aY _)
theorem Inv.th {p:Prog} {s:Sys} {N:Nat} (h:Inv p s N) (cz:N<=1000000):oC s where
 cells:=Nat.le_trans h.sz (by decide)
 tasks:=Nat.le_trans h.many (by omega)
 log:=by have:=h.room;omega
 task:=fun i aa=>⟨by rw [show (aD s.tasks i).aL.length=3 from (h.task i aa).aL.len];decide,by rw [show (aD s.tasks i).bE.length=3 from (h.task i aa).bE.len];decide,Nat.le_trans (h.reads aa) (by decide),Nat.le_trans (h.ai aa) (by decide)⟩
 kX:=fun i aa=>by
  have:=h.kX (eh s.log i) (by simp [eh,List.getD_eq_getElem?_getD,List.getElem?_eq_getElem aa])
  exact ⟨by omega,by omega⟩
end Go.Proofs.YteajdhhmkjblnaaGreatDoor.Eq
namespace Go.Proofs.YteajdhhmkjblnaaGreatDoor.Eq
open Go.RowKit Go.Proofs.YteajdhhmkjblnaaGreatDoorW.PrintWords Go.Proofs.YteajdhhmkjblnaaGreatDoorW.PrintLast Go.Proofs.YteajdhhmkjblnaaGreatDoorW.PrintMore
theorem QV {W:World} {base:Nat} {p:Prog} {aG a8:Value} (h1:(Kd.int .i64).aC 3 W base (fun _=>True) aG p.cells) (ar:(Kd.slice 55 kAct).aC 48 W base (fun _=>True) a8 p.an):cN.K W p [aG,a8]:=by
 obtain ⟨cX,bL,rfl,g9,fz⟩:=Kd.fG h1;obtain ⟨dX,cu,rfl,fU,db⟩:=Kd.fG ar;exact F4 p g9 fz fU db
theorem Yv {W:World} {base:Nat} {p:Prog} {aG aZ aP:Value} (h1:iU.aC 50 W base (fun _=>True) aG (kH p).cells) (ar:eV.aC 38 W base (fun _=>True) aZ (kH p).tasks) (aA:hf.aC 105 W base (fun _=>True) aP (kH p).log):cS.K W (kH p) [aG,aZ,.int .i64 0,aP]:=FU.read ⟨h1,ar,aA⟩
def Y5 (w0 w:World) (g:Nat) (b:List Int) (bz:Int) (e:Ending) (af:World):Prop:=∃ (p:Prog) (s:Sys) (aG a8 tF st I3:Value) (own:Nat->Nat) (q:Int) (N:Nat),e= .returned (.tuple #[.agg #[aG,a8],.agg #[tF,st,.int .i64 s.clock,I3]])/\k2 p=true/\jI p/\1<=p.cells.length/\(Kd.int .i64).aC 3 af w.heap.size (fun _=>True) aG p.cells/\(Kd.slice 55 kAct).aC 48 af w.heap.size (fun _=>True) a8 p.an/\Inv p s N/\N<=500/\1<=s.tasks.length/\b8 w.heap.size own s tF st I3 af/\ee w0 w g b q af/\bz<=q/\q<=bz+7000
theorem abG (w0 w:World) (g:Nat) (b:List Int) (bz:Int) (j4:Rd.IsS101 w0 w g b bz) (dt:Below w0.heap.size w0 w) (ay:Rd.Code b) (aq:0<=bz) (h1:bz<=500000):
  Calls Tryz.prog 42 #[.pointer (some ⟨g,0,none⟩)] w fun e af=>Y5 w0 w g b bz e af:=by
 have ag:=am (ee.start j4 dt aq);have cl:=am ay;have lH:=am h1;have cd:=am (show bz<=bz/\bz<=bz from ⟨Int.le_refl _,Int.le_refl _⟩);clear j4 dt ay aq h1;go_enter Tryz.func42,Tryz.ntmps42
 go_wp2_with (first
 |((with_reducible refine aQ 2 ?_);refine b6 26 ?_;intro fp e5 wn ad I;have h':=am ad;have s8:=am (show w.heap.size<=fp from Nat.le_trans ag.1.size (Nat.le_of_eq e5.symm));clear ad e5;replace ag:=am (ag.1.grow I);clear I;have ax:=h';clear h';have bu:=ae ax)
 |((with_reducible refine aQ 3 ?_);refine b6 31 ?_;intro hL e5 wn ad I;have mv:=am ad;have As:=am (show w.heap.size<=hL from Nat.le_trans ag.1.size (Nat.le_of_eq e5.symm));have XX:=am (show fp ≠ hL from fun he=>by have:=dK ax.1;omega);clear ad e5;replace ax:=aV ax I;replace ag:=am (ag.1.grow I);clear bu;have bu:=ae ax;clear I;have bj:=mv;clear mv;have cM:=ae bj)
 |(go_at_call 59;refine (abU w0 _ g b bz ag.1.rd ag.1.below cl.1 ag.1.pos lH.1).mono ?_;rintro e wn ⟨p,aG,a8,bY,rfl,c7,cP,bQ,r5,r6,aa,fk,nz,fP,J⟩;replace cd:=am (show bz<=bY/\bY<=bz+5000 from ⟨fk,nz⟩);have aO:=ag.1.next aa fP J (Int.le_trans ag.1.pos fk);have kN:=ag.1.size;clear aa fP;clear fk nz;replace ax:=am (ag.1.dH J ax.1 (by decide));replace bj:=am (ag.1.dH J bj.1 (by decide));replace ag:=am (aO);clear bu cM;have bu:=ae ax;have cM:=ae bj;clear J aO;obtain ⟨A,dW,c'⟩:=Kd.bt r5;subst c';obtain ⟨B,fE,c'⟩:=Kd.bt r6;subst c';obtain ⟨eo,eN⟩:∃ z:Nat,z=p.cells.length:=⟨_,rfl⟩;obtain ⟨eX,h4⟩:∃ z:Nat,z=p.an.length:=⟨_,rfl⟩;rw [<-eN] at r5;rw [<-h4] at r6;rw [<-eN,<-h4];have bc:=am (Kd.ft r5 kN);have bq:=am (Kd.ft r6 kN);have zJ:=am eN;have DA:=am h4;have mJ:=am c7;have cK:=am cP;have nZ:=am bQ;clear r5 r6 kN eN h4 c7 cP bQ)
 |((with_reducible refine aQ 4 ?_);refine b6 26 ?_;intro de e5 wn ad I;have vh:=am ad;have Ke:=am (show w.heap.size<=de from Nat.le_trans ag.1.size (Nat.le_of_eq e5.symm));have qn:=am (show fp ≠ de from fun he=>by have:=dK ax.1;omega);clear ad e5;replace bc:=c9 bc I;replace bq:=c9 bq I;replace ax:=aV ax I;replace bj:=aV bj I;replace ag:=am (ag.1.grow I);clear bu cM;have bu:=ae ax;have cM:=ae bj;clear I;have aj:=vh;clear vh;have a5:=ae aj)
 |((with_reducible refine bT 26 4 ?_);refine dG aj ?_;intro wn ad U;have vh:=am ad;replace bc:=g6 bc aj U;replace bq:=g6 bq aj U;replace ax:=fV ax U qn.1;replace bj:=fV bj U (g7 bj.1 aj.1 (by decide));replace ag:=am (ag.1.grown U (fun k J=>by cases J;exact Ke.1));clear aj bu cM a5;have aj:=vh;clear vh ad U;have bu:=ae ax;have cM:=ae bj;have a5:=ae aj)
 |((with_reducible refine aQ 10 ?_);refine c4 de 0 (fR aj.1) ?_)
 |(go_at_call 60;refine (aaQ p _ true _ (QV bc.1 bq.1) cK.1 mJ.1).mono ?_;rintro e wn ⟨GG,acs,nl,rfl,I,ml,-⟩;obtain ⟨lF,Hn,Ho⟩:=ml rfl;clear ml;obtain ⟨DD,ep,c'⟩:=Kd.bt lF;subst c';obtain ⟨lS,aU,c'⟩:=Kd.bt Hn;subst c';obtain ⟨x9,dz,c'⟩:=Kd.bt Ho;subst c';obtain ⟨z0,jQ⟩:∃ z:Nat,z=(kH p).cells.length:=⟨_,rfl⟩;obtain ⟨gq,rR⟩:∃ z:Nat,z=(kH p).tasks.length:=⟨_,rfl⟩;obtain ⟨z3,Cg⟩:∃ z:Nat,z=(kH p).log.length:=⟨_,rfl⟩;rw [<-jQ] at lF;rw [<-rR] at Hn;rw [<-Cg] at Ho;rw [<-jQ,<-rR,<-Cg];have kN:=ag.1.size;have tG:=am (Kd.ft lF kN);have tH:=am (Kd.ft Hn kN);have tI:=am (Kd.ft Ho kN);clear lF Hn Ho kN jQ rR Cg;replace bc:=c9 bc I;replace bq:=c9 bq I;replace ax:=aV ax I;replace bj:=aV bj I;replace aj:=aV aj I;replace ag:=am (ag.1.grow I);clear bu cM a5;have bu:=ae ax;have cM:=ae bj;have a5:=ae aj;clear I)
 |((with_reducible refine aQ 5 ?_);refine b6 31 ?_;intro gs e5 wn ad I;have nd:=am ad;have Ch:=am (show w.heap.size<=gs from Nat.le_trans ag.1.size (Nat.le_of_eq e5.symm));have ti:=am (show hL ≠ gs from fun he=>by have:=dK bj.1;omega);clear ad e5;replace bc:=c9 bc I;replace bq:=c9 bq I;replace tG:=c9 tG I;replace tH:=c9 tH I;replace tI:=c9 tI I;replace ax:=aV ax I;replace bj:=aV bj I;replace aj:=aV aj I;replace ag:=am (ag.1.grow I);clear bu cM a5;have bu:=ae ax;have cM:=ae bj;have a5:=ae aj;clear I;have al:=nd;clear nd;have bg:=ae al)
 |((with_reducible refine bT 31 5 ?_);refine dG al ?_;intro wn ad U;have nd:=am ad;replace bc:=g6 bc al U;replace bq:=g6 bq al U;replace tG:=g6 tG al U;replace tH:=g6 tH al U;replace tI:=g6 tI al U;replace ax:=fV ax U (g7 ax.1 al.1 (by decide));replace bj:=fV bj U ti.1;replace aj:=fV aj U (g7 aj.1 al.1 (by decide));replace ag:=am (ag.1.grown U (fun k J=>by cases J;exact Ch.1));clear al bu cM a5 bg;have al:=nd;clear nd ad U;have bu:=ae ax;have cM:=ae bj;have a5:=ae aj;have bg:=ae al))
 refine kO (n:=12) (S:=fun W=>W.heap[de]? = some (.cells #[.slice A eo dW,.slice B eX fE] 26 (0,0))/\W.heap[gs]? = some (.cells #[.slice DD z0 ep,.slice lS gq aU,.int .i64 0,.slice x9 z3 dz] 31 (0,0))) (ds:= [11]) (by kernel_rfl) rfl ⟨gW aj.1,gW al.1⟩ (fun aK=> ?_);have I:=ei (Below.refl wn.heap.size wn);generalize wn.drew=fN at I aK ⊢;replace bc:=c9 bc I;replace bq:=c9 bq I;replace tG:=c9 tG I;replace tH:=c9 tH I;replace tI:=c9 tI I;replace ax:=aV ax I;replace bj:=aV bj I;replace aj:=aV aj I;replace al:=aV al I;replace ag:=am (ag.1.grow I);clear bu cM a5 bg;have bu:=ae ax;have cM:=ae bj;have a5:=ae aj;have bg:=ae al;clear I;refine hn 8 4 [0,1,2,3] aK ?_
 iterate 4 (refine hR rfl (by rintro W ⟨bU,s1⟩;have t0:=bf bU;have t1:=bf s1;clear bU s1;go_simp;with_reducible rfl) ?_)
 refine bN ?_;refine fs 4 (some 19) (fun K au=> ?_);refine kW Tryz.func40 #[.pointer (some ⟨g,0,none⟩),.int .i64 120] ?_;refine (ig ag.1 cl.1 (by have:=cd.1;have:=lH.1;omega) 120).mono ?_;rintro e acu ⟨x,bY,rfl,az,fk,aO,J⟩;refine ⟨_,rfl, ?_⟩;refine au.out _ _ (⟨ag.1.dH J aK.1 (by decide),ag.1.dH J aK.2 (by decide)⟩) (fun aK=>e8 ?_);clear au K
 replace cd:=am (show bz<=bY/\bY<=bz+5001 from by have:=cd.1;(try have:=fC.1);(try have:=gR.1);omega);clear fk;replace bc:=am (ag.1.fa J bc.1 (by decide));replace bq:=am (ag.1.fa J bq.1 (by decide));replace tG:=am (ag.1.fa J tG.1 (by decide));replace tH:=am (ag.1.fa J tH.1 (by decide));replace tI:=am (ag.1.fa J tI.1 (by decide));replace ax:=am (ag.1.dH J ax.1 (by decide));replace bj:=am (ag.1.dH J bj.1 (by decide));replace aj:=am (ag.1.dH J aj.1 (by decide));replace al:=am (ag.1.dH J al.1 (by decide));replace ag:=am (aO);clear bu cM a5 bg;have bu:=ae ax;have cM:=ae bj;have a5:=ae aj;have bg:=ae al;clear J aO;have fw:x<=119:=by omega
 clear az;obtain ⟨y,aW⟩:∃ y:Int,y=10+(x:Int):=⟨_,rfl⟩;have nR:wrap64 y=y:=Rd.wrap_in (by omega) (by omega);have vV:0<=y:=by omega
 have J9:y<=190:=by omega
 clear fw;refine hn 6 1 [5] aK ?_;refine Gl (v:= ?_) (a':= ?_) rfl (Or.inl ⟨by rfl, ?_⟩) ?_ ?_;rotate_left
 ·intro W bU
  go_simp
  with_reducible rfl
 rotate_left
 ·simp only [Act.put,nL,nM,nN,k0]
  rfl
 refine bN ?_;rw [<-aW];rw [nR];clear nR aW;refine fs 6 (some 21) (fun K au=> ?_);refine kW Tryz.func55 #[.pointer (some ⟨g,0,none⟩),.int .i64 y] ?_;refine (aak ag.1 cl.1 (by have:=cd.1;have:=lH.1;omega) vV J9).mono ?_;rintro e acv ⟨v,aY,bY,rfl,bp,hl,fk,nz,aO,J⟩;refine ⟨_,rfl, ?_⟩;refine au.out _ _ (⟨ag.1.dH J aK.1 (by decide),ag.1.dH J aK.2 (by decide)⟩) (fun aK=>e8 ?_);clear au K
 replace cd:=am (show bz<=bY/\bY<=bz+6001 from by have:=cd.1;(try have:=fC.1);(try have:=gR.1);omega);clear fk nz;replace bc:=am (ag.1.fa J bc.1 (by decide));replace bq:=am (ag.1.fa J bq.1 (by decide));replace tG:=am (ag.1.fa J tG.1 (by decide));replace tH:=am (ag.1.fa J tH.1 (by decide));replace tI:=am (ag.1.fa J tI.1 (by decide));replace ax:=am (ag.1.dH J ax.1 (by decide));replace bj:=am (ag.1.dH J bj.1 (by decide));replace aj:=am (ag.1.dH J aj.1 (by decide));replace al:=am (ag.1.dH J al.1 (by decide));replace ag:=am (aO);clear bu cM a5 bg;have bu:=ae ax;have cM:=ae bj;have a5:=ae aj;have bg:=ae al;clear J aO;obtain ⟨eF,eJ,c'⟩:=Kd.bt bp;subst c';have OI:=(Kd.ie bp).2.2;clear bp vV J9;refine fs 7 (some 22) (fun K au=> ?_);refine kW Tryz.func32 #[.agg #[.slice A eo dW,.slice B eX fE],.agg #[.slice DD z0 ep,.slice lS gq aU,.int .i64 0,.slice x9 z3 dz],.slice eF aY.length eJ] ?_;have hinv:=Inv.new mJ.1;refine (abF p _ (kH p) [.slice DD z0 ep,.slice lS gq aU,.int .i64 0,.slice x9 z3 dz] aY eF eJ _ (QV bc.1 bq.1) (Yv tG.1 tH.1 tI.1) cK.1 (hinv.th (by decide)) (by have:=hinv.room;have:=hinv.many;omega) OI).mono ?_;rintro e wc ⟨c6,gp,rfl,I,fA,Qc,-⟩;refine ⟨_,rfl, ?_⟩;have Vo:gp=true:=by rw [fA,RR mJ.1,decide_eq_true (by omega:aY.length<=300)];rfl
 subst Vo;obtain ⟨own,adf,adg,adh,rfl,iA⟩:=Qc rfl;clear Qc fA;have Kf:=hinv.turns aY;have mj:=zk p aY (kH p);have eD:av (1+2*aY.length<=500):=⟨by omega⟩;obtain ⟨bs,uj⟩:∃ z,z=turns p (kH p) aY:=⟨_,rfl⟩;rw [<-uj] at iA Kf mj;rw [<-uj];have iB:=am Kf;have lZ:av (1<=bs.tasks.length):=⟨mj⟩;obtain ⟨jB,i',b1⟩:=Kd.bt iA.cells;obtain ⟨ma,ut,eg⟩:=Kd.bt iA.tasks;obtain ⟨jq,ul,eL⟩:=Kd.bt iA.log;rw [fH] at eg;subst b1 eg eL;have kl:=am (iA.low fp (dK ax.1));have km:=am (iA.low hL (dK bj.1));have gK:=am (iA.low gs (dK al.1));have bd:=am (iA.lower ag.1.size);clear iA Kf mj hinv uj OI hl;refine au.out _ _ (⟨fS aK.1 I,fS aK.2 I⟩) (fun aK=>e8 ?_);clear au K
 replace bc:=c9 bc I;replace bq:=c9 bq I;replace ax:=aV ax I;replace bj:=aV bj I;replace aj:=aV aj I;replace al:=aV al I;replace ag:=am (ag.1.grow I);clear bu cM a5 bg;have bu:=ae ax;have cM:=ae bj;have a5:=ae aj;have bg:=ae al;clear I;refine hn 2 2 [8,9] aK ?_
 iterate 2 (refine hR rfl (by intro W fx;go_simp;with_reducible rfl) ?_)
 refine bN ?_;obtain ⟨ad,U⟩:=zn (cs:= [.slice jB bs.cells.length i',.slice ma bs.tasks.length ut,.int .i64 bs.clock,.slice jq bs.log.length ul]) al.1 rfl;refine Sf (i:=10) (j:=11) (N:=some 24) (fuel:=0) (a':= ?a2) (v:=.bool true) (w1:=wc.setCells gs 0 [.slice jB bs.cells.length i',.slice ma bs.tasks.length ut,.int .i64 bs.clock,.slice jq bs.log.length ul]) rfl rfl rfl (by kernel_rfl) (by decide) (fun _=>rfl) (fun _=>rfl) (by intro W;first|(go_simp;done)|(go_simp;rfl)) ?ha ?hj1 ?hj2 ?h
 case ha=>
  simp only [Act.put,nL,nM,nN,k0];rfl
 case hj1=>exact fun K au=>wB rfl 31 (.tmp 5) (.tmp 23) rfl rfl rfl al.1 rfl (by kernel_rfl) (oI rfl) au
 case hj2=>exact fun K au=>wB rfl 31 (.tmp 5) (.tmp 23) rfl rfl rfl al.1 rfl (by kernel_rfl) (oI rfl) au
 case h=>
  clear aK;have nd:=am ad;generalize wc.setCells gs 0 [.slice jB bs.cells.length i',.slice ma bs.tasks.length ut,.int .i64 bs.clock,.slice jq bs.log.length ul]=bV at U ad nd ⊢;replace bc:=g6 bc al U;replace bq:=g6 bq al U;replace ax:=fV ax U (g7 ax.1 al.1 (by decide));replace bj:=fV bj U ti.1;replace aj:=fV aj U (g7 aj.1 al.1 (by decide));replace bd:=am (bd.1.move U.size (fun q aF ak=>U.block q ak (fun he=>aF (by injection he with he;rw [he];exact gK.1))));replace ag:=am (ag.1.grown U (fun k J=>by cases J;exact Ch.1));clear al bu cM a5 bg;have al:=nd;clear nd ad U;have bu:=ae ax;have cM:=ae bj;have a5:=ae aj;have bg:=ae al;go_wp2;refine kO (n:=4) (S:=fun W=>W.heap[de]? = some (.cells #[.slice A eo dW,.slice B eX fE] 26 (0,0))/\W.heap[gs]? = some (.cells #[.slice jB bs.cells.length i',.slice ma bs.tasks.length ut,.int .i64 bs.clock,.slice jq bs.log.length ul] 31 (0,0))) (ds:= [3]) (by kernel_rfl) rfl ⟨gW aj.1,gW al.1⟩ (fun aK=> ?_);have I:=ei (Below.refl bV.heap.size bV);generalize bV.drew=fN at I aK ⊢;replace bd:=am (bd.1.grow I);replace bc:=c9 bc I;replace bq:=c9 bq I;replace ax:=aV ax I;replace bj:=aV bj I;replace aj:=aV aj I;replace al:=aV al I;replace ag:=am (ag.1.grow I);clear bu cM a5 bg;have bu:=ae ax;have cM:=ae bj;have a5:=ae aj;have bg:=ae al;clear I;refine hn 3 1 [0] aK ?_
  iterate 1 (refine hR rfl (by rintro W ⟨bU,s1⟩;have t0:=bf bU;have t1:=bf s1;clear bU s1;go_simp;with_reducible rfl) ?_)
  refine bN ?_;refine BY (i:=1) (j:=2) (Ni:=some 26) (Nj:=none) rfl rfl rfl rfl (by kernel_rfl) (by decide) (by decide) (fun K au=> ?_) (fun K au=> ?_)
  ·have t1:=bf aK.2
   refine mV (v:=.agg #[.slice jB bs.cells.length i',.slice ma bs.tasks.length ut,.int .i64 bs.clock,.slice jq bs.log.length ul]) (w1:=_) (by rfl) rfl (by go_simp<;>rfl) ?_;clear t1;refine au.out _ _ (aK) (fun aK=>e8 ?_);clear au K
   refine fs 2 none (fun K au=> ?_);obtain ⟨ad,U⟩:=zn (cs:= [.slice A eo dW,.slice B eX fE]) ax.1 rfl;rw [if_pos (by rfl)];refine wB rfl 26 (.tmp 2) (.tmp 25) rfl rfl rfl ax.1 rfl (by kernel_rfl) (oI rfl) ?_;generalize World.setCells _ fp 0 [.slice A eo dW,.slice B eX fE]=nR at ad U ⊢;refine au.out _ _ ⟨eQ aK.1 U (fun he=>Ne.symm qn.1 (by injection he)),eQ aK.2 U (fun he=>g7 aK.2 ax.1 (by decide) (by injection he))⟩ (fun aK=> ?_);clear au K;have h':=am ad;replace bc:=g6 bc ax U;replace bq:=g6 bq ax U;replace bj:=fV bj U (g7 bj.1 ax.1 (by decide));replace aj:=fV aj U (Ne.symm qn.1);replace al:=fV al U (g7 al.1 ax.1 (by decide));replace bd:=am (bd.1.move U.size (fun q aF ak=>U.block q ak (fun he=>aF (by injection he with he;rw [he];exact kl.1))));replace ag:=am (ag.1.grown U (fun k J=>by cases J;exact s8.1));clear ax bu cM a5 bg;have ax:=h';clear h' ad U;have bu:=ae ax;have cM:=ae bj;have a5:=ae aj;have bg:=ae al;clear aK;refine lM (fuel:=1) 3 (by kernel_rfl) ?_;simp only [List.drop_succ_cons,List.drop_zero]
   go_wp2_with (first
   |((with_reducible refine bT 31 3 ?_);refine dG bj ?_;intro wn ad U;have mv:=am ad;replace bc:=g6 bc bj U;replace bq:=g6 bq bj U;replace ax:=fV ax U (g7 ax.1 bj.1 (by decide));replace aj:=fV aj U (g7 aj.1 bj.1 (by decide));replace al:=fV al U (Ne.symm ti.1);replace bd:=am (bd.1.move U.size (fun q aF ak=>U.block q ak (fun he=>aF (by injection he with he;rw [he];exact km.1))));replace ag:=am (ag.1.grown U (fun k J=>by cases J;exact As.1));clear bj bu cM a5 bg;have bj:=mv;clear mv ad U;have bu:=ae ax;have cM:=ae bj;have a5:=ae aj;have bg:=ae al))
   refine bodyPost_ret (x3 (rs:= [.cell 2 26,.cell 3 31]) rfl (by simp) (.cell fp 26 #[.slice A eo dW,.slice B eX fE] (0,0) _ rfl ax.1 Tryz.underlying26 rfl (by kernel_rfl) (.cell hL 31 #[.slice jB bs.cells.length i',.slice ma bs.tasks.length ut,.int .i64 bs.clock,.slice jq bs.log.length ul] (0,0) _ rfl bj.1 Tryz.underlying31 rfl (by kernel_rfl) .nil))) rfl ?_;exact ⟨p,bs,_,_,_,_,_,own,_,_,rfl,mJ.1,cK.1,nZ.1,bc.1,bq.1,iB.1,eD.1,lZ.1,bd.1,ag.1,cd.1.1,by have:=cd.1.2;omega⟩
  ·obtain ⟨ad,U⟩:=zn (cs:= [.slice A eo dW,.slice B eX fE]) ax.1 rfl
   rw [if_pos (by rfl)];refine wB rfl 26 (.tmp 2) (.tmp 25) rfl rfl rfl ax.1 rfl (by kernel_rfl) (oI rfl) ?_;generalize World.setCells _ fp 0 [.slice A eo dW,.slice B eX fE]=nR at ad U ⊢;refine au.out _ _ ⟨eQ aK.1 U (fun he=>Ne.symm qn.1 (by injection he)),eQ aK.2 U (fun he=>g7 aK.2 ax.1 (by decide) (by injection he))⟩ (fun aK=> ?_);clear au K;have h':=am ad;replace bc:=g6 bc ax U;replace bq:=g6 bq ax U;replace bj:=fV bj U (g7 bj.1 ax.1 (by decide));replace aj:=fV aj U (Ne.symm qn.1);replace al:=fV al U (g7 al.1 ax.1 (by decide));replace bd:=am (bd.1.move U.size (fun q aF ak=>U.block q ak (fun he=>aF (by injection he with he;rw [he];exact kl.1))));replace ag:=am (ag.1.grown U (fun k J=>by cases J;exact s8.1));clear ax bu cM a5 bg;have ax:=h';clear h' ad U;have bu:=ae ax;have cM:=ae bj;have a5:=ae aj;have bg:=ae al;refine fs 1 (some 26) (fun K au=> ?_);have t1:=bf aK.2;refine mV (v:=.agg #[.slice jB bs.cells.length i',.slice ma bs.tasks.length ut,.int .i64 bs.clock,.slice jq bs.log.length ul]) (w1:=_) (by rfl) rfl (by go_simp<;>rfl) ?_;clear t1;refine au.out _ _ (aK) (fun aK=>e8 ?_);clear au K
   clear aK;refine lM (fuel:=1) 3 (by kernel_rfl) ?_;simp only [List.drop_succ_cons,List.drop_zero]
   go_wp2_with (first
   |((with_reducible refine bT 31 3 ?_);refine dG bj ?_;intro wn ad U;have mv:=am ad;replace bc:=g6 bc bj U;replace bq:=g6 bq bj U;replace ax:=fV ax U (g7 ax.1 bj.1 (by decide));replace aj:=fV aj U (g7 aj.1 bj.1 (by decide));replace al:=fV al U (Ne.symm ti.1);replace bd:=am (bd.1.move U.size (fun q aF ak=>U.block q ak (fun he=>aF (by injection he with he;rw [he];exact km.1))));replace ag:=am (ag.1.grown U (fun k J=>by cases J;exact As.1));clear bj bu cM a5 bg;have bj:=mv;clear mv ad U;have bu:=ae ax;have cM:=ae bj;have a5:=ae aj;have bg:=ae al))
   refine bodyPost_ret (x3 (rs:= [.cell 2 26,.cell 3 31]) rfl (by simp) (.cell fp 26 #[.slice A eo dW,.slice B eX fE] (0,0) _ rfl ax.1 Tryz.underlying26 rfl (by kernel_rfl) (.cell hL 31 #[.slice jB bs.cells.length i',.slice ma bs.tasks.length ut,.int .i64 bs.clock,.slice jq bs.log.length ul] (0,0) _ rfl bj.1 Tryz.underlying31 rfl (by kernel_rfl) .nil))) rfl ?_;exact ⟨p,bs,_,_,_,_,_,own,_,_,rfl,mJ.1,cK.1,nZ.1,bc.1,bq.1,iB.1,eD.1,lZ.1,bd.1,ag.1,cd.1.1,by have:=cd.1.2;omega⟩
section
variable {B:Nat} {own:Nat->Nat} {s:Sys} {aG aZ aP:Value} {W:World}
theorem b8.setInt {b cap n:Nat} (h:b8 B own s aG (.slice (some ⟨b,0,none⟩) n cap) aP W) {i:Nat} (aa:i < s.tasks.length) (j:Nat) (aI:j < 13) (u:Int) (x':Task)
  (az:∀ v3 bC v9 v10,(eK (R s i) v3 bC v9 v10).take j ++ [.int .i64 u] ++ (eK (R s i) v3 bC v9 v10).drop (j+1)=eK x' v3 bC v9 v10)
  (hs:x'.aL=(R s i).aL/\x'.bE=(R s i).bE/\x'.reads=(R s i).reads/\x'.ai=(R s i).ai):
  b8 B own (b0 s i x') aG (.slice (some ⟨b,0,none⟩) n cap) aP (W.setCell ⟨b,i*13+j,none⟩ (.int .i64 u))/\own b=3/\B<=b/\(∃ u,W.cell? ⟨b,i*13+j,none⟩=some u)/\W.frozen? ⟨b,i*13+j,none⟩=false:=by
 have cY:own b=3:=h.fj b rfl;have dE:B<=b:=Nat.le_of_not_lt fun aJ=>by rw [h.low b aJ] at cY;cases cY
 have aS:=(Kd.ie h.tasks).1;rw [fH] at aS;obtain ⟨c,_,dw,ay,bb⟩:=Kd.ob h.tasks (dS,0) (i:Int) (by omega) (by omega);rw [Int.toNat_natCast] at dw ay bb;rw [H6 aa] at dw;obtain ⟨u3,u8,u9,u10,rfl,aA,dU,eb,e7⟩:=hA dw
 have B6:(gg own).M W B (fun k=>(own k=3\/8<=own k)/\k ≠ b) (x',i) ((eK (R s i) u3 u8 u9 u10).take j ++ [.int .i64 u] ++ (eK (R s i) u3 u8 u9 u10).drop (j+ [Value.int .i64 u].length)):=by
  rw [List.length_singleton,az];exact nh x' i (by rw [hs.1];exact aA) (by rw [hs.2.1];exact dU) (by rw [hs.2.2.1];exact eb) (by rw [hs.2.2.2];exact e7)
 obtain ⟨df,hM⟩:=Kd.y3 (d:=gg own) h.tasks (i:Int) (by omega) (by omega) (c:=eK (R s i) u3 u8 u9 u10) (seg:= [.int .i64 u]) (j:=j) (x':=(x',i)) rfl (by rw [Int.toNat_natCast];exact ay) (by show j+1<=13;omega) B6 (fun k J=>J);rw [Int.toNat_natCast,<-FR] at df;rw [Int.toNat_natCast] at hM;have gT:∀ k,own k ≠ 3->k < W.heap.size->(W.setCell ⟨b,i*13+j,none⟩ (.int .i64 u)).heap[k]? = W.heap[k]? :=fun k J ak=>hM.block k ak (fun he=>J (by injection he with he;rw [he];exact cY))
 have OJ:(eK (R s i) u3 u8 u9 u10).length=13:=rfl;refine ⟨⟨h.low,fun k J=>h.dk k (Nat.le_trans hM.size J),Kd.eI h.cells (fun k J ak=>gT k (by omega) ak),df,h.fj,Kd.eI h.log (fun k J ak=>gT k (by omega) ak)⟩,cY,dE,⟨_,ay j _ (List.getElem?_eq_getElem (by omega))⟩,bb j⟩
theorem b8.iV (h:b8 B own s aG aZ aP W) (aB:0 < s.tasks.length):∃ b cap,aZ= .slice (some ⟨b,0,none⟩) s.tasks.length cap:=by
 obtain ⟨b,cap,e,-⟩:=Kd.oa h.tasks (by rw [fH];exact aB);rw [fH] at e;exact ⟨b,cap,e⟩
theorem b8.tg (h:b8 B own s aG aZ aP W) (aB:0 < s.cells.length):∃ b cap,aG= .slice (some ⟨b,0,none⟩) s.cells.length cap:=by
 obtain ⟨b,cap,e,-⟩:=Kd.oa h.cells aB;exact ⟨b,cap,e⟩
theorem b8.Y6 {b cap n:Nat} (h:b8 B own s (.slice (some ⟨b,0,none⟩) n cap) aZ aP W) {i:Nat} (aa:i < s.cells.length) (u:Int):
  b8 B own (setCell s i {cellAt s.cells i with lock:=u}) (.slice (some ⟨b,0,none⟩) n cap) aZ aP (W.setCell ⟨b,i*3+2,none⟩ (.int .i64 u))/\own b=2/\B<=b/\(∃ u,W.cell? ⟨b,i*3+2,none⟩=some u)/\W.frozen? ⟨b,i*3+2,none⟩=false:=by
 have cY:own b=2:=h.cells.1 b rfl;have dE:B<=b:=Nat.le_of_not_lt fun aJ=>by rw [h.low b aJ] at cY;cases cY
 have aS:=(Kd.ie h.cells).1;obtain ⟨c,_,dw,ay,bb⟩:=Kd.ob h.cells lq (i:Int) (by omega) (by omega);rw [Int.toNat_natCast] at dw ay bb;obtain rfl:=Sq dw;obtain ⟨df,hM⟩:=Kd.y3 (d:=iU) (okp:=fun _=>False) h.cells (i:Int) (by omega) (by omega) (seg:= [.int .i64 u]) (j:=2) rfl (by rw [Int.toNat_natCast];exact ay) (Nat.le_refl 3) (x':={cellAt s.cells i with lock:=u}) (Mk {cellAt s.cells i with lock:=u}) (fun k J=>J.elim);rw [Int.toNat_natCast] at df hM;have gT:∀ k,own k ≠ 2->k < W.heap.size->(W.setCell ⟨b,i*3+2,none⟩ (.int .i64 u)).heap[k]? = W.heap[k]? :=fun k J ak=>hM.block k ak (fun he=>J (by injection he with he;rw [he];exact cY))
 exact ⟨⟨h.low,fun k J=>h.dk k (Nat.le_trans hM.size J),df,Kd.eI h.tasks (fun k J ak=>gT k (by omega) ak),h.fj,Kd.eI h.log (fun k J ak=>gT k (by omega) ak)⟩,cY,dE,⟨_,ay 2 _ rfl⟩,bb 2⟩
end
theorem abV (W:World) (b o:Nat) (u v:Value):(W.setCell ⟨b,o,none⟩ u).setCell ⟨b,o,none⟩ v=W.setCell ⟨b,o,none⟩ v:=by
 unfold World.setCell
 congr 1
 apply Array.ext_getElem?;intro k;simp only [Array.getElem?_modify];by_cases J:b=k
 ·subst J
  simp only [if_true]
  cases W.heap[b]? with
  | none=>rfl
  | some x=>
   cases x <;> simp [Array.setIfInBounds_setIfInBounds]
 ·simp [J]
section
variable {B:Nat} {own:Nat->Nat} {s:Sys} {aG aZ aP:Value} {W W1:World}
theorem b8.seg {b cap n:Nat} (h:b8 B own s aG (.slice (some ⟨b,0,none⟩) n cap) aP W) {i:Nat} (aa:i < s.tasks.length) {c seg:List Value} {j:Nat} {x':Task} (bQ:c.length=13)
  (aM:∀ j u,c[j]? = some u->W.cell? ⟨b,i*13+j,none⟩=some u) (aI:j+seg.length<=13) (dw:(gg own).M W B (fun k=>8<=own k) (x',i) (c.take j ++ seg ++ c.drop (j+seg.length))):
  b8 B own (b0 s i x') aG (.slice (some ⟨b,0,none⟩) n cap) aP (W.setCells b (i*13+j) seg):=by
 have cY:own b=3:=h.fj b rfl;have aS:=(Kd.ie h.tasks).1;rw [fH] at aS;obtain ⟨df,hM⟩:=Kd.y3 (okp:=fun k=>8<=own k) h.tasks (i:Int) (by omega) (by omega) bQ (by rw [Int.toNat_natCast];exact aM) aI dw (fun k J=>⟨.inr J,fun he=>by rw [he] at J;omega⟩);rw [Int.toNat_natCast] at df hM;have cP:(W.setCells b (i*13+j) seg).heap.size=W.heap.size:=(pV b seg _ W).2.2.2;have gT:∀ k,own k ≠ 3->(W.setCells b (i*13+j) seg).heap[k]? = W.heap[k]? :=fun k J=>pn seg _ k (fun he=>J (by rw [he];exact cY))
 refine ⟨h.low,fun k J=>h.dk k (by omega),Kd.eI h.cells (fun k J _=>gT k (by omega)), ?_,h.fj,Kd.eI h.log (fun k J _=>gT k (by omega))⟩;show (gg own).aC _ _ _ _ _ (s.tasks.set i x').zipIdx;rw [FR];exact df
theorem b8.fe {b cap n:Nat} (h:b8 B own s aG (.slice (some ⟨b,0,none⟩) n cap) aP W) {i:Nat} (aa:i < s.tasks.length):∃ v3 bC v9 v10,
  (∀ j u,(eK (R s i) v3 bC v9 v10)[j]? = some u->W.cell? ⟨b,i*13+j,none⟩=some u)/\
  (∀ j,W.frozen? ⟨b,i*13+j,none⟩=false)/\(gg own).M W B (fun k=>8<=own k) (R s i,i) (eK (R s i) v3 bC v9 v10):=by
 have aS:=(Kd.ie h.tasks).1;rw [fH] at aS;obtain ⟨c,_,dw,ay,bb⟩:=Kd.ob h.tasks (dS,0) (i:Int) (by omega) (by omega);rw [Int.toNat_natCast] at dw ay bb;rw [H6 aa] at dw;have DU:=x0 dw;obtain ⟨v3,bC,v9,v10,rfl,aA,dU,eb,e7⟩:=hA dw;exact ⟨v3,bC,v9,v10,ay,bb,DU⟩
theorem b8.CP {b cap n:Nat} (h:b8 B own s aG (.slice (some ⟨b,0,none⟩) n cap) aP W) {i:Nat} (aa:i < s.tasks.length) {v:Value} {xs:List cI} (bp:cn.aC 52 W B (fun k=>own k=11+8*i\/own k=0) v xs):
  b8 B (ef own v.ownBlock (11+8*i)) (b0 s i {R s i with ai:=xs}) aG (.slice (some ⟨b,0,none⟩) n cap) aP (W.setCell ⟨b,i*13+10,none⟩ v)/\∀ k,own k ≠ 0->ef own v.ownBlock (11+8*i) k=own k:=by
 have kF:∀ k,own k ≠ 0->ef own v.ownBlock (11+8*i) k=own k:=fun k J=>by
  by_cases he:v.ownBlock=some k
  ·rw [iW he]
   rcases (fc bp k he).1 with aA | aA
   ·exact aA.symm
   ·exact absurd aA J
  ·exact gv he
 have h1:=h.rn (own':=ef own v.ownBlock (11+8*i))
  (fun k J=>(gv fun he=>by have:=(fc bp k he).2.1;omega).trans (h.low k J))
  (fun k J=>(gv fun he=>by have:=(fc bp k he).2.2;omega).trans (h.dk k J)) kF
 have bG:=oF xY bp (ok':=fun k=>8<=ef own v.ownBlock (11+8*i) k/\ef own v.ownBlock (11+8*i) k=11+8*i) (fun k J=>by rw [iW J];omega)
 obtain ⟨v3,bC,v9,v10,ay,_,dw⟩:=h1.fe aa;obtain ⟨u3,u8,u9,u10,he,aA,dU,eb,e7⟩:=hA dw;simp only [eK,List.cons.injEq,true_and] at he;obtain ⟨rfl,rfl,rfl,rfl,-⟩:=he;exact ⟨h1.seg aa (c:=eK (R s i) v3 bC v9 v10) (seg:= [v]) (j:=10) (x':={R s i with ai:=xs}) rfl ay (by simp) (nh {R s i with ai:=xs} i aA dU eb bG),kF⟩
theorem b8.inner {b cap n:Nat} (h:b8 B own s aG (.slice (some ⟨b,0,none⟩) n cap) aP W) {i:Nat} (aa:i < s.tasks.length) {x':Task} (t:Nat) (a6:8+8*i<=t/\t < 16+8*i) (hm:∀ k,own k ≠ 0->own k ≠ t->W1.heap[k]? = W.heap[k]?)
  (hs:W.heap.size<=W1.heap.size)
  (az:∀ cs,(∀ j u,cs[j]? = some u->W.cell? ⟨b,i*13+j,none⟩=some u)->(gg own).M W B (fun k=>8<=own k) (R s i,i) cs->(gg own).M W1 B (fun k=>8<=own k) (x',i) cs):
  b8 B own (b0 s i x') aG (.slice (some ⟨b,0,none⟩) n cap) aP W1:=by
 have cY:own b=3:=h.fj b rfl;have aS:=(Kd.ie h.tasks).1;rw [fH] at aS;refine ⟨h.low,fun k J=>h.dk k (by omega),Kd.eI h.cells (fun k J _=>hm k (by omega) (by omega)), ?_,h.fj,Kd.eI h.log (fun k J _=>hm k (by omega) (by omega))⟩;show (gg own).aC _ _ _ _ _ (s.tasks.set i x').zipIdx;obtain ⟨aq,inner,aT,ao⟩:=h.tasks;rw [FR];refine ⟨aq,inner, ?_, ?_⟩
 ·rw [List.length_set]
  exact L8 aT (fun k J=>hm k (by rw [h.fj k J];decide) (by rw [h.fj k J];omega))
 ·refine ⟨by rw [List.length_set];exact ao.1,fun j y aW=> ?_⟩
  rw [List.getElem?_set] at aW;split at aW
  ·rename_i sO
   subst sO;split at aW
   ·cases aW
    rename_i aJ;have dw:=ao.2 i _ (List.getElem?_eq_getElem aJ);have aX:s.tasks.zipIdx[i]=(R s i,i):=FH (List.getElem?_eq_getElem aJ);rw [aX] at dw;refine (gg own).k1 (fun k J=>⟨.inr J,fun he=> ?_⟩) (az _ (fun j u hu=> ?_) (x0 dw))
    ·have:k=b:=by simpa [Value.ownBlock] using he
     rw [this,cY] at J;omega
    ·rw [List.getElem?_take] at hu
     split at hu
     ·rw [List.getElem?_drop] at hu
      have:=aT.cells (g:=b) (by simp [Value.ownBlock]) _ u hu
      rwa [add_plain] at this
     ·cases hu
   ·cases aW
  ·rename_i sO
   have dw:=ao.2 j y aW;obtain rfl:=FH aW;exact SK dw a6 (fun he=>sO he.symm) hm
theorem Rg {s:Sys} {i:Nat} (aa:i < s.tasks.length) (x:Task):R (b0 s i x) i=x:=cD aa
theorem S0 (s:Sys) (i:Nat) (x y:Task):b0 (b0 s i x) i y=b0 s i y:=by
 unfold b0;simp
theorem b8.aam {b cap n:Nat} (h:b8 B own s aG (.slice (some ⟨b,0,none⟩) n cap) aP W) {i:Nat} (aa:i < s.tasks.length) {v10 v1:Value} {xs:List cI} (ay:W.cell? ⟨b,i*13+10,none⟩=some v10) (U:W.grownBy W1 v10.ownBlock)
  (ao:cn.aC 52 W1 B (fun k=>own k=11+8*i\/own k=0) v1 xs) (dy:v1.ownBlock=v10.ownBlock\/∃ b,v1.ownBlock=some b/\W.heap.size<=b):
  ∃ own',b8 B own' (b0 s i {R s i with ai:=xs}) aG (.slice (some ⟨b,0,none⟩) n cap) aP (W1.setCell ⟨b,i*13+10,none⟩ v1)/\(∀ k,k < W.heap.size->own' k=own k):=by
 have cY:own b=3:=h.fj b rfl;obtain ⟨v3,bC,v9,yH,aM,_,dw⟩:=h.fe aa
 have he:yH=v10:=by
  have:=aM 10 yH rfl
  rw [ay] at this;injection this with this;exact this.symm
 subst he
 have e7:∀ k,yH.ownBlock=some k->own k=11+8*i:=fun k J=>by
  obtain ⟨u3,u8,u9,u10,he,dj,fy,hh,fi⟩:=hA dw;simp only [eK,List.cons.injEq,true_and] at he;obtain ⟨rfl,rfl,rfl,rfl,-⟩:=he;exact (fi.1 k J).2
 have jo:=(h.CP aa (Kd.ht cn 52 W B (fun k=>own k=11+8*i\/own k=0))).1
 have Xg:ef own (Value.slice none 0 0).ownBlock (11+8*i)=own:=by
  funext k
  exact gv (by simp [Value.ownBlock])
 rw [Xg] at jo;have fP:∀ (W:World) (u:Value) (k:Nat),k ≠ b->(W.setCell ⟨b,i*13+10,none⟩ u).heap[k]? = W.heap[k]? :=fun W u k J=>Below.heap_setCell W ⟨b,i*13+10,none⟩ u k (fun he=>J he)
 have aJ:∀ k,own k ≠ 0->k < W.heap.size:=fun k J=>Nat.lt_of_not_le fun hle=>J (h.dk k hle)
 have OK:∀ k,own k ≠ 0->own k ≠ 11+8*i->W1.heap[k]? = W.heap[k]? :=fun k J iI=>U.block k (aJ k J) (fun he=>iI (e7 k he.symm))
 have hm:∀ k,own k ≠ 0->own k ≠ 11+8*i->(W1.setCell ⟨b,i*13+10,none⟩ (.slice none 0 0)).heap[k]? = (W.setCell ⟨b,i*13+10,none⟩ (.slice none 0 0)).heap[k]? :=fun k J iI=>by
  by_cases eu:k=b
  ·subst eu
   have:=OK k J iI
   unfold World.setCell;simp only [Array.getElem?_modify,this]
  ·rw [fP _ _ k eu,fP _ _ k eu]
   exact OK k J iI
 have lj:i < (b0 s i {R s i with ai:= []}).tasks.length:=by rw [c5];exact aa
 have dt:=jo.inner (W1:=W1.setCell ⟨b,i*13+10,none⟩ (.slice none 0 0)) lj (x':={R s i with ai:= []}) (11+8*i) ⟨by omega,by omega⟩ hm (by simpa [World.setCell] using U.size) (fun cs e4 B6=>by
  rw [Rg aa] at B6;obtain ⟨u3,u8,u9,u10,rfl,dj,fy,hh,fi⟩:=hA B6;refine nh {R s i with ai:= []} i (Kd.eI dj fun k J _=>hm k (by have:=J.2;omega) (by have:=J.2;omega)) (Kd.eI fy fun k J _=>hm k (by have:=J.2;omega) (by have:=J.2;omega)) (Kd.eI hh fun k J _=>hm k (by have:=J.2;omega) (by have:=J.2;omega)) ?_
  have hu:u10= .slice none 0 0:=by
   have h1:=e4 10 u10 rfl
   have ar:(W.setCell ⟨b,i*13+10,none⟩ (.slice none 0 0)).cell? ⟨b,i*13+10,none⟩=some (.slice none 0 0):=by
    unfold World.cell? at ay;unfold World.cell? World.setCell;simp only [Array.getElem?_modify,if_true]
    cases hw:W.heap[b]? with
    | none=>simp [hw] at ay
    | some x=>
     cases x <;> simp [hw] at ay ⊢;obtain ⟨aJ,_⟩:=Array.getElem?_eq_some_iff.1 ay;exact Array.getElem?_setIfInBounds_self_of_lt aJ
   rw [ar] at h1;injection h1 with h1;exact h1.symm
  rw [hu];exact Kd.ht _ _ _ _ _)
 rw [S0] at dt;have Eu:cn.aC 52 (W1.setCell ⟨b,i*13+10,none⟩ (.slice none 0 0)) B (fun k=>own k=11+8*i\/own k=0) v1 xs:=Kd.eI ao (fun k J _=>fP _ _ k (fun he=>by rw [he,cY] at J;omega));obtain ⟨gw,acw⟩:=dt.CP lj Eu;rw [S0,Rg aa,abV] at gw;refine ⟨_,gw,fun k J=> ?_⟩;by_cases he:v1.ownBlock=some k
 ·rw [iW he]
  rcases dy with h1 | ⟨q,h1,ar⟩
  ·exact (e7 k (h1 ▸ he)).symm
  ·rw [h1] at he
   injection he with he;omega
 ·exact gv he
theorem b8.Yw {b cap n:Nat} (h:b8 B own s aG (.slice (some ⟨b,0,none⟩) n cap) aP W) {i:Nat} (aa:i < s.tasks.length):∃ v10,W.cell? ⟨b,i*13+10,none⟩=some v10/\cn.aC 52 W B (fun k=>own k=11+8*i) v10 (R s i).ai:=by
 obtain ⟨v3,bC,v9,yH,aM,_,dw⟩:=h.fe aa;obtain ⟨u3,u8,u9,u10,he,dj,fy,hh,fi⟩:=hA dw;simp only [eK,List.cons.injEq,true_and] at he;obtain ⟨rfl,rfl,rfl,rfl,-⟩:=he;exact ⟨yH,aM 10 yH rfl,Kd.cG fi (fun k J=>J.2)⟩
theorem Mo {W:World} {b o:Nat} {v:Value} (h:W.cell? ⟨b,o,none⟩=some v):b < W.heap.size:=by
 refine Nat.lt_of_not_le fun hle=> ?_
 unfold World.cell? at h;simp only [] at h;rw [Array.getElem?_eq_none hle] at h;cases h
theorem cell_of {W W1:World} {b o:Nat} {v:Value} (h:W.cell? ⟨b,o,none⟩=some v) (he:W1.heap[b]? = W.heap[b]?):W1.cell? ⟨b,o,none⟩=some v:=by
 rw [<-h];unfold World.cell?;simp only [he]
theorem aan {W W1:World} {g b o:Nat} {v:Value} (h:W.cell? ⟨b,o,none⟩=some v) (J:ic W W1 g none) (aS:b ≠ g):W1.cell? ⟨b,o,none⟩=some v:=cell_of h (J.2 b (Mo h) aS (by simp))
theorem aaS {W W1:World} {b o:Nat} {v:Value} {row:Option Nat} (h:W.cell? ⟨b,o,none⟩=some v) (U:W.grownBy W1 row) (aS:some b ≠ row):W1.cell? ⟨b,o,none⟩=some v:=cell_of h (U.block b (Mo h) aS)
theorem aaT {W:World} {b o:Nat} {v:Value} (h:W.cell? ⟨b,o,none⟩=some v) (x:Obj):(W.alloc x).cell? ⟨b,o,none⟩=some v:=cell_of h ((mz (Below.refl W.heap.size W) x).block b (Mo h))
theorem abi {s:Sys} {k:Nat} {t:Task} (h:oC s) (J:k < s.tasks.length) (aA:t.aL=(R s k).aL) (dU:t.bE=(R s k).bE) (eb:t.reads=(R s k).reads) (e7:t.ai.length<=1048576):oC (b0 s k t) where
 cells:=h.cells
 tasks:=by rw [c5];exact h.tasks
 log:=h.log
 kX:=h.kX
 task:=fun i aa=>by
  rw [c5] at aa;show (R (b0 s k t) i).aL.length<=_/\(R (b0 s k t) i).bE.length<=_/\(R (b0 s k t) i).reads.length<=_/\(R (b0 s k t) i).ai.length<=_;by_cases he:i=k
  ·subst he
   rw [cD J,aA,dU,eb]
   have:=h.task i J
   exact ⟨this.1,this.2.1,this.2.2.1,e7⟩
  ·rw [oH he]
   exact h.task i aa
theorem b8.ZN {A:Option Addr} {c:Nat} (h:b8 B own s (.slice A s.cells.length c) aZ aP W) (aB:1<=s.cells.length):
  cS.K W {s with cells:=s.cells.drop 1} [.slice (if c=1 then A else A.map (·.add (1*3))) (s.cells.length - 1) (c - 1),aZ,.int .i64 s.clock,aP]:=by
 obtain ⟨cX,bL,k7,g9,fz⟩:=Kd.fG h.cells;injection k7 with b1 eg eL;subst b1 eL;obtain ⟨dX,cu,rfl,fU,db⟩:=Kd.fG h.tasks;obtain ⟨cU,bO,rfl,gz,dj⟩:=Kd.fG h.log;rw [fH] at fU db ⊢;have gw:=Kd.QQ (m:=1) fz aB g9;rw [List.length_drop] at gw;have au:=Bo {s with cells:=s.cells.drop 1} (A_cells:=if c=1 then A else A.map (·.add (1*3))) (c_cells:=c - 1) (by simp;omega) (by simpa [show iU.bD=3 from rfl] using gw) fU (H' db) gz dj;simpa using au
end
end Go.Proofs.YteajdhhmkjblnaaGreatDoor.Eq
