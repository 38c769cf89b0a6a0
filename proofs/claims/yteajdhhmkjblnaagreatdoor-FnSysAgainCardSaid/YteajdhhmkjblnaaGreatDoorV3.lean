import Derived.Test.YteajdhhmkjblnaaGreatDoorV2
set_option maxHeartbeats 8000000
set_option maxRecDepth 100000
set_option linter.unusedVariables false
set_option linter.unusedSimpArgs false
namespace Go.Proofs.YteajdhhmkjblnaaGreatDoor.Eq
open Go.RowKit Go.Proofs.YteajdhhmkjblnaaGreatDoorW.PrintWords Go.Proofs.YteajdhhmkjblnaaGreatDoorW.PrintLast Go.Proofs.YteajdhhmkjblnaaGreatDoorW.PrintMore
section
variable {w0:World} {g:Nat} {own:Nat->Nat} {bh a8:Value} {p:Prog} {s:Sys} {aG aZ aP:Value}
theorem MC (i:Nat) (w:World) (h:bI 88 w0 g own bh a8 p s aG aZ aP w) (aa:i < s.tasks.length) (aS:s.tasks.length<=1048576) (hm:s.cells.length<=1048576) (ao:(R s i).reads.length<=1048576) (je:(R s i).ai.length<=1048576) (ox:s.log.length<=1073741824) (lL:0<=(R s i).aR) (o7:(R s i).aR<=1048576) (ha:0<=(R s i).at_) (nV:(R s i).at_ < (R s i).ai.length) (aB:0<=(putAt (R s i).ai (R s i).at_.toNat).cell/\(putAt (R s i).ai (R s i).at_.toNat).cell < s.cells.length):
  Calls Tryz.prog 138 #[.pointer (some ⟨g,0,none⟩),.int .i64 i] w fun e af=>e= .returned (.tuple #[])/\∃ own' iR,bI 88 w0 g own' bh a8 p (write s i) aG aZ iR af/\Fr w.heap.size own own' w af:=by
 have H:=am h;clear h;obtain ⟨bx,gO⟩:=Int.eq_ofNat_of_zero_le ha;rw [gO,Int.toNat_natCast] at aB;obtain ⟨lD,pD⟩:=aB;obtain ⟨k,jE⟩:=Int.eq_ofNat_of_zero_le lD;have J:k < s.cells.length:=by omega
 obtain ⟨b,cap,rfl,cY,jb⟩:=H.1.iV (by omega);obtain ⟨gZ,bL,rfl,gf,AV⟩:=H.1.tg (by omega);obtain ⟨cW,aw,rfl⟩:=H.1.hV;obtain ⟨v3,bC,v9,v10,aM,bb,aA,dU,eb,e7⟩:=H.1.task aa;obtain ⟨cU,bO,rfl,gz,dj⟩:=Kd.fG aA;obtain ⟨gy,e1,rfl,og,fy⟩:=Kd.fG dU;obtain ⟨ev,dp,rfl,h0,hh⟩:=Kd.fG eb;obtain ⟨e6,dL,rfl,ko,fi⟩:=Kd.fG e7;have cJ:=am aM;have aN:=bf H.1.bB;have jy:=am hh;have hc:=am fi;have bz:(0:Int)<=(i:Int):=by omega
 have b7:(i:Int) < (s.tasks.length:Int):=by omega
 clear aM bb aA dU eb e7 dj fy hh fi gz og h0 ko;have js:=am gO;have rT:=am jE;have bY:(0:Int)<=(R s i).at_:=by omega
 have l5:(R s i).at_ < ((R s i).ai.length:Int):=by omega
 have lQ:(R s i).at_.toNat=bx:=by omega
 have oK:(0:Int)<=(k:Int):=by omega
 have x6:(k:Int) < (s.cells.length:Int):=by omega
 clear gO jE lD pD;go_enter Tryz.func138,Tryz.ntmps138
 go_wp2_with (first
  |((with_reducible refine aQ 13 ?_);refine c4 b (i*13) cJ.1 ?_)
  |((with_reducible refine aQ 4 ?_);refine hy 38 ?_;intro gt b' dM GT cF;clear aN)
  |((with_reducible refine bT 38 4 ?_);refine dG dM ?_;intro eE ad U;have bm:=am ad;have bk:=fq cF GT U;have jl:=am (show own gt=0 by rw [GT.1];exact H.1.dk _ (Nat.le_refl _));replace H:=am (H.1.grow bk);have bA:=am (Fr.below (own:=own) bk);replace jy:=ks jy bk;replace hc:=ks hc bk;clear ad U dM bk cF cJ;have F:=bA;clear bA;have aN:=bf H.1.bB;have ck:=ae bm;obtain ⟨ud,sU,HL,rfl,xI,ri,l2,-⟩:=dd hc.1 gU bx (by omega) (by decide);have gI:=mZ ri;subst gI;obtain ⟨lE,n8⟩:∃ x,x=putAt (R s i).ai bx:=⟨_,rfl⟩;rw [show List.getD (R s i).ai bx gU=lE from n8.symm] at l2;have vP:=am n8;clear n8;have rj:=l2 0 _ rfl;have sb:=l2 1 _ rfl;simp only [show cn.bD=2 from rfl,Nat.add_zero] at rj sb;clear l2 ri xI;rw [vP.1,rT.1] at rj;obtain ⟨bQ,nD⟩:=H.1.cell J;have ep:=bQ 0 _ rfl;have Ux:=bQ 1 _ rfl;have a1:=bQ 2 _ rfl;rw [Nat.add_zero] at ep;have q5:=am nD;clear bQ nD)
  |((with_reducible refine aQ 5 ?_);refine hy 52 ?_;intro cL dJ PT wL pC)
  |((with_reducible refine bT 52 5 ?_);refine dG PT ?_;intro ih ad U;have G1:=am ad;have I:=fq pC wL U;have acn:=am (show own cL=0 by rw [wL.1];exact H.1.dk _ (Nat.le_refl _));replace H:=am (H.1.grow I);replace F:=am (F.1.trans (Fr.less (Fr.below I) F.1.size));replace bm:=aV bm I;clear aN ck I;have aN:=bf H.1.bB;have ck:=ae bm;clear ad U PT pC;have E':=ae G1))
 refine wp_region_still_tail 12 (by kernel_rfl) (by kernel_rfl) ?_;simp only [List.take_succ_cons,List.take_zero,List.drop_succ_cons,List.drop_zero];iterate 12 still_step
 refine wpStill_nil ?_;have I:=ei (Below.refl ih.heap.size ih);show wpList _ _ _ _ _ ih.drew;generalize ih.drew=g1 at I ⊢;replace H:=am (H.1.grow I);replace F:=am (F.1.trans (Fr.less (Fr.below I) F.1.size));replace bm:=aV bm I;clear aN ck I;have aN:=bf H.1.bB;have ck:=ae bm;have cF:=am gf;have jc:=am cY;clear gf cY ep Ux a1 q5 E';obtain ⟨bQ,nD⟩:=H.1.cell J;have nZ:=am bQ;have q5:=am nD;clear bQ nD
 go_wp2_with (first
 |((with_reducible refine bT 50 32 ?_);refine H0 rfl rfl _ _ rfl (g:=gZ) (off:=k*3) rfl [.int .i64 lE.num,.int .i64 (R s i).bw,.int .i64 (-1)] rfl (by kernel_rfl) (oI rfl) (fun j aI=>⟨by (have JB:j < [Value.int .i64 (cellAt s.cells k).num,.int .i64 (cellAt s.cells k).time,.int .i64 (cellAt s.cells k).lock].length:=aI);rw [nZ.1 j _ (List.getElem?_eq_getElem JB)];rfl,q5.1 j⟩) ?_;intro fN aH;obtain ⟨aU,dz⟩:=H.1.AU (B:=w.heap.size) J (seg:= [.int .i64 lE.num,.int .i64 (R s i).bw,.int .i64 (-1)]) (j:=0) (x':=⟨lE.num,(R s i).bw,-1⟩) (Nat.le_refl 3) rfl;rw [Nat.add_zero] at aU dz;replace H:=am (show bI 88 w0 g own bh a8 p (setCell s k ⟨lE.num,(R s i).bw,-1⟩) (.slice (some ⟨gZ,0,none⟩) s.cells.length bL) (.slice (some ⟨b,0,none⟩) s.tasks.length cap) (.slice cW s.log.length aw) fN by rw [aH];exact aU);replace F:=am (F.1.trans (show Fr w.heap.size own own g1 fN by rw [aH];exact dz));have j7:fN.heap[gt]? = some (.cells #[.int .i64 (R s i).body,.int .i64 (R s i).aR,.int .i64 (R s i).up,.slice cU (R s i).aL.length bO,.int .i64 (R s i).a7,.int .i64 (R s i).aE,.int .i64 (R s i).at_,.int .i64 (R s i).since,.slice gy (R s i).bE.length e1,.slice ev (R s i).reads.length dp,.slice (some ⟨ud,sU,none⟩) (R s i).ai.length dL,.int .i64 (R s i).bw,.int .i64 (R s i).from_] 38 (0,0)):=(by rw [aH,pn _ _ gt (fun he=>by have br:=jl.1;rw [show gt=gZ from he,cF.1] at br;cases br)];exact bm.1);replace bm:=am j7;clear aN ck aU dz aH q5 nZ j7;have aN:=bf H.1.bB;have ck:=ae bm))
 have iI:(putAt (R s i).ai (R s i).at_.toNat).cell.toNat=k:=by rw [lQ,rT.1];rfl
 have z6:(putAt (R s i).ai (R s i).at_.toNat).num=lE.num:=by rw [lQ,<-vP.1]
 have rU:=am iI;have GY:=am z6;clear iI z6
 cases pK:((R s i).at_+1 == ((R s i).ai.length:Int)) with
 | true=>
  have e3:=am (of_decide_eq_true (by simpa using pK):(R s i).at_+1=((R s i).ai.length:Int));refine wp_region_still_tail 9 (by kernel_rfl) (by kernel_rfl) ?_;simp only [List.take_succ_cons,List.take_zero,List.drop_succ_cons,List.drop_zero];iterate 9 still_step
  refine wpStill_nil ?_;rw [show IntKind.i64.wrap ((R s i).at_+1)=(R s i).at_+1 from by rw [k0];unfold wrap64;omega];have I:=ei (Below.refl fN.heap.size fN);show wpList _ _ _ _ _ fN.drew;generalize fN.drew=sD at I ⊢;replace H:=am (H.1.grow I);replace F:=am (F.1.trans (Fr.less (Fr.below I) F.1.size));replace bm:=aV bm I;clear aN ck I;have aN:=bf H.1.bB;have ck:=ae bm;obtain ⟨s1,dR⟩:∃ x:Sys,x=setCell s k ⟨lE.num,(R s i).bw,-1⟩:=⟨_,rfl⟩;have cw:i < s1.tasks.length:=by rw [dR];exact aa
  have m8:s1.tasks.length<=1048576:=by rw [dR];exact aS
  have pE:R s1 i=R s i:=by rw [dR];rfl
  rw [<-dR] at H aN
  go_wp2_with (first
  |((with_reducible refine bT 3 43 ?_);refine e9 (u:=.int .i64 ((R s i).at_+1)) rfl rfl _ _ rfl rfl rfl rfl rfl (by kernel_rfl) (H.1.ready (i:=i) (by first|exact cw | exact aa|(rw [c5];exact cw)) 6 (by decide)) ?_;intro wn aH;obtain ⟨aU,a1⟩:=H.1.setInt (B:=w.heap.size) (i:=i) (by first|exact cw | exact aa|(rw [c5];exact cw)) 6 (by decide) ((R s i).at_+1) {R s i with at_:=(R s i).at_+1} (fun _ _ _ _=>by first|(rw [pE];rfl)|(rw [cD (by assumption)];rfl)) (by first|(rw [pE];exact ⟨rfl,rfl,rfl,rfl⟩)|(rw [cD (by assumption)];exact ⟨rfl,rfl,rfl,rfl⟩));rw [<-aH] at aU a1;replace F:=am (F.1.trans a1);(try rw [set_set] at aU);replace H:=am aU;have j7:=eA (p:=⟨b,i*13+6,none⟩) bm.1 (fun he=>by have br:=jl.1;rw [show gt=b from he,jc.1] at br;cases br) (Value.int .i64 ((R s i).at_+1));rw [<-aH] at j7;have AW:=am j7;clear aN aU a1 aH j7 bm ck;have ck:=ae AW;have aN:=bf H.1.bB)
  |(go_at_call 146;refine (RU i _ _ H.1 (by rw [c5];exact cw) (by rw [c5];exact m8) (by rw [cD cw];exact ao) (by rw [cD cw];exact je) (by rw [show (b0 s1 i _).log=s1.log from rfl,dR];exact ox) (by rw [cD cw];exact lL) (by rw [cD cw];exact o7)).mono ?_;rintro e b9 ⟨rfl,dr,kR,h1,f1⟩;have bn:=am h1;have bA:=am (F.1.trans (Fr.less f1 F.1.size));clear H F aN h1 f1))
  refine fv ?_;have h:=bn.1;refine ⟨rfl,dr,kR, ?_,bA.1⟩;unfold write;simp only [rU.1,GY.1,if_pos e3.1];rw [dR] at h
  exact h
 | false=>
  have e3:=am (of_decide_eq_false (by simpa using pK):¬ (R s i).at_+1=((R s i).ai.length:Int));refine wp_region_still_tail 9 (by kernel_rfl) (by kernel_rfl) ?_;simp only [List.take_succ_cons,List.take_zero,List.drop_succ_cons,List.drop_zero];iterate 9 still_step
  refine wpStill_nil ?_;rw [show IntKind.i64.wrap ((R s i).at_+1)=(R s i).at_+1 from by rw [k0];unfold wrap64;omega];have I:=ei (Below.refl fN.heap.size fN);show wpList _ _ _ _ _ fN.drew;generalize fN.drew=sD at I ⊢;replace H:=am (H.1.grow I);replace F:=am (F.1.trans (Fr.less (Fr.below I) F.1.size));replace bm:=aV bm I;clear aN ck I;have aN:=bf H.1.bB;have ck:=ae bm;obtain ⟨s1,dR⟩:∃ x:Sys,x=setCell s k ⟨lE.num,(R s i).bw,-1⟩:=⟨_,rfl⟩;have cw:i < s1.tasks.length:=by rw [dR];exact aa
  have m8:s1.tasks.length<=1048576:=by rw [dR];exact aS
  have pE:R s1 i=R s i:=by rw [dR];rfl
  rw [<-dR] at H aN
  go_wp2_with (first
  |((with_reducible refine bT 3 43 ?_);refine e9 (u:=.int .i64 ((R s i).at_+1)) rfl rfl _ _ rfl rfl rfl rfl rfl (by kernel_rfl) (H.1.ready (i:=i) (by first|exact cw | exact aa|(rw [c5];exact cw)) 6 (by decide)) ?_;intro wn aH;obtain ⟨aU,a1⟩:=H.1.setInt (B:=w.heap.size) (i:=i) (by first|exact cw | exact aa|(rw [c5];exact cw)) 6 (by decide) ((R s i).at_+1) {R s i with at_:=(R s i).at_+1} (fun _ _ _ _=>by first|(rw [pE];rfl)|(rw [cD (by assumption)];rfl)) (by first|(rw [pE];exact ⟨rfl,rfl,rfl,rfl⟩)|(rw [cD (by assumption)];exact ⟨rfl,rfl,rfl,rfl⟩));rw [<-aH] at aU a1;replace F:=am (F.1.trans a1);(try rw [set_set] at aU);replace H:=am aU;have j7:=eA (p:=⟨b,i*13+6,none⟩) bm.1 (fun he=>by have br:=jl.1;rw [show gt=b from he,jc.1] at br;cases br) (Value.int .i64 ((R s i).at_+1));rw [<-aH] at j7;have AW:=am j7;clear aN aU a1 aH j7 bm ck;have ck:=ae AW;have aN:=bf H.1.bB))
  refine fv ?_;have h:=H.1;rw [dR] at h;refine ⟨rfl,own,⟨Value.slice cW s.log.length aw, ?_⟩,F.1⟩;unfold write;simp only [rU.1,GY.1,if_neg e3.1];exact h
end
def wA (w1:World) (gr:Nat) (aL:List Int) (d:Deed):World:=
 if d.kind=3 then w1.setCell ⟨gr,d.a.toNat,none⟩ (.int .i64 d.b) else if d.kind=4 then w1.setCell ⟨gr,d.a.toNat,none⟩ (.int .i64 ((cC aL d.a.toNat+cC aL d.b.toNat) % 100)) else w1
theorem abd (gr n c base:Nat) (ok:Nat->Prop) (aL:List Int) (kind a b:Int) (w:World) (ao:(Kd.int .i64).aC 3 w base ok (.slice (some ⟨gr,0,none⟩) n c) aL) (aS:n<=1048576)
  (ha:0<=a/\a < n) (I:kind=4->0<=b/\b < n) (mS:∀ k,k < aL.length->0<=cC aL k/\cC aL k<=99):
  Calls Tryz.prog 149 #[.slice (some ⟨gr,0,none⟩) n c,.agg #[.int .i64 kind,.int .i64 a,.int .i64 b]] w fun e af=>e= .returned (.tuple #[])/\∃ w1,Below w.heap.size w w1/\
   af=wA w1 gr aL ⟨kind,a,b⟩:=by
 obtain ⟨bx,rfl⟩:=Int.eq_ofNat_of_zero_le ha.1;obtain ⟨mi,nV⟩:=ha;obtain ⟨Tg,dC,Jv,kP,xh⟩:=Kd.ob ao 0 (bx:Int) mi (by omega);have Uy:Tg= [Value.int .i64 (rd aL bx)]:=Jv;subst Uy;have z7:=kP 0 _ rfl;have B5:=xh 0;simp only [Int.toNat_natCast,show (Kd.int .i64).bD=1 from rfl,Nat.mul_one,Nat.add_zero] at z7 B5;have aJ:gr < w.heap.size:=World.block_lt_of_cell? _ _ z7;by_cases aA:kind=3
 ·subst aA
  go_enter Tryz.func149,Tryz.ntmps149;go_wp2_with ((with_reducible refine aQ 3 ?_);refine b6 62 ?_;intro cL U w1 ad I;have G1:=am ad;have wL:=am U;have ab:=am I;have E':=bf ad;rw [<-(pd I).1 _ _ aJ] at z7;rw [<-(pd I).2 _ _ aJ] at B5;clear ad I U)
  refine fv ?_;exact ⟨rfl,w1,ab.1,by unfold wA;simp⟩
 ·have dh:(kind == 3)=false:=by simp [aA]
  by_cases bR:kind=4
  ·subst bR
   obtain ⟨dE,bZ⟩:=I rfl;obtain ⟨bl,rfl⟩:=Int.eq_ofNat_of_zero_le dE;obtain ⟨zu,gf,B6,cY,_⟩:=Kd.ob ao 0 (bl:Int) dE (by omega);have Jr:zu= [Value.int .i64 (rd aL bl)]:=B6;subst Jr;have NJ:=cY 0 _ rfl;simp only [Int.toNat_natCast,show (Kd.int .i64).bD=1 from rfl,Nat.mul_one,Nat.add_zero] at NJ;go_enter Tryz.func149,Tryz.ntmps149;go_wp2_with ((with_reducible refine aQ 3 ?_);refine b6 62 ?_;intro cL U w1 ad I;have G1:=am ad;have wL:=am U;have ab:=am I;have E':=bf ad;rw [<-(pd I).1 _ _ aJ] at z7;rw [<-(pd I).2 _ _ aJ] at B5;rw [<-(pd I).1 _ _ aJ] at NJ;clear ad I U)
   refine wp_region_still_tail 15 (by kernel_rfl) (by kernel_rfl) ?_;simp only [List.take_succ_cons,List.take_zero,List.drop_succ_cons,List.drop_zero];iterate 15 still_step
   refine wpStill_nil ?_;have jC:=mS bx (by have:=(Kd.ie ao).1;omega);have dR:=mS bl (by have:=(Kd.ie ao).1;omega);have k7:rd aL (bx:Int)=cC aL bx:=rfl;have b1:rd aL (bl:Int)=cC aL bl:=rfl;rw [k7,b1,show (IntKind.i64.wrap (cC aL bx+cC aL bl)).tmod 100=(cC aL bx+cC aL bl) % 100 from by rw [k0];unfold wrap64;rw [Int.tmod_eq_emod_of_nonneg (by omega)];omega];show wpList _ _ _ _ _ w1.drew;have I:=ei (Below.refl w1.heap.size w1);have PU:gr < w1.heap.size:=Nat.lt_of_lt_of_le aJ ab.1.size;rw [k7,<-(pd I).1 _ _ PU] at z7;rw [<-(pd I).2 _ _ PU] at B5;have cF:=cf ab I;clear E' I ab;generalize w1.drew=b' at z7 B5 cF ⊢;go_wp2;refine fv ?_;exact ⟨rfl,b',cF.1,by unfold wA;simp⟩
  ·have fu:(kind == 4)=false:=by simp [bR]
   have gE:=am aA;have nO:=am bR;clear aA bR;go_enter Tryz.func149,Tryz.ntmps149;go_wp2_with ((with_reducible refine aQ 3 ?_);refine b6 62 ?_;intro cL U w1 ad I;have G1:=am ad;have wL:=am U;have ab:=am I;have E':=bf ad;rw [<-(pd I).1 _ _ aJ] at z7;rw [<-(pd I).2 _ _ aJ] at B5;clear ad I U)
   refine fv ?_;exact ⟨rfl,_,ab.1,by unfold wA;rw [if_neg gE.1,if_neg nO.1]⟩
section
variable {w0:World} {g:Nat} {own:Nat->Nat} {bh a8:Value} {p:Prog} {s:Sys} {aG aZ aP:Value}
theorem bI.pe {T B b cap n n' c gr:Nat} {W W1:World} (h:bI T w0 g own bh a8 p s aG (.slice (some ⟨b,0,none⟩) n cap) aP W) {i:Nat} (aa:i < s.tasks.length) (dt:B<=W.heap.size) (I:Below W.heap.size W W1)
  (ay:W.cell? ⟨b,i*13+3,none⟩=some (.slice (some ⟨gr,0,none⟩) n' c)) (d:Deed) (ha:d.a.toNat < (R s i).aL.length):
  bI T w0 g own bh a8 p (b0 s i {R s i with aL:=pe (R s i).aL d}) aG (.slice (some ⟨b,0,none⟩) n cap) aP (wA W1 gr (R s i).aL d)/\Fr B own own W (wA W1 gr (R s i).aL d):=by
 have h1:=h.grow I;have qa:W1.cell? ⟨b,i*13+3,none⟩=some (.slice (some ⟨gr,0,none⟩) n' c):=dD I ay;have f0:Fr B own own W W1:=Fr.less (Fr.below I) dt;unfold Eq.pe wA;by_cases aA:d.kind=3
 ·rw [if_pos aA,if_pos aA]
  obtain ⟨aU,a1⟩:=h1.y5 (B:=B) aa qa d.a.toNat ha d.b;exact ⟨aU,f0.trans a1⟩
 ·rw [if_neg aA,if_neg aA]
  by_cases bR:d.kind=4
  ·rw [if_pos bR,if_pos bR]
   obtain ⟨aU,a1⟩:=h1.y5 (B:=B) aa qa d.a.toNat ha ((cC (R s i).aL d.a.toNat+cC (R s i).aL d.b.toNat) % 100);exact ⟨aU,f0.trans a1⟩
  ·rw [if_neg bR,if_neg bR]
   refine ⟨?_,f0⟩
   have:b0 s i {R s i with aL:=(R s i).aL} = s:=Zy aa
   rw [this];exact h1
theorem abx {W1:World} {gr k:Nat} (J:k ≠ gr) (aL:List Int) (d:Deed):(wA W1 gr aL d).heap[k]? = W1.heap[k]? :=by
 unfold wA;split
 ·exact Below.heap_setCell W1 _ _ k J
 ·split
  ·exact Below.heap_setCell W1 _ _ k J
  ·rfl
theorem Se {d:Deed} {cells:Int} (h:ff d cells=true):(d.kind=1->(0<=d.a/\d.a<=2)/\0<=d.b/\d.b < cells)/\(d.kind=2->(0<=d.a/\d.a < cells)/\0<=d.b/\d.b<=2)/\(d.kind ≠ 1->d.kind ≠ 2->0<=d.a/\d.a<=2)/\(d.kind=4->0<=d.b/\d.b<=2):=by
 unfold ff at h;refine ⟨fun k=> ?_,fun k=> ?_,fun aU a1=> ?_,fun k=> ?_⟩
 ·rw [if_pos k] at h
  simp only [Bool.and_eq_true,e0] at h;omega
 ·rw [if_neg (by omega),if_pos k] at h
  simp only [Bool.and_eq_true,e0] at h;omega
 ·rw [if_neg aU,if_neg a1] at h
  repeat' split at h
  all_goals simp only [Bool.and_eq_true,e0,Bool.false_eq_true] at h
  all_goals omega
 ·rw [if_neg (by omega),if_neg (by omega),if_neg (by omega),if_pos k] at h
  simp only [Bool.and_eq_true,e0] at h;omega
theorem aaM {N:Nat} (i:Nat) (eR:Option Addr) (ez:Nat) (ds:List Deed) (w:World) (h:bI 88 w0 g own bh a8 p s aG aZ aP w) (hinv:Inv p s N) (cz:N<=1048576) (aa:i < s.tasks.length) (n0:kDeed.C w eR ds.length ds) (oZ:ds.length<=1048576) (c7:∀ k,k < ds.length->ff (mX ds k) s.cells.length=true):
  Calls Tryz.prog 134 #[.pointer (some ⟨g,0,none⟩),.int .i64 i,.slice eR ds.length ez] w fun e af=>e= .returned (.tuple #[])/\∃ own' iR,bI 88 w0 g own' bh a8 p (n7 s i ds) aG aZ iR af/\Fr w.heap.size own own' w af:=by
 have H:=am h;clear h;have t:=hinv.task i aa;have aS:s.tasks.length<=1048576:=Nat.le_trans hinv.many cz;have hm:s.cells.length<=1048576:=Nat.le_trans hinv.sz (by decide);have aT:(R s i).bE.length<=1048576:=by rw [t.bE.len];decide
 have nX:(R s i).reads.length<=1048576:=Nat.le_trans (hinv.reads aa) (by decide);have je:(R s i).ai.length<=1048576:=Nat.le_trans (hinv.ai aa) (by decide);have uh:=am t.aL.len;have yX:=t.hE;have ox:s.log.length<=1073741824:=by have:=hinv.room;omega
 have lL:=t.iv;have o7:(R s i).aR<=1048576:=Int.le_trans (hinv.aR aa) (by decide);have jC:=t.qv;have dR:(R s i).since<=200:=Int.le_trans t.qw hinv.sn;have HN:=am t.aL.num;have aA:0 < (R s i).aL.length:=by rw [t.aL.len];decide
 clear t;by_cases aJ:(R s i).at_ < (ds.length:Int)
 ·obtain ⟨bx,gO⟩:=Int.eq_ofNat_of_zero_le yX
  have hl:bx < ds.length:=by omega
  obtain ⟨hx,p0,cs,rfl,bQ,au,aM,-⟩:=dd n0 vn bx hl (by decide);obtain ⟨d,aO⟩:∃ d,d=mX ds bx:=⟨_,rfl⟩;rw [show ds.getD bx vn=d from aO.symm] at au;have e:=C5 au;subst e;have oy:=am aM;have qN:av _:=⟨Se (show ff d s.cells.length=true by rw [aO];exact c7 bx hl)⟩;have nc:(R s i).at_<=1048576:=by omega
  have lQ:(R s i).at_.toNat=bx:=by omega
  have oK:(0:Int)<=(R s i).at_:=yX;have x6:(R s i).at_ < (ds.length:Int):=aJ
  have mO:av (n7 s i ds=if d.kind=1 then load s i d else if d.kind=2 then b0 s i {R s i with ai:=jH (R s i).ai ⟨d.a,cC (R s i).aL d.b.toNat⟩,at_:=(R s i).at_+1} else if d.kind=5/\cC (R s i).aL d.a.toNat=0 then b0 (again s i) i {R (again s i) i with bw:=(R s i).since+1} else b0 s i {R s i with aL:=pe (R s i).aL d,at_:=(R s i).at_+1}):=⟨by
   unfold n7;rw [if_neg (show ¬ (ds.length:Int)<=(R s i).at_ by omega),aO,<-lQ]⟩
  have ed:decide ((ds.length:Int)<=(R s i).at_)=false:=decide_eq_false (by omega);clear aM au bQ aO c7 n0 gO;obtain ⟨b,cap,rfl,cY,jb⟩:=H.1.iV (by omega);obtain ⟨cX,bL,rfl⟩:=H.1.kI;obtain ⟨cW,aw,rfl⟩:=H.1.hV;obtain ⟨v3,bC,v9,v10,aM,bb,aA,dU,eb,e7⟩:=H.1.task aa;obtain ⟨gr,bO,rfl,qc,-⟩:=oa aA (by omega);obtain ⟨gy,e1,rfl,-,-⟩:=Kd.fG dU;obtain ⟨ev,dp,rfl,-,-⟩:=Kd.fG eb;obtain ⟨e6,dL,rfl,-,fi⟩:=Kd.fG e7;have cJ:=am aM;have lz:=am aA;have rE:=am eb;have hc:=am fi;have wI:=am qc;have jc:=am cY;have aN:=bf H.1.bB;have bz:(0:Int)<=(i:Int):=by omega
  have b7:(i:Int) < (s.tasks.length:Int):=by omega
  clear aM bb aA dU eb e7 fi qc cY;go_enter Tryz.func134,Tryz.ntmps134;by_cases B7:d.kind=1
  ·have cg:(d.kind == 1)=true:=by simp [B7]
   have ik:=am B7;clear dR jC B7
   go_wp2_with (first
   |((with_reducible refine aQ 16 ?_);refine c4 b (i*13) cJ.1 ?_)|((with_reducible refine aQ 6 ?_);refine b6 38 ?_;intro gt U b' ad I;have dM:=am ad;have GT:=am U;have rW:=am (show w.heap.size<=gt from Nat.le_of_eq U.symm);have dF:=am I;clear ad I U)|((with_reducible refine bT 38 6 ?_);refine dG dM ?_;intro eE ad U;have bm:=am ad;have bk:=fq dF GT U;have cF:=am (bk);clear ad U dM dF bk;have ab:=cF;clear cF;have aN:=bf (H.1.grow ab.1).bB;have ck:=ae bm)
   |((with_reducible refine aQ 38 ?_);refine c4 hx (p0+bx*3) (fun j u hu=>dD ab.1 (oy.1 j u hu)) ?_)|((with_reducible refine aQ 7 ?_);refine b6 62 ?_;intro cQ eO ih ad I;have rk:=am ad;have pr:=am eO;have G2:=am (show w.heap.size<=cQ from Nat.le_trans ab.1.size (Nat.le_of_eq eO.symm));have ld:=am I;clear ad I eO)|((with_reducible refine bT 62 7 ?_);refine dG rk ?_;intro dJ ad U;have hP:=am ad;have bk:=fq ld pr U;replace ab:=cf ab bk;replace bm:=aV bm bk;clear ad U rk ld bk aN ck;have aN:=bf (H.1.grow ab.1).bB;have ck:=ae bm;have kY:=ae hP)
   |(go_at_call 147;refine (aaL i d _ (H.1.grow ab.1) aa aS hm aT nX je uh.1 yX nc (qN.1.1 ik.1).1 (qN.1.1 ik.1).2).mono ?_;rintro e b9 ⟨rfl,dr,h1,f1⟩;have bn:=am h1;have bA:=am ((Fr.below (own:=own) ab.1).trans (Fr.less f1 ab.1.size));clear H ab aN bm ck hP kY h1 f1))
   refine o6 ?_;first | exact ⟨rfl,dr,.slice cW s.log.length aw,(by rw [mO.1,if_pos ik.1];exact bn.1),bA.1⟩ | exact ⟨rfl,dr,⟨.slice cW s.log.length aw,(by rw [mO.1,if_pos ik.1];exact bn.1)⟩,bA.1⟩
  ·have cg:(d.kind == 1)=false:=by simp [B7]
   have ik:=am B7;clear B7;by_cases a1:d.kind=2
   ·clear dR jC
    obtain ⟨bl,eu⟩:=Int.eq_ofNat_of_zero_le (qN.1.2.1 a1).2.1;have NK:(0:Int)<=d.b:=by omega
    have NL:d.b < ((R s i).aL.length:Int):=by have:=uh.1;have:=(qN.1.2.1 a1).2.2;omega
    have G3:d.b.toNat=bl:=by omega
    obtain ⟨rc,-⟩:=Kd.wx 0 lz.1 d.b NK NL;obtain ⟨num,mS⟩:∃ x,x=cC (R s i).aL bl:=⟨_,rfl⟩;rw [show AQ 0 (R s i).aL d.b=num from by rw [mS,<-G3];rfl,G3] at rc;have rF:=am rc;have sd:=am mS;have cO:(d.kind == 2)=true:=by simp [a1]
    have kh:=am a1;clear rc mS eu a1
    go_wp2_with (first
    |((with_reducible refine aQ 16 ?_);refine c4 b (i*13) cJ.1 ?_)|((with_reducible refine aQ 6 ?_);refine b6 38 ?_;intro gt U b' ad I;have dM:=am ad;have GT:=am U;have rW:=am (show w.heap.size<=gt from Nat.le_of_eq U.symm);have dF:=am I;clear ad I U)|((with_reducible refine bT 38 6 ?_);refine dG dM ?_;intro eE ad U;have bm:=am ad;have bk:=fq dF GT U;have cF:=am (bk);clear ad U dM dF bk;have ab:=cF;clear cF;have aN:=bf (H.1.grow ab.1).bB;have ck:=ae bm)
    |((with_reducible refine aQ 38 ?_);refine c4 hx (p0+bx*3) (fun j u hu=>dD ab.1 (oy.1 j u hu)) ?_)|((with_reducible refine aQ 7 ?_);refine b6 62 ?_;intro cQ eO ih ad I;have rk:=am ad;have pr:=am eO;have G2:=am (show w.heap.size<=cQ from Nat.le_trans ab.1.size (Nat.le_of_eq eO.symm));have ld:=am I;clear ad I eO)|((with_reducible refine bT 62 7 ?_);refine dG rk ?_;intro dJ ad U;have hP:=am ad;have bk:=fq ld pr U;replace ab:=cf ab bk;replace bm:=aV bm bk;clear ad U rk ld bk aN ck;have aN:=bf (H.1.grow ab.1).bB;have ck:=ae bm;have kY:=ae hP))
    refine kO (n:=21) (S:=fun W=>W.heap[g]? = some (.cells #[bh,a8,.slice cX s.cells.length bL,.slice (some ⟨b,0,none⟩) s.tasks.length cap,.int .i64 s.clock,.slice cW s.log.length aw] 88 (0,0))/\W.heap[gt]? = some (.cells #[.int .i64 (R s i).body,.int .i64 (R s i).aR,.int .i64 (R s i).up,.slice (some ⟨gr,0,none⟩) (R s i).aL.length bO,.int .i64 (R s i).a7,.int .i64 (R s i).aE,.int .i64 (R s i).at_,.int .i64 (R s i).since,.slice gy (R s i).bE.length e1,.slice ev (R s i).reads.length dp,.slice e6 (R s i).ai.length dL,.int .i64 (R s i).bw,.int .i64 (R s i).from_] 38 (0,0))/\W.heap[cQ]? = some (.cells #[.int .i64 d.kind,.int .i64 d.a,.int .i64 d.b] 62 (0,0))/\W.cell? ⟨gr,bl,none⟩=some (.int .i64 num)) (ds:= [18,19,20]) (by kernel_rfl) rfl ⟨gW (H.1.grow ab.1).bB,gW bm.1,gW hP.1,(show dJ.cell? ⟨gr,bl,none⟩=_ from dD ab.1 rF.1)⟩ (fun aK=> ?_);have I:=ei (Below.refl dJ.heap.size dJ);generalize dJ.drew=fN at I aK ⊢;have iy:=cf ab I;have ky:=am (H.1.grow iy.1);have lA:=am (Fr.below (own:=own) iy.1);have z5:=ks hc iy.1;have jl:=am (H.1.dk gt rW.1);clear I aN ck kY bm hP ab;refine hn 4 17 [0,1,2,3,4,5,6,7,8,9,10,11,12,13,14,15,16] aK ?_
    iterate 17 (refine hR rfl (by rintro W ⟨bU,s2,ec,gx⟩;have t0:=bf bU;have t2:=bf s2;have t3:=bf ec;clear bU s2 ec;go_simp;with_reducible rfl) ?_)
    refine bN ?_;refine fs 17 (some 77) (fun K au=> ?_);refine kW Tryz.func148 #[.slice e6 (R s i).ai.length dL,.agg #[.int .i64 d.a,.int .i64 num]] ?_;refine (SM e6 dL (R s i).ai ⟨d.a,num⟩ _ z5.1 je).mono ?_;rintro e wn ⟨v9,rfl,D4,I⟩;obtain ⟨gY,d9,dO⟩:=Kd.bt D4;subst dO;refine ⟨_,rfl, ?_⟩;refine au.out _ _ ⟨fS aK.1 I,fS aK.2.1 I,fS aK.2.2.1 I,dD I aK.2.2.2⟩ (fun aK=>e8 ?_);clear au K
    have V:av (cn.aC 52 wn w0.heap.size (fun k=>own k=0/\w.heap.size<=k) (.slice gY (jH (R s i).ai ⟨d.a,num⟩).length d9) (jH (R s i).ai ⟨d.a,num⟩)):=⟨Kd.ft (Kd.cG (Kd.fW D4) (fun k J=>⟨ky.1.dk k J.2.1,Nat.le_trans lA.1.size J.2.1⟩)) ky.1.below.size⟩;have wK:=am (ky.1.grow I);have Fn:=am (lA.1.trans (Fr.less (Fr.below I) lA.1.size));have yZ:=am aK.2.1;clear ky lA z5 D4 I aK iy;have aN:=bf wK.1.bB;refine lM (fuel:=3) 18 (by kernel_rfl) ?_;simp only [List.drop_succ_cons,List.drop_zero]
    go_wp2_with (first
    |((with_reducible refine bT 36 79 ?_);refine e9 (u:=.slice gY (jH (R s i).ai ⟨d.a,num⟩).length d9) rfl rfl _ _ rfl rfl rfl rfl rfl (by kernel_rfl) (wK.1.ready (i:=i) aa 10 (by decide)) ?_;intro xe aH;obtain ⟨dr,aU,a1,-⟩:=wK.1.Ig (B:=w.heap.size) (i:=i) aa V.1;rw [<-aH] at aU a1;have xf:=am aU;have z2:=am (Fn.1.trans a1);have cZ:=eA (p:=⟨b,i*13+10,none⟩) yZ.1 (fun he=>by have br:=jl.1;rw [show gt=b from he,jc.1] at br;cases br) (.slice gY (jH (R s i).ai ⟨d.a,num⟩).length d9);rw [<-aH] at cZ;have LA:=am cZ;clear wK Fn V yZ aU a1 cZ aH aN;have aN:=bf xf.1.bB;have ck:=ae LA))
    obtain ⟨s1,dR⟩:∃ x:Sys,x=b0 s i {R s i with ai:=jH (R s i).ai ⟨d.a,num⟩}:=⟨_,rfl⟩;have cw:i < s1.tasks.length:=by rw [dR];simpa [c5] using aa
    have nV:(R s1 i).at_=(R s i).at_:=by rw [dR];simp [cD,c5,aa]
    rw [<-dR] at xf;refine wp_region_still_tail 11 (by kernel_rfl) (by kernel_rfl) ?_;simp only [List.take_succ_cons,List.take_zero,List.drop_succ_cons,List.drop_zero];iterate 11 still_step
    refine wpStill_nil ?_;rw [show IntKind.i64.wrap ((R s i).at_+1)=(R s i).at_+1 from by rw [k0];unfold wrap64;omega];have I:=ei (Below.refl xe.heap.size xe);show wpList _ _ _ _ _ xe.drew;generalize xe.drew=sD at I ⊢;have iG:=am (xf.1.grow I);have l6:=am (z2.1.trans (Fr.less (Fr.below I) z2.1.size));clear xf z2 aN ck I;have aN:=bf iG.1.bB
    go_wp2_with (first
    |((with_reducible refine bT 3 114 ?_);refine e9 (u:=.int .i64 ((R s i).at_+1)) rfl rfl _ _ rfl rfl rfl rfl rfl (by kernel_rfl) (iG.1.ready (i:=i) cw 6 (by decide)) ?_;intro b9 aH;obtain ⟨aU,a1⟩:=iG.1.setInt (B:=w.heap.size) (i:=i) cw 6 (by decide) ((R s i).at_+1) {R s1 i with at_:=(R s i).at_+1} (fun _ _ _ _=>rfl) ⟨rfl,rfl,rfl,rfl⟩;rw [<-aH] at aU a1;have gj:=am aU;have gl:=am (l6.1.trans a1);clear iG l6 aN aU a1 aH))
    refine fv ?_;have h:=gj.1;rw [dR,set_set,cD aa] at h;first | exact ⟨rfl,dr,.slice cW s.log.length aw,(by rw [mO.1,if_neg ik.1,if_pos kh.1,G3,<-sd.1];exact h),gl.1⟩ | exact ⟨rfl,dr,⟨.slice cW s.log.length aw,(by rw [mO.1,if_neg ik.1,if_pos kh.1,G3,<-sd.1];exact h)⟩,gl.1⟩
   ·by_cases il:d.kind=5
    ·have qd:=am dR
     have Uz:=am jC
     skip
     have cO:(d.kind == 2)=false:=by simp [a1]
     have dh:(d.kind == 5)=true:=by simp [il]
     have xd:(0:Int)<=d.a:=(qN.1.2.2.1 ik.1 a1).1;have vS:d.a < ((R s i).aL.length:Int):=by have:=uh.1;have:=(qN.1.2.2.1 ik.1 a1).2;omega
     obtain ⟨BL,D5⟩:=Int.eq_ofNat_of_zero_le xd;have ug:d.a.toNat=BL:=by omega
     obtain ⟨rc,-⟩:=Kd.wx 0 lz.1 d.a xd vS;obtain ⟨num,mS⟩:∃ x,x=cC (R s i).aL BL:=⟨_,rfl⟩;rw [show AQ 0 (R s i).aL d.a=num from by rw [mS,<-ug];rfl,ug] at rc;have rF:=am rc;have sd:=am mS;have kh:=am a1;have ki:=am il;clear rc mS D5 a1 il;by_cases aX:num=0
     ·have fu:(num == 0)=true:=by simp [aX]
      have fY:=am aX;have hw:wrap64 ((R s i).since+1)=(R s i).since+1:=by have:=qd.1;have:=Uz.1;unfold wrap64;omega
      clear aX;obtain ⟨vC,sZ⟩:∃ x:Sys,x=again s i:=⟨_,rfl⟩;have yx:i < vC.tasks.length:=by rw [sZ,m1];exact aa
      have D3:=am sZ;clear sZ
      go_wp2_with (first
      |((with_reducible refine aQ 16 ?_);refine c4 b (i*13) cJ.1 ?_)|((with_reducible refine aQ 6 ?_);refine b6 38 ?_;intro gt U b' ad I;have dM:=am ad;have GT:=am U;have rW:=am (show w.heap.size<=gt from Nat.le_of_eq U.symm);have dF:=am I;clear ad I U)|((with_reducible refine bT 38 6 ?_);refine dG dM ?_;intro eE ad U;have bm:=am ad;have bk:=fq dF GT U;have cF:=am (bk);clear ad U dM dF bk;have ab:=cF;clear cF;have aN:=bf (H.1.grow ab.1).bB;have ck:=ae bm)
      |((with_reducible refine aQ 38 ?_);refine c4 hx (p0+bx*3) (fun j u hu=>dD ab.1 (oy.1 j u hu)) ?_)|((with_reducible refine aQ 7 ?_);refine b6 62 ?_;intro cQ eO ih ad I;have rk:=am ad;have pr:=am eO;have G2:=am (show w.heap.size<=cQ from Nat.le_trans ab.1.size (Nat.le_of_eq eO.symm));have ld:=am I;clear ad I eO)|((with_reducible refine bT 62 7 ?_);refine dG rk ?_;intro dJ ad U;have hP:=am ad;have bk:=fq ld pr U;replace ab:=cf ab bk;replace bm:=aV bm bk;clear ad U rk ld bk aN ck;have aN:=bf (H.1.grow ab.1).bB;have ck:=ae bm;have kY:=ae hP;have rc:=dD ab.1 rF.1)
      |(go_at_call 145;refine (C8 i _ (H.1.grow ab.1) aa aS hm aT).mono ?_;rintro e b9 ⟨rfl,dr,h1,f1⟩;rw [<-D3.1] at h1;have bn:=am h1;have bA:=am ((Fr.below (own:=own) ab.1).trans (Fr.less f1 ab.1.size));clear rc H ab aN bm ck hP kY h1 f1;have aN:=bf bn.1.bB)
      |((with_reducible refine bT 3 103 ?_);refine e9 (u:=.int .i64 ((R s i).since+1)) rfl rfl _ _ rfl rfl rfl rfl rfl (by kernel_rfl) (bn.1.ready (i:=i) yx 11 (by decide)) ?_;intro bV aH;obtain ⟨aU,a1⟩:=bn.1.setInt (B:=w.heap.size) (i:=i) yx 11 (by decide) ((R s i).since+1) {R vC i with bw:=(R s i).since+1} (fun _ _ _ _=>rfl) ⟨rfl,rfl,rfl,rfl⟩;rw [<-aH] at aU a1;have gj:=am aU;have gl:=am (bA.1.trans a1);clear bn bA aN aU a1 aH))
      refine o6 ?_;have h:=gj.1;rw [D3.1] at h;first | exact ⟨rfl,dr,.slice cW s.log.length aw,(by rw [mO.1,if_neg ik.1,if_neg kh.1,if_pos ⟨ki.1,by rw [ug,<-sd.1];exact fY.1⟩];exact h),gl.1⟩ | exact ⟨rfl,dr,⟨.slice cW s.log.length aw,(by rw [mO.1,if_neg ik.1,if_neg kh.1,if_pos ⟨ki.1,by rw [ug,<-sd.1];exact fY.1⟩];exact h)⟩,gl.1⟩
     ·have fu:(num == 0)=false:=by simp [aX]
      have fY:=am aX;clear aX
      go_wp2_with (first
      |((with_reducible refine aQ 16 ?_);refine c4 b (i*13) cJ.1 ?_)|((with_reducible refine aQ 6 ?_);refine b6 38 ?_;intro gt U b' ad I;have dM:=am ad;have GT:=am U;have rW:=am (show w.heap.size<=gt from Nat.le_of_eq U.symm);have dF:=am I;clear ad I U)|((with_reducible refine bT 38 6 ?_);refine dG dM ?_;intro eE ad U;have bm:=am ad;have bk:=fq dF GT U;have cF:=am (bk);clear ad U dM dF bk;have ab:=cF;clear cF;have aN:=bf (H.1.grow ab.1).bB;have ck:=ae bm)
      |((with_reducible refine aQ 38 ?_);refine c4 hx (p0+bx*3) (fun j u hu=>dD ab.1 (oy.1 j u hu)) ?_)|((with_reducible refine aQ 7 ?_);refine b6 62 ?_;intro cQ eO ih ad I;have rk:=am ad;have pr:=am eO;have G2:=am (show w.heap.size<=cQ from Nat.le_trans ab.1.size (Nat.le_of_eq eO.symm));have ld:=am I;clear ad I eO)|((with_reducible refine bT 62 7 ?_);refine dG rk ?_;intro dJ ad U;have hP:=am ad;have bk:=fq ld pr U;replace ab:=cf ab bk;replace bm:=aV bm bk;clear ad U rk ld bk aN ck;have aN:=bf (H.1.grow ab.1).bB;have ck:=ae bm;have kY:=ae hP;have rc:=dD ab.1 rF.1))
      clear rc;have kg:=am (H.1.grow ab.1);have oj:=am (Fr.below (own:=own) ab.1);obtain ⟨s1,dR⟩:∃ x:Sys,x=s:=⟨_,rfl⟩;have cw:i < s1.tasks.length:=by rw [dR];exact aa
      have nV:(R s1 i).at_=(R s i).at_:=by rw [dR]
      rw [<-dR] at kg;refine wp_region_still_tail 11 (by kernel_rfl) (by kernel_rfl) ?_;simp only [List.take_succ_cons,List.take_zero,List.drop_succ_cons,List.drop_zero];iterate 11 still_step
      refine wpStill_nil ?_;rw [show IntKind.i64.wrap ((R s i).at_+1)=(R s i).at_+1 from by rw [k0];unfold wrap64;omega];have I:=ei (Below.refl dJ.heap.size dJ);show wpList _ _ _ _ _ dJ.drew;generalize dJ.drew=sD at I ⊢;have iG:=am (kg.1.grow I);have l6:=am (oj.1.trans (Fr.less (Fr.below I) oj.1.size));clear kg oj aN ck I;have aN:=bf iG.1.bB
      go_wp2_with (first
      |((with_reducible refine bT 3 114 ?_);refine e9 (u:=.int .i64 ((R s i).at_+1)) rfl rfl _ _ rfl rfl rfl rfl rfl (by kernel_rfl) (iG.1.ready (i:=i) cw 6 (by decide)) ?_;intro b9 aH;obtain ⟨aU,a1⟩:=iG.1.setInt (B:=w.heap.size) (i:=i) cw 6 (by decide) ((R s i).at_+1) {R s1 i with at_:=(R s i).at_+1} (fun _ _ _ _=>rfl) ⟨rfl,rfl,rfl,rfl⟩;rw [<-aH] at aU a1;have gj:=am aU;have gl:=am (l6.1.trans a1);clear iG l6 aN aU a1 aH))
      refine fv ?_;have h:=gj.1;rw [dR] at h
      have ao:pe (R s i).aL d=(R s i).aL:=by
       unfold pe;rw [if_neg (by have:=ki.1;omega),if_neg (by have:=ki.1;omega)]
      first | exact ⟨rfl,own,.slice cW s.log.length aw,(by rw [mO.1,if_neg ik.1,if_neg kh.1,if_neg (fun c0=>fY.1 (by rw [sd.1,<-ug];exact c0.2)),ao];exact h),gl.1⟩ | exact ⟨rfl,own,⟨.slice cW s.log.length aw,(by rw [mO.1,if_neg ik.1,if_neg kh.1,if_neg (fun c0=>fY.1 (by rw [sd.1,<-ug];exact c0.2)),ao];exact h)⟩,gl.1⟩
    ·clear dR jC
     have cO:(d.kind == 2)=false:=by simp [a1]
     have dh:(d.kind == 5)=false:=by simp [il]
     have xd:(0:Int)<=d.a:=(qN.1.2.2.1 ik.1 a1).1;have vS:d.a < ((R s i).aL.length:Int):=by have:=uh.1;have:=(qN.1.2.2.1 ik.1 a1).2;omega
     have kh:=am a1;have ki:=am il;clear a1 il
     go_wp2_with (first
     |((with_reducible refine aQ 16 ?_);refine c4 b (i*13) cJ.1 ?_)|((with_reducible refine aQ 6 ?_);refine b6 38 ?_;intro gt U b' ad I;have dM:=am ad;have GT:=am U;have rW:=am (show w.heap.size<=gt from Nat.le_of_eq U.symm);have dF:=am I;clear ad I U)|((with_reducible refine bT 38 6 ?_);refine dG dM ?_;intro eE ad U;have bm:=am ad;have bk:=fq dF GT U;have cF:=am (bk);clear ad U dM dF bk;have ab:=cF;clear cF;have aN:=bf (H.1.grow ab.1).bB;have ck:=ae bm)
     |((with_reducible refine aQ 38 ?_);refine c4 hx (p0+bx*3) (fun j u hu=>dD ab.1 (oy.1 j u hu)) ?_)|((with_reducible refine aQ 7 ?_);refine b6 62 ?_;intro cQ eO ih ad I;have rk:=am ad;have pr:=am eO;have G2:=am (show w.heap.size<=cQ from Nat.le_trans ab.1.size (Nat.le_of_eq eO.symm));have ld:=am I;clear ad I eO)|((with_reducible refine bT 62 7 ?_);refine dG rk ?_;intro dJ ad U;have hP:=am ad;have bk:=fq ld pr U;replace ab:=cf ab bk;replace bm:=aV bm bk;clear ad U rk ld bk aN ck;have aN:=bf (H.1.grow ab.1).bB;have ck:=ae bm;have kY:=ae hP))
     have mW:=dD ab.1 (cJ.1 3 _ rfl);refine wp_region_still_tail 10 (by kernel_rfl) (by kernel_rfl) ?_;simp only [List.take_succ_cons,List.take_zero,List.drop_succ_cons,List.drop_zero];iterate 10 still_step
     refine wpStill_nil ?_;clear mW;have I:=ei (Below.refl dJ.heap.size dJ);show wpList _ _ _ _ _ dJ.drew;generalize dJ.drew=ih at I ⊢;have jR:=cf ab I;have yY:=aV bm I;have jl:=am (H.1.dk gt rW.1);clear I ab aN ck kY bm hP
     go_wp2_with (first
     |(go_at_call 149;refine (abd gr (R s i).aL.length bO w0.heap.size (fun k=>own k=8+8*i) (R s i).aL d.kind d.a d.b _ (Kd.kv lz.1 jR.1) (by have:=uh.1;omega) ⟨xd,vS⟩ (fun bR=>by have:=qN.1.2.2.2 bR;have:=uh.1;omega) (fun k J=>HN.1 k (by have:=uh.1;omega))).mono ?_;rintro e g1 ⟨rfl,fN,JC,he⟩;obtain ⟨aU,a1⟩:=(H.1.grow jR.1).pe (B:=w.heap.size) aa jR.1.size JC (dD jR.1 (cJ.1 3 _ rfl)) d (by omega);have cZ:=(abx (W1:=fN) (show gt ≠ gr from fun U=>by have br:=jl.1;rw [U,wI.1] at br;omega) (R s i).aL d).trans (fS yY.1 JC);rw [<-show g1=wA fN gr (R s i).aL d from he] at aU a1 cZ;have kg:=am aU;have oj:=am ((Fr.below (own:=own) jR.1).trans a1);have v8:=am cZ;clear aU a1 cZ he yY jR JC;have aN:=bf kg.1.bB;have ck:=ae v8))
     obtain ⟨s1,dR⟩:∃ x:Sys,x=b0 s i {R s i with aL:=pe (R s i).aL d}:=⟨_,rfl⟩;have cw:i < s1.tasks.length:=by rw [dR];simpa [c5] using aa
     have nV:(R s1 i).at_=(R s i).at_:=by rw [dR];simp [cD,c5,aa]
     rw [<-dR] at kg;refine wp_region_still_tail 11 (by kernel_rfl) (by kernel_rfl) ?_;simp only [List.take_succ_cons,List.take_zero,List.drop_succ_cons,List.drop_zero];iterate 11 still_step
     refine wpStill_nil ?_;rw [show IntKind.i64.wrap ((R s i).at_+1)=(R s i).at_+1 from by rw [k0];unfold wrap64;omega];have I:=ei (Below.refl g1.heap.size g1);show wpList _ _ _ _ _ g1.drew;generalize g1.drew=sD at I ⊢;have iG:=am (kg.1.grow I);have l6:=am (oj.1.trans (Fr.less (Fr.below I) oj.1.size));clear kg oj aN ck I;have aN:=bf iG.1.bB
     go_wp2_with (first
     |((with_reducible refine bT 3 114 ?_);refine e9 (u:=.int .i64 ((R s i).at_+1)) rfl rfl _ _ rfl rfl rfl rfl rfl (by kernel_rfl) (iG.1.ready (i:=i) cw 6 (by decide)) ?_;intro b9 aH;obtain ⟨aU,a1⟩:=iG.1.setInt (B:=w.heap.size) (i:=i) cw 6 (by decide) ((R s i).at_+1) {R s1 i with at_:=(R s i).at_+1} (fun _ _ _ _=>rfl) ⟨rfl,rfl,rfl,rfl⟩;rw [<-aH] at aU a1;have gj:=am aU;have gl:=am (l6.1.trans a1);clear iG l6 aN aU a1 aH))
     refine fv ?_;have h:=gj.1;rw [dR,set_set,cD aa] at h;first | exact ⟨rfl,own,.slice cW s.log.length aw,(by rw [mO.1,if_neg ik.1,if_neg kh.1,if_neg (fun c0=>ki.1 c0.1)];exact h),gl.1⟩ | exact ⟨rfl,own,⟨.slice cW s.log.length aw,(by rw [mO.1,if_neg ik.1,if_neg kh.1,if_neg (fun c0=>ki.1 c0.1)];exact h)⟩,gl.1⟩
 ·have ed:decide ((ds.length:Int)<=(R s i).at_)=true:=decide_eq_true (by omega)
  have mO:av (n7 s i ds=if (R s i).ai= [] then done s i (R s i).since else k4 s i 2):=⟨by
   unfold n7;rw [if_pos (show (ds.length:Int)<=(R s i).at_ by omega)]⟩
  clear c7 n0 dR jC;obtain ⟨b,cap,rfl,cY,jb⟩:=H.1.iV (by omega);obtain ⟨cX,bL,rfl⟩:=H.1.kI;obtain ⟨cW,aw,rfl⟩:=H.1.hV;obtain ⟨v3,bC,v9,v10,aM,bb,aA,dU,eb,e7⟩:=H.1.task aa;obtain ⟨gr,bO,rfl,qc,-⟩:=oa aA (by omega);obtain ⟨gy,e1,rfl,-,-⟩:=Kd.fG dU;obtain ⟨ev,dp,rfl,-,-⟩:=Kd.fG eb;obtain ⟨e6,dL,rfl,-,fi⟩:=Kd.fG e7;have cJ:=am aM;have lz:=am aA;have rE:=am eb;have hc:=am fi;have wI:=am qc;have jc:=am cY;have aN:=bf H.1.bB;have bz:(0:Int)<=(i:Int):=by omega
  have b7:(i:Int) < (s.tasks.length:Int):=by omega
  clear aM bb aA dU eb e7 fi qc cY;go_enter Tryz.func134,Tryz.ntmps134;by_cases aB:(R s i).ai= []
  ·have cg:(((R s i).ai.length:Int) == 0)=true:=by rw [aB];rfl
   have acP:((R s i).ai.length == 0)=true:=by rw [aB];rfl
   have kd:=am aB;clear aB
   go_wp2_with (first
   |((with_reducible refine aQ 16 ?_);refine c4 b (i*13) cJ.1 ?_)|((with_reducible refine aQ 6 ?_);refine b6 38 ?_;intro gt U b' ad I;have dM:=am ad;have GT:=am U;have rW:=am (show w.heap.size<=gt from Nat.le_of_eq U.symm);have dF:=am I;clear ad I U)|((with_reducible refine bT 38 6 ?_);refine dG dM ?_;intro eE ad U;have bm:=am ad;have bk:=fq dF GT U;have cF:=am (bk);clear ad U dM dF bk;have ab:=cF;clear cF;have aN:=bf (H.1.grow ab.1).bB;have ck:=ae bm)
   |(go_at_call 146;refine (RU i _ _ (H.1.grow ab.1) aa aS nX je ox lL o7).mono ?_;rintro e b9 ⟨rfl,dr,kR,h1,f1⟩;have bn:=am h1;have bA:=am ((Fr.below (own:=own) ab.1).trans (Fr.less f1 ab.1.size));clear H ab aN bm ck h1 f1))
   refine o6 ?_;refine ⟨rfl,dr,kR, ?_,bA.1⟩;rw [mO.1,if_pos kd.1];exact bn.1
  ·have cg:(((R s i).ai.length:Int) == 0)=false:=by
    have:=List.length_pos_iff.2 aB
    simp only [beq_eq_false_iff_ne];omega
   have kd:=am aB;clear aB
   go_wp2_with (first
   |((with_reducible refine aQ 16 ?_);refine c4 b (i*13) cJ.1 ?_)|((with_reducible refine aQ 6 ?_);refine b6 38 ?_;intro gt U b' ad I;have dM:=am ad;have GT:=am U;have rW:=am (show w.heap.size<=gt from Nat.le_of_eq U.symm);have dF:=am I;clear ad I U)|((with_reducible refine bT 38 6 ?_);refine dG dM ?_;intro eE ad U;have bm:=am ad;have bk:=fq dF GT U;have cF:=am (bk);clear ad U dM dF bk;have ab:=cF;clear cF;have aN:=bf (H.1.grow ab.1).bB;have ck:=ae bm)
   |(go_at_call 136;refine (BA i 2 _ (H.1.grow ab.1) aa aS).mono ?_;rintro e b9 ⟨rfl,h1,f1⟩;have bn:=am h1;have bA:=am ((Fr.below (own:=own) ab.1).trans (Fr.less f1 ab.1.size));clear H ab aN bm ck h1 f1))
   refine o6 ?_;first | exact ⟨rfl,own,.slice cW s.log.length aw,(by rw [mO.1,if_neg kd.1];exact bn.1),bA.1⟩ | exact ⟨rfl,own,⟨.slice cW s.log.length aw,(by rw [mO.1,if_neg kd.1];exact bn.1)⟩,bA.1⟩
end
section
variable {w0:World} {g:Nat} {own:Nat->Nat} {bh a8:Value} {p:Prog} {s:Sys} {aG aZ aP:Value}
theorem aae {N:Nat} (i:Nat) (eR:Option Addr) (ez:Nat) (ds:List Deed) (w:World) (h:bI 88 w0 g own bh a8 p s aG aZ aP w) (hinv:Inv p s N) (cz:N<=1048576) (aa:i < s.tasks.length) (n0:kDeed.C w eR ds.length ds) (oZ:ds.length<=1048576) (c7:∀ k,k < ds.length->ff (mX ds k) s.cells.length=true):
  Calls Tryz.prog 108 #[.pointer (some ⟨g,0,none⟩),.int .i64 i,.slice eR ds.length ez] w fun e af=>e= .returned (.tuple #[])/\∃ own' iR,bI 88 w0 g own' bh a8 p (jT s i ds) aG aZ iR af/\Fr w.heap.size own own' w af:=by
 have H:=am h;clear h;have t:=hinv.task i aa;have aS:s.tasks.length<=1048576:=Nat.le_trans hinv.many cz;have hm:s.cells.length<=1048576:=Nat.le_trans hinv.sz (by decide);have aT:(R s i).bE.length<=1048576:=by rw [t.bE.len];decide
 have B3:(R s i).aL.length<=1048576:=by rw [t.aL.len];decide
 have nX:(R s i).reads.length<=1048576:=Nat.le_trans (hinv.reads aa) (by decide);have je:(R s i).ai.length<=1048576:=Nat.le_trans (hinv.ai aa) (by decide);have yX:=t.hE;have ox:s.log.length<=1073741824:=by have:=hinv.room;omega
 have lL:=t.iv;have o7:(R s i).aR<=1048576:=Int.le_trans (hinv.aR aa) (by decide);obtain ⟨b,cap,rfl,cY,jb⟩:=H.1.iV (by omega);obtain ⟨cX,bL,rfl⟩:=H.1.kI;obtain ⟨cW,aw,rfl⟩:=H.1.hV;obtain ⟨v3,bC,v9,v10,aM,-⟩:=H.1.task aa;have cJ:=am aM;have aN:=bf H.1.bB;have bz:(0:Int)<=(i:Int):=by omega
 have b7:(i:Int) < (s.tasks.length:Int):=by omega
 have PV:=aM 5 _ rfl;have zv:=PV;clear aM;have om:=am t;have Dh:=am hinv.cells;have s0:=am n0;have rY:=am c7;have BM:=am (And.intro hinv.qy hinv.sn);clear t zv n0 c7;go_enter Tryz.func108,Tryz.ntmps108;by_cases bU:(R s i).aE=0
 ·have ed:((R s i).aE == 0)=true:=by simp [bU]
  have hO:av (jT s i ds=wm s i):=⟨by unfold jT;rw [if_pos bU]⟩;clear bU
  go_wp2_with (first
  |(go_at_call 133;refine (abc i _ H.1 aa aS B3 ox).mono ?_;rintro e b9 ⟨rfl,dr,h1,f1⟩;have bn:=am h1;have bA:=am f1;clear H cJ aN h1 f1))
  refine fv ?_;first | exact ⟨rfl,dr,(.slice cW s.log.length aw),(by rw [hO.1];exact bn.1),bA.1⟩ | exact ⟨rfl,dr,⟨(.slice cW s.log.length aw),(by rw [hO.1];exact bn.1)⟩,bA.1⟩ | exact ⟨rfl,⟨dr,(by rw [hO.1];exact bn.1),bA.1⟩⟩
 ·have ed:((R s i).aE == 0)=false:=by simp [bU]
  by_cases s1:(R s i).aE=1
  ·have cg:((R s i).aE == 1)=true:=by simp [s1]
   have hO:av (jT s i ds=n7 s i ds):=⟨by unfold jT;rw [if_neg bU,if_pos s1]⟩;clear bU s1
   go_wp2_with (first
   |(go_at_call 134;refine (aaM i eR ez ds _ H.1 hinv cz aa s0.1 oZ rY.1).mono ?_;rintro e b9 ⟨rfl,dr,kR,h1,f1⟩;have bn:=am h1;have bA:=am f1;clear H cJ aN h1 f1))
   refine fv ?_;first | exact ⟨rfl,dr,kR,(by rw [hO.1];exact bn.1),bA.1⟩ | exact ⟨rfl,dr,⟨kR,(by rw [hO.1];exact bn.1)⟩,bA.1⟩ | exact ⟨rfl,⟨dr,(by rw [hO.1];exact bn.1),bA.1⟩⟩
  ·have cg:((R s i).aE == 1)=false:=by simp [s1]
   by_cases s2:(R s i).aE=2
   ·have cO:((R s i).aE == 2)=true:=by simp [s2]
    have hO:av (jT s i ds=lock s i):=⟨by unfold jT;rw [if_neg bU,if_neg s1,if_pos s2]⟩;have dX:=am (om.1.kQ (.inl s2));have qO:=am (om.1.ai.at (k:=(R s i).at_.toNat) (by have:=dX.1;omega)).1;clear bU s1 s2
    go_wp2_with (first
    |(go_at_call 135;refine (aaI i _ H.1 aa aS hm aT je yX dX.1 (by rw [Dh.1];exact qO.1)).mono ?_;rintro e b9 ⟨rfl,dr,h1,f1⟩;have bn:=am h1;have bA:=am f1;clear H cJ aN h1 f1))
    refine fv ?_;first | exact ⟨rfl,dr,(.slice cW s.log.length aw),(by rw [hO.1];exact bn.1),bA.1⟩ | exact ⟨rfl,dr,⟨(.slice cW s.log.length aw),(by rw [hO.1];exact bn.1)⟩,bA.1⟩ | exact ⟨rfl,⟨dr,(by rw [hO.1];exact bn.1),bA.1⟩⟩
   ·have cO:((R s i).aE == 2)=false:=by simp [s2]
    by_cases ec:(R s i).aE=3
    ·have dh:((R s i).aE == 3)=true:=by simp [ec]
     have hO:av (jT s i ds=time s i):=⟨by unfold jT;rw [if_neg bU,if_neg s1,if_neg s2,if_pos ec]⟩;clear bU s1 s2 ec;have acQ:=BM.1.1;have acR:=BM.1.2
     go_wp2_with (first
     |((with_reducible refine bT 3 45 ?_);refine e9 (u:=.int .i64 (s.clock+1)) rfl rfl _ _ rfl (g:=g) (off:=4) rfl rfl rfl rfl (by kernel_rfl) ⟨⟨_,by rw [bf H.1.bB];rfl⟩,iX H.1.bB _⟩ ?_;intro ih aH;obtain ⟨aU,a1⟩:=H.1.Rs (B:=w.heap.size) (s.clock+1);rw [<-aH] at aU a1;have oM:=am aU;have wJ:=am a1;clear H cJ aN aU a1 aH PV;have aN:=bf oM.1.bB))
     refine wp_region_still_tail 13 (by kernel_rfl) (by kernel_rfl) ?_;simp only [List.take_succ_cons,List.take_zero,List.drop_succ_cons,List.drop_zero];iterate 13 still_step
     refine wpStill_nil ?_;have I:=ei (Below.refl ih.heap.size ih);show wpList _ _ _ _ _ ih.drew;generalize ih.drew=g1 at I ⊢;have kg:=am (oM.1.grow I);have oj:=am (wJ.1.trans (Fr.less (Fr.below I) wJ.1.size));clear oM wJ aN I;have aN:=bf kg.1.bB
     go_wp2_with (first
     |((with_reducible refine bT 3 58 ?_);refine e9 (u:=.int .i64 (s.clock+1)) rfl rfl _ _ rfl rfl rfl rfl rfl (by kernel_rfl) (kg.1.ready (i:=i) aa 11 (by decide)) ?_;intro fN aH;obtain ⟨aU,a1⟩:=kg.1.setInt (B:=w.heap.size) (i:=i) aa 11 (by decide) (s.clock+1) {R s i with bw:=s.clock+1} (fun _ _ _ _=>rfl) ⟨rfl,rfl,rfl,rfl⟩;rw [<-aH] at aU a1;have ky:=am aU;have lA:=am (oj.1.trans a1);clear kg oj aN aU a1 aH;have aN:=bf ky.1.bB)
     |(go_at_call 136;refine (BA i 4 _ ky.1 (by rw [c5];exact aa) (by rw [c5];exact aS)).mono ?_;rintro e b9 ⟨rfl,h1,f1⟩;have bn:=am h1;have bA:=am (lA.1.trans (Fr.less f1 lA.1.size));clear ky lA aN h1 f1))
     refine fv ?_;have h:=bn.1;unfold k4 at h;rw [set_set,cD (s:={s with clock:=s.clock+1}) aa] at h;first | exact ⟨rfl,own,(.slice cW s.log.length aw),(by rw [hO.1];exact h),bA.1⟩ | exact ⟨rfl,own,⟨(.slice cW s.log.length aw),(by rw [hO.1];exact h)⟩,bA.1⟩ | exact ⟨rfl,⟨own,(by rw [hO.1];exact h),bA.1⟩⟩
    ·have dh:((R s i).aE == 3)=false:=by simp [ec]
     by_cases gx:(R s i).aE=4
     ·have fu:((R s i).aE == 4)=true:=by simp [gx]
      have hO:av (jT s i ds=check s i):=⟨by unfold jT;rw [if_neg bU,if_neg s1,if_neg s2,if_neg ec,if_pos gx]⟩;clear bU s1 s2 ec gx
      go_wp2_with (first
      |(go_at_call 137;refine (aba i _ H.1 aa aS hm aT nX yX (fun k J=>by rw [Dh.1];exact (om.1.reads.at J).1)).mono ?_;rintro e b9 ⟨rfl,dr,h1,f1⟩;have bn:=am h1;have bA:=am f1;clear H cJ aN h1 f1))
      refine fv ?_;first | exact ⟨rfl,dr,(.slice cW s.log.length aw),(by rw [hO.1];exact bn.1),bA.1⟩ | exact ⟨rfl,dr,⟨(.slice cW s.log.length aw),(by rw [hO.1];exact bn.1)⟩,bA.1⟩ | exact ⟨rfl,⟨dr,(by rw [hO.1];exact bn.1),bA.1⟩⟩
     ·have fu:((R s i).aE == 4)=false:=by simp [gx]
      have hO:av (jT s i ds=write s i):=⟨by unfold jT;rw [if_neg bU,if_neg s1,if_neg s2,if_neg ec,if_neg gx]⟩;have dX:=am (om.1.kQ (.inr (by have:=om.1.qx;omega)));have qO:=am (om.1.ai.at (k:=(R s i).at_.toNat) (by have:=dX.1;omega)).1;clear bU s1 s2 ec gx
      go_wp2_with (first
      |(go_at_call 138;refine (MC i _ H.1 aa aS hm nX je ox lL o7 yX dX.1 (by rw [Dh.1];exact qO.1)).mono ?_;rintro e b9 ⟨rfl,dr,kR,h1,f1⟩;have bn:=am h1;have bA:=am f1;clear H cJ aN h1 f1))
      refine fv ?_;first | exact ⟨rfl,dr,kR,(by rw [hO.1];exact bn.1),bA.1⟩ | exact ⟨rfl,dr,⟨kR,(by rw [hO.1];exact bn.1)⟩,bA.1⟩ | exact ⟨rfl,⟨dr,(by rw [hO.1];exact bn.1),bA.1⟩⟩
end
def FA (W:World) (b i P:Nat):Nat:=
 match W.cell? ⟨b,i*13+5,none⟩,W.cell? ⟨b,i*13+6,none⟩ with
 | some (.int _ st),some (.int _ a)=>if st=5 then ((P:Int) - a).toNat+1 else 0
 | _,_=>0
theorem CW {W:World} {b i P:Nat} {st a:Int} (br:W.cell? ⟨b,i*13+5,none⟩=some (.int .i64 st)) (hp:W.cell? ⟨b,i*13+6,none⟩=some (.int .i64 a)):FA W b i P=if st=5 then ((P:Int) - a).toNat+1 else 0:=by
 unfold FA;rw [br,hp]
theorem Gn {i:Nat} {s:Sys} (h:(R s i).aE ≠ 5):∀ r,writes i r s=s
 | 0=>rfl
 | r+1=>by unfold writes;rw [if_neg h]
theorem Ml {i:Nat} {s:Sys} (h:(R s i).aE=5) (r:Nat):writes i (r+1) s=writes i r (write s i):=by
 rw [writes,if_pos h]
theorem Bs {p:Prog} {s:Sys} {N i:Nat} (h:Inv p s N) (aa:i < s.tasks.length) (hs:(R s i).aE=5):(R (write s i) i).aE=0\/((R (write s i) i).aE=5/\(R (write s i) i).at_=(R s i).at_+1/\(R (write s i) i).ai=(R s i).ai):=by
 unfold write;simp only [];split
 ·left
  unfold done;show (R (b0 _ i _) i).aE=0;rw [cD (by simpa [c5,setCell] using aa)]
 ·right
  rw [cD (by simpa [setCell] using aa)];exact ⟨hs,rfl,rfl⟩
section
variable {w0:World} {g:Nat} {own:Nat->Nat} {bh a8:Value} {p:Prog} {s:Sys} {aG aZ aP:Value}
theorem aaf {N:Nat} (cz:N<=1048576):∀ (n:Nat) (i:Nat) (s:Sys) (own:Nat->Nat) (aP:Value) (w:World),bI 88 w0 g own bh a8 p s aG aZ aP w->Inv p s N->i < s.tasks.length->s.tasks.length - i<=n->
  Calls Tryz.prog 132 #[.pointer (some ⟨g,0,none⟩),.int .i64 i] w fun e af=>e= .returned (.tuple #[])/\∃ own' iR,bI 88 w0 g own' bh a8 p (off s i) aG aZ iR af/\Fr w.heap.size own own' w af:=by
 intro n
 induction n with
 | zero=>intro i s own aP w _ _ aa aS;omega
 | succ n fI=>
 intro i s own aP w h hinv aa iQ;have H:=am h;clear h;have aS:s.tasks.length<=1048576:=Nat.le_trans hinv.many cz;obtain ⟨b,cap,rfl,cY,jb⟩:=H.1.iV (by omega);have zw:=am fI;have xA:=am (QS hinv aa);clear fI;go_enter Tryz.func132,Tryz.ntmps132;go_wp2;go_loopw [4] (fun k af=>∃ fD:Nat,fD<=s.tasks.length/\k= .int .i64 fD/\∃ own' iR,av (bI 88 w0 g own' bh a8 p (ph s i fD) aG (.slice (some ⟨b,0,none⟩) s.tasks.length cap) iR af)/\av (Fr w.heap.size own own' w af)) (fun k _=>s.tasks.length - (intOf k).toNat)
 case atStart=>exact ⟨0,Nat.zero_le _,rfl,own,aP,H,⟨Fr.refl _ _ _⟩⟩
 case round=>
  clear H;obtain ⟨k,J,rfl,jW,JD,cT,hD⟩:=hrel;obtain ⟨cA,gP⟩:∃ x:Sys,x=ph s i k:=⟨_,rfl⟩;have eN:cA.tasks.length=s.tasks.length:=by rw [gP,R']
  have CI:Inv p cA N:=by rw [gP];exact (hinv.ph J).1
  rw [<-gP] at cT;have c8:=am gP;clear gP;obtain ⟨cX,bL,iu⟩:=cT.1.kI;obtain ⟨cW,aw,rfl⟩:=cT.1.hV;have aN:=bf cT.1.bB;by_cases aJ:k < s.tasks.length
  ·have pF:k < cA.tasks.length:=by omega
   obtain ⟨v3,bC,v9,v10,aM,-⟩:=cT.1.task pF;have AX:=aM 2 _ rfl;have bz:(0:Int)<=(k:Int):=by omega
   have b7:(k:Int) < (s.tasks.length:Int):=by omega
   clear aM iu;by_cases hu:(R cA k).up=(i:Int)
   ·have ed:((R cA k).up == (i:Int))=true:=by simp [hu]
    have ow:=(CI.task k pF).lV;have j6:i < k:=by omega
    have bX:=am hu;clear hu ow AX;have AX:wr.cell? ⟨b,k*13+2,none⟩=some (.int .i64 (R cA k).up):=(by obtain ⟨_,_,_,_,aM,-⟩:=cT.1.task pF;exact aM 2 _ rfl)
    go_wp2_with (first
    |(go_at_call 132;refine (zw.1 k cA jW _ _ cT.1 CI pF (by omega)).mono ?_;rintro e b9 ⟨rfl,dr,kR,h1,f1⟩;have bn:=am h1;have bA:=am (hD.1.trans (Fr.less f1 hD.1.size));clear cT hD aN AX h1 f1))
    go_roundw
    case rel=>exact ⟨k+1,by omega,by go_num,dr,kR,⟨by rw [Gm,<-c8.1,if_pos bX.1];exact bn.1⟩,bA⟩
    case measure=>simp [intOf];omega
   ·have ed:((R cA k).up == (i:Int))=false:=by simp [hu]
    have bX:=am hu;clear hu;go_wp2;go_roundw
    case rel=>exact ⟨k+1,by omega,by go_num,jW,_,⟨by rw [Gm,<-c8.1,if_neg bX.1];exact cT.1⟩,hD⟩
    case measure=>simp [intOf];omega
  ·obtain rfl:k=s.tasks.length:=by omega
   have gP:cA=mR s i:=c8.1;have j6:i < cA.tasks.length:=by omega
   have HU:Inv p cA N:=CI;obtain ⟨v3,bC,v9,v10,aM,-⟩:=cT.1.task j6;have sj:=aM 4 _ rfl;have CR:=aM 5 _ rfl;have bz:(0:Int)<=(i:Int):=by omega
   have b7:(i:Int) < (s.tasks.length:Int):=by omega
   clear aM iu
   cases ql:isLive (R cA i) with
   | false=>
    have cg:((R cA i).a7 != 0)=true:=by
     unfold isLive at ql;simp at ql;simp [ql.1]
    have cO:((R cA i).a7 != 1)=true:=by
     unfold isLive at ql;simp at ql;simp [ql.2]
    have qd:=am gP;have s3:=am ql;clear gP ql;go_wp2;refine o6 ?_
    have he:off s i=cA:=by
     rw [xA.1,<-qd.1];unfold nH;rw [if_neg (by rw [s3.1];simp)]
    first | exact ⟨rfl,jW,(.slice cW cA.log.length aw),(by rw [he];exact cT.1),hD.1⟩ | exact ⟨rfl,jW,⟨(.slice cW cA.log.length aw),(by rw [he];exact cT.1)⟩,hD.1⟩ | exact ⟨rfl,⟨jW,(by rw [he];exact cT.1),hD.1⟩⟩
   | true=>
    by_cases la:(R cA i).a7=0
    ·have cg:((R cA i).a7 != 0)=false:=by simp [la]
     clear la;obtain ⟨P,qP⟩:∃ x,x=(R cA i).ai.length:=⟨_,rfl⟩;have kd:=am qP;have qd:=am gP;have s3:=am ql;clear qP gP ql;go_wp2;go_loopw [] (fun af=>∃ (r:Nat) (di:Sys) (own':Nat->Nat) (iR:Value),av (bI 88 w0 g own' bh a8 p di aG (.slice (some ⟨b,0,none⟩) s.tasks.length cap) iR af)/\av (Fr w.heap.size own own' w af)/\av (Inv p di N/\di.tasks.length=s.tasks.length/\writes i r di=writes i (P+1) cA/\((R di i).aE=5->(R di i).ai.length=P/\(P:Int) - (R di i).at_<=r))) (fun af=>FA af b i P)
     case atStart=>exact ⟨P+1,cA,jW,_,cT,hD,⟨HU,eN,rfl,fun _=>⟨kd.1.symm,by have:=(HU.task i j6).hE;omega⟩⟩⟩
     case round=>
      obtain ⟨r,di,xB,NM,fo,mE,cd⟩:=hrel;obtain ⟨fl,s4,hwr,aF⟩:=cd.1;clear cT hD aN cd;have et:i < di.tasks.length:=by omega
      have z8:di.tasks.length<=1048576:=by omega
      have z':di.cells.length<=1048576:=Nat.le_trans fl.sz (by decide);have JE:(R di i).bE.length<=1048576:=by rw [(fl.task i et).bE.len];decide
      obtain ⟨zs,kx,JF⟩:=fo.1.kI;obtain ⟨rZ,r0,rfl⟩:=fo.1.hV;have aN:=bf fo.1.bB;obtain ⟨v3,bC,v9,v10,aM,-⟩:=fo.1.task et;have CR:=aM 5 _ rfl;have zx:=am (aM 6 _ rfl);have zv:=am CR;clear aM JF;by_cases br:(R di i).aE=5
      ·have z0:((R di i).aE == 5)=true:=by simp [br]
       have kj:=am br;have yz:=am (aF br);have qO:=am (show 0<=(putAt (R di i).ai (R di i).at_.toNat).cell/\(putAt (R di i).ai (R di i).at_.toNat).cell < di.cells.length by rw [fl.cells];exact ((fl.task i et).ai.at (by have:=(fl.task i et).kQ (.inr br);have:=(fl.task i et).hE;omega)).1);have nw:=am hwr;clear br aF hwr
       go_wp2_with (first
       |(go_at_call 138;refine (MC i _ fo.1 et z8 z' (Nat.le_trans (fl.reads et) (by decide)) (Nat.le_trans (fl.ai et) (by decide)) (by have:=fl.room;omega) (fl.task i et).iv (Int.le_trans (fl.aR et) (by decide)) (fl.task i et).hE ((fl.task i et).kQ (.inr kj.1)) qO.1).mono ?_;rintro e b9 ⟨rfl,dr,kR,h1,f1⟩;have bn:=am h1;have bA:=am (mE.1.trans (Fr.less f1 mE.1.size));clear mE aN h1 f1))
       go_roundw
       case rel=>
        have jN:=(fl.task i et).kQ (.inr kj.1);have a0:=(fl.task i et).hE;have oK:=yz.1;obtain ⟨jL,rfl⟩:∃ x,r=x+1:=⟨r - 1,by omega⟩;refine ⟨jL,write di i,dr,kR,bn,bA,⟨fl.write et kj.1,by rw [wC];exact s4,by rw [<-Ml kj.1];exact nw.1,fun br=> ?_⟩⟩;rcases Bs fl et kj.1 with aX | ⟨-,ha,aB⟩
        ·omega
        ·rw [aB,ha]
         exact ⟨oK.1,by omega⟩
       case measure=>
        have jN:=(fl.task i et).kQ (.inr kj.1);have a0:=(fl.task i et).hE;have oK:=yz.1;obtain ⟨_,_,_,_,mP,-⟩:=bn.1.task (i:=i) (by rw [wC];exact et);rw [CW zv.1 zx.1,CW (mP 5 _ rfl) (mP 6 _ rfl),if_pos kj.1];rcases Bs fl et kj.1 with aX | ⟨aX,ha,aB⟩
        ·rw [if_neg (by omega)]
         omega
        ·rw [if_pos aX,ha]
         omega
      ·have z0:((R di i).aE == 5)=false:=by simp [br]
       have nw:av (di=writes i (P+1) cA):=⟨by rw [<-hwr,Gn br]⟩;have nw:av (di=writes i ((R cA i).ai.length+1) cA):=⟨by rw [<-kd.1];exact nw.1⟩;clear br aF hwr;by_cases bU:(R di i).aE=0
       ·have gq:((R di i).aE != 0)=false:=by simp [bU]
        have jz:=am bU;clear bU
        go_wp2_with (first
        |((with_reducible refine bT 3 78 ?_);refine e9 (u:=.int .i64 4) rfl rfl _ _ rfl rfl rfl rfl rfl (by kernel_rfl) (fo.1.ready (i:=i) et 4 (by decide)) ?_;intro bV aH;obtain ⟨aU,a1⟩:=fo.1.setInt (B:=w.heap.size) (i:=i) et 4 (by decide) 4 {R di i with a7:=4} (fun _ _ _ _=>rfl) ⟨rfl,rfl,rfl,rfl⟩;rw [<-aH] at aU a1;have fY:=am aU;have p1:=am (mE.1.trans a1);clear fo mE aN aU a1 aH))
        refine fv ?_
        have he:off s i=ib di i 4:=by
         rw [xA.1,<-qd.1];unfold nH;rw [if_pos s3.1];simp only [];rw [<-nw.1,if_pos jz.1]
        first | exact ⟨rfl,xB,(.slice rZ di.log.length r0),(by rw [he];exact fY.1),p1.1⟩ | exact ⟨rfl,xB,⟨(.slice rZ di.log.length r0),(by rw [he];exact fY.1)⟩,p1.1⟩ | exact ⟨rfl,⟨xB,(by rw [he];exact fY.1),p1.1⟩⟩
       ·have gq:((R di i).aE != 0)=true:=by simp [bU]
        have jz:=am bU;clear bU
        go_wp2_with (first
        |(go_at_call 145;refine (C8 i _ fo.1 et z8 z' JE).mono ?_;rintro e b9 ⟨rfl,dr,h1,f1⟩;have fK:=am h1;have x8:=am (mE.1.trans (Fr.less f1 mE.1.size));clear fo mE aN h1 f1;have aN:=bf fK.1.bB)
        |((with_reducible refine bT 3 78 ?_);refine e9 (u:=.int .i64 4) rfl rfl _ _ rfl rfl rfl rfl rfl (by kernel_rfl) (fK.1.ready (i:=i) (by rw [m1];exact et) 4 (by decide)) ?_;intro bV aH;obtain ⟨aU,a1⟩:=fK.1.setInt (B:=w.heap.size) (i:=i) (by rw [m1];exact et) 4 (by decide) 4 {R (again di i) i with a7:=4} (fun _ _ _ _=>rfl) ⟨rfl,rfl,rfl,rfl⟩;rw [<-aH] at aU a1;have fY:=am aU;have p1:=am (x8.1.trans a1);clear fK x8 aN aU a1 aH))
        refine fv ?_
        have he:off s i=ib (again di i) i 4:=by
         rw [xA.1,<-qd.1];unfold nH;rw [if_pos s3.1];simp only [];rw [<-nw.1,if_neg jz.1]
        first | exact ⟨rfl,dr,(.slice rZ di.log.length r0),(by rw [he];exact fY.1),p1.1⟩ | exact ⟨rfl,dr,⟨(.slice rZ di.log.length r0),(by rw [he];exact fY.1)⟩,p1.1⟩ | exact ⟨rfl,⟨dr,(by rw [he];exact fY.1),p1.1⟩⟩
    ·have cg:((R cA i).a7 != 0)=true:=by simp [la]
     have cO:((R cA i).a7 != 1)=false:=by
      unfold isLive at ql;simp [la] at ql;simp [ql]
     clear la;obtain ⟨P,qP⟩:∃ x,x=(R cA i).ai.length:=⟨_,rfl⟩;have kd:=am qP;have qd:=am gP;have s3:=am ql;clear qP gP ql;go_wp2;go_loopw [] (fun af=>∃ (r:Nat) (di:Sys) (own':Nat->Nat) (iR:Value),av (bI 88 w0 g own' bh a8 p di aG (.slice (some ⟨b,0,none⟩) s.tasks.length cap) iR af)/\av (Fr w.heap.size own own' w af)/\av (Inv p di N/\di.tasks.length=s.tasks.length/\writes i r di=writes i (P+1) cA/\((R di i).aE=5->(R di i).ai.length=P/\(P:Int) - (R di i).at_<=r))) (fun af=>FA af b i P)
     case atStart=>exact ⟨P+1,cA,jW,_,cT,hD,⟨HU,eN,rfl,fun _=>⟨kd.1.symm,by have:=(HU.task i j6).hE;omega⟩⟩⟩
     case round=>
      obtain ⟨r,di,xB,NM,fo,mE,cd⟩:=hrel;obtain ⟨fl,s4,hwr,aF⟩:=cd.1;clear cT hD aN cd;have et:i < di.tasks.length:=by omega
      have z8:di.tasks.length<=1048576:=by omega
      have z':di.cells.length<=1048576:=Nat.le_trans fl.sz (by decide);have JE:(R di i).bE.length<=1048576:=by rw [(fl.task i et).bE.len];decide
      obtain ⟨zs,kx,JF⟩:=fo.1.kI;obtain ⟨rZ,r0,rfl⟩:=fo.1.hV;have aN:=bf fo.1.bB;obtain ⟨v3,bC,v9,v10,aM,-⟩:=fo.1.task et;have CR:=aM 5 _ rfl;have zx:=am (aM 6 _ rfl);have zv:=am CR;clear aM JF;by_cases br:(R di i).aE=5
      ·have z0:((R di i).aE == 5)=true:=by simp [br]
       have kj:=am br;have yz:=am (aF br);have qO:=am (show 0<=(putAt (R di i).ai (R di i).at_.toNat).cell/\(putAt (R di i).ai (R di i).at_.toNat).cell < di.cells.length by rw [fl.cells];exact ((fl.task i et).ai.at (by have:=(fl.task i et).kQ (.inr br);have:=(fl.task i et).hE;omega)).1);have nw:=am hwr;clear br aF hwr
       go_wp2_with (first
       |(go_at_call 138;refine (MC i _ fo.1 et z8 z' (Nat.le_trans (fl.reads et) (by decide)) (Nat.le_trans (fl.ai et) (by decide)) (by have:=fl.room;omega) (fl.task i et).iv (Int.le_trans (fl.aR et) (by decide)) (fl.task i et).hE ((fl.task i et).kQ (.inr kj.1)) qO.1).mono ?_;rintro e b9 ⟨rfl,dr,kR,h1,f1⟩;have bn:=am h1;have bA:=am (mE.1.trans (Fr.less f1 mE.1.size));clear mE aN h1 f1))
       go_roundw
       case rel=>
        have jN:=(fl.task i et).kQ (.inr kj.1);have a0:=(fl.task i et).hE;have oK:=yz.1;obtain ⟨jL,rfl⟩:∃ x,r=x+1:=⟨r - 1,by omega⟩;refine ⟨jL,write di i,dr,kR,bn,bA,⟨fl.write et kj.1,by rw [wC];exact s4,by rw [<-Ml kj.1];exact nw.1,fun br=> ?_⟩⟩;rcases Bs fl et kj.1 with aX | ⟨-,ha,aB⟩
        ·omega
        ·rw [aB,ha]
         exact ⟨oK.1,by omega⟩
       case measure=>
        have jN:=(fl.task i et).kQ (.inr kj.1);have a0:=(fl.task i et).hE;have oK:=yz.1;obtain ⟨_,_,_,_,mP,-⟩:=bn.1.task (i:=i) (by rw [wC];exact et);rw [CW zv.1 zx.1,CW (mP 5 _ rfl) (mP 6 _ rfl),if_pos kj.1];rcases Bs fl et kj.1 with aX | ⟨aX,ha,aB⟩
        ·rw [if_neg (by omega)]
         omega
        ·rw [if_pos aX,ha]
         omega
      ·have z0:((R di i).aE == 5)=false:=by simp [br]
       have nw:av (di=writes i (P+1) cA):=⟨by rw [<-hwr,Gn br]⟩;have nw:av (di=writes i ((R cA i).ai.length+1) cA):=⟨by rw [<-kd.1];exact nw.1⟩;clear br aF hwr;by_cases bU:(R di i).aE=0
       ·have gq:((R di i).aE != 0)=false:=by simp [bU]
        have jz:=am bU;clear bU
        go_wp2_with (first
        |((with_reducible refine bT 3 78 ?_);refine e9 (u:=.int .i64 4) rfl rfl _ _ rfl rfl rfl rfl rfl (by kernel_rfl) (fo.1.ready (i:=i) et 4 (by decide)) ?_;intro bV aH;obtain ⟨aU,a1⟩:=fo.1.setInt (B:=w.heap.size) (i:=i) et 4 (by decide) 4 {R di i with a7:=4} (fun _ _ _ _=>rfl) ⟨rfl,rfl,rfl,rfl⟩;rw [<-aH] at aU a1;have fY:=am aU;have p1:=am (mE.1.trans a1);clear fo mE aN aU a1 aH))
        refine fv ?_
        have he:off s i=ib di i 4:=by
         rw [xA.1,<-qd.1];unfold nH;rw [if_pos s3.1];simp only [];rw [<-nw.1,if_pos jz.1]
        first | exact ⟨rfl,xB,(.slice rZ di.log.length r0),(by rw [he];exact fY.1),p1.1⟩ | exact ⟨rfl,xB,⟨(.slice rZ di.log.length r0),(by rw [he];exact fY.1)⟩,p1.1⟩ | exact ⟨rfl,⟨xB,(by rw [he];exact fY.1),p1.1⟩⟩
       ·have gq:((R di i).aE != 0)=true:=by simp [bU]
        have jz:=am bU;clear bU
        go_wp2_with (first
        |(go_at_call 145;refine (C8 i _ fo.1 et z8 z' JE).mono ?_;rintro e b9 ⟨rfl,dr,h1,f1⟩;have fK:=am h1;have x8:=am (mE.1.trans (Fr.less f1 mE.1.size));clear fo mE aN h1 f1;have aN:=bf fK.1.bB)
        |((with_reducible refine bT 3 78 ?_);refine e9 (u:=.int .i64 4) rfl rfl _ _ rfl rfl rfl rfl rfl (by kernel_rfl) (fK.1.ready (i:=i) (by rw [m1];exact et) 4 (by decide)) ?_;intro bV aH;obtain ⟨aU,a1⟩:=fK.1.setInt (B:=w.heap.size) (i:=i) (by rw [m1];exact et) 4 (by decide) 4 {R (again di i) i with a7:=4} (fun _ _ _ _=>rfl) ⟨rfl,rfl,rfl,rfl⟩;rw [<-aH] at aU a1;have fY:=am aU;have p1:=am (x8.1.trans a1);clear fK x8 aN aU a1 aH))
        refine fv ?_
        have he:off s i=ib (again di i) i 4:=by
         rw [xA.1,<-qd.1];unfold nH;rw [if_pos s3.1];simp only [];rw [<-nw.1,if_neg jz.1]
        first | exact ⟨rfl,dr,(.slice rZ di.log.length r0),(by rw [he];exact fY.1),p1.1⟩ | exact ⟨rfl,dr,⟨(.slice rZ di.log.length r0),(by rw [he];exact fY.1)⟩,p1.1⟩ | exact ⟨rfl,⟨dr,(by rw [he];exact fY.1),p1.1⟩⟩
end
section
variable {w0:World} {g:Nat} {own:Nat->Nat} {bh a8:Value} {p:Prog} {s:Sys} {aG aZ aP:Value}
theorem aby {N:Nat} (i:Nat) (w:World) (h:bI 88 w0 g own bh a8 p s aG aZ aP w) (hinv:Inv p s N) (cz:N<=1048576) (aa:i < s.tasks.length):
  Calls Tryz.prog 107 #[.pointer (some ⟨g,0,none⟩),.int .i64 i] w fun e af=>e= .returned (.tuple #[])/\∃ own' iR,bI 88 w0 g own' bh a8 p (pg s i) aG aZ iR af/\Fr w.heap.size own own' w af:=by
 have H:=am h;clear h;have aS:s.tasks.length<=1048576:=Nat.le_trans hinv.many cz;have lL:=(hinv.task i aa).iv;have o7:=hinv.aR aa;obtain ⟨b,cap,rfl,cY,jb⟩:=H.1.iV (by omega);obtain ⟨iF,D0⟩:∃ n,n=gu s.tasks i 3:=⟨_,rfl⟩;have sB:=am D0.symm;clear D0;go_enter Tryz.func107,Tryz.ntmps107;by_cases aX:iF=0
 ·have ed:((iF:Int) == 0)=true:=by simp [aX]
  have fY:=am aX;obtain ⟨cX,bL,iu⟩:=H.1.kI;obtain ⟨cW,aw,rfl⟩:=H.1.hV;have aN:=bf H.1.bB;have F:=am (Fr.refl w.heap.size own w);have bz:(0:Int)<=(i:Int):=by omega
  have b7:(i:Int) < (s.tasks.length:Int):=by omega
  clear iu
  go_wp2_with (first
  |(go_at_call 86;refine Calls.mono (Gj (i:Int) 3 _ H.1.ro aS) ?_;rw [sB.1];rintro e b9 ⟨rfl,JG⟩;obtain rfl:=JG.symm)
  |((with_reducible refine bT 3 16 ?_);refine e9 (u:=.int .i64 0) rfl rfl _ _ rfl rfl rfl rfl rfl (by kernel_rfl) (H.1.ready (i:=i) aa 4 (by decide)) ?_;intro b' aH;obtain ⟨aU,a1⟩:=H.1.setInt (B:=w.heap.size) (i:=i) aa 4 (by decide) 0 {R s i with a7:=0} (fun _ _ _ _=>rfl) ⟨rfl,rfl,rfl,rfl⟩;rw [<-aH] at aU a1;have bn:=am aU;have bA:=am (F.1.trans a1);clear H F aN aU a1 aH))
  obtain ⟨s1,dR⟩:∃ x:Sys,x=b0 s i {R s i with a7:=0}:=⟨_,rfl⟩;have cw:i < s1.tasks.length:=by rw [dR,c5];exact aa
  rw [<-dR] at bn;have pE:(R s1 i).aR=(R s i).aR:=by rw [dR,cD aa]
  have aN:=bf bn.1.bB;obtain ⟨v3,bC,v9,v10,aM,-⟩:=bn.1.task cw;have CA:=aM 1 _ rfl;rw [pE] at CA;clear aM;refine wp_region_still_tail 18 (by kernel_rfl) (by kernel_rfl) ?_;simp only [List.take_succ_cons,List.take_zero,List.drop_succ_cons,List.drop_zero];iterate 18 still_step
  refine wpStill_nil ?_;rw [show IntKind.i64.wrap ((R s i).aR+1)=(R s i).aR+1 from by rw [k0];unfold wrap64;omega];clear CA;have I:=ei (Below.refl b'.heap.size b');show wpList _ _ _ _ _ b'.drew;generalize b'.drew=eE at I ⊢;have gE:=am (bn.1.grow I);have rB:=am (bA.1.trans (Fr.less (Fr.below I) bA.1.size));clear bn bA aN I;have aN:=bf gE.1.bB
  go_wp2_with (first
  |((with_reducible refine bT 3 34 ?_);refine e9 (u:=.int .i64 ((R s i).aR+1)) rfl rfl _ _ rfl rfl rfl rfl rfl (by kernel_rfl) (gE.1.ready (i:=i) cw 1 (by decide)) ?_;intro dJ aH;obtain ⟨aU,a1⟩:=gE.1.setInt (B:=w.heap.size) (i:=i) cw 1 (by decide) ((R s i).aR+1) {R s1 i with aR:=(R s i).aR+1} (fun _ _ _ _=>rfl) ⟨rfl,rfl,rfl,rfl⟩;rw [<-aH] at aU a1;have nO:=am aU;have pY:=am (rB.1.trans a1);clear gE rB aN aU a1 aH))
  refine o6 ?_;have h:=nO.1;rw [dR,set_set,cD aa] at h
  have he:pg s i=b0 s i {R s i with a7:=0,aR:=(R s i).aR+1}:=by
   unfold pg;rw [sB.1,if_pos fY.1]
  first | exact ⟨rfl,own,(.slice cW s.log.length aw),(by rw [he];exact h),pY.1⟩ | exact ⟨rfl,own,⟨(.slice cW s.log.length aw),(by rw [he];exact h)⟩,pY.1⟩ | exact ⟨rfl,⟨own,(by rw [he];exact h),pY.1⟩⟩
 ·have ed:((iF:Int) == 0)=false:=by simp [aX]
  have yA:(iF == 0)=false:=by simp [aX]
  have fY:=am aX;have aN:=bf H.1.bB;have bS:av (pg s i=ib (mR s i) i 3):=⟨by unfold pg;rw [sB.1,if_neg fY.1]⟩;clear aX
  go_wp2_with (first
  |(go_at_call 86;refine Calls.mono (Gj (i:Int) 3 _ H.1.ro aS) ?_;rw [sB.1];rintro e b9 ⟨rfl,JG⟩;obtain rfl:=JG.symm))
  go_loopw [4] (fun k af=>∃ fD:Nat,fD<=s.tasks.length/\k= .int .i64 fD/\∃ own' iR,av (bI 88 w0 g own' bh a8 p (ph s i fD) aG (.slice (some ⟨b,0,none⟩) s.tasks.length cap) iR af)/\av (Fr w.heap.size own own' w af)) (fun k _=>s.tasks.length - (intOf k).toNat)
  case atStart=>exact ⟨0,Nat.zero_le _,rfl,own,aP,H,⟨Fr.refl _ _ _⟩⟩
  case round=>
  clear H aN;obtain ⟨k,J,rfl,jW,JD,cT,hD⟩:=hrel;obtain ⟨cA,gP⟩:∃ x:Sys,x=ph s i k:=⟨_,rfl⟩;have eN:cA.tasks.length=s.tasks.length:=by rw [gP,R']
  have CI:Inv p cA N:=by rw [gP];exact (hinv.ph J).1
  rw [<-gP] at cT;have c8:=am gP;clear gP;obtain ⟨cX,bL,iu⟩:=cT.1.kI;obtain ⟨cW,aw,rfl⟩:=cT.1.hV;have aN:=bf cT.1.bB;by_cases aJ:k < s.tasks.length
  ·have pF:k < cA.tasks.length:=by omega
   obtain ⟨v3,bC,v9,v10,aM,-⟩:=cT.1.task pF;have AX:=aM 2 _ rfl;have bz:(0:Int)<=(k:Int):=by omega
   have b7:(k:Int) < (s.tasks.length:Int):=by omega
   clear aM iu;by_cases hu:(R cA k).up=(i:Int)
   ·have ed:((R cA k).up == (i:Int))=true:=by simp [hu]
    have ow:=(CI.task k pF).lV;have j6:i < k:=by omega
    have bX:=am hu;clear hu ow AX;have AX:wr.cell? ⟨b,k*13+2,none⟩=some (.int .i64 (R cA k).up):=(by obtain ⟨_,_,_,_,aM,-⟩:=cT.1.task pF;exact aM 2 _ rfl)
    go_wp2_with (first
    |(go_at_call 132;refine (aaf cz (cA.tasks.length - k) k cA jW _ _ cT.1 CI pF (Nat.le_refl _)).mono ?_;rintro e b9 ⟨rfl,dr,kR,h1,f1⟩;have bn:=am h1;have bA:=am (hD.1.trans (Fr.less f1 hD.1.size));clear cT hD aN AX h1 f1))
    go_roundw
    case rel=>exact ⟨k+1,by omega,by go_num,dr,kR,⟨by rw [Gm,<-c8.1,if_pos bX.1];exact bn.1⟩,bA⟩
    case measure=>simp [intOf];omega
   ·have ed:((R cA k).up == (i:Int))=false:=by simp [hu]
    have bX:=am hu;clear hu;go_wp2;go_roundw
    case rel=>exact ⟨k+1,by omega,by go_num,jW,_,⟨by rw [Gm,<-c8.1,if_neg bX.1];exact cT.1⟩,hD⟩
    case measure=>simp [intOf];omega
  ·obtain rfl:k=s.tasks.length:=by omega
   have gP:cA=mR s i:=c8.1;have j6:i < cA.tasks.length:=by omega
   have qd:=am gP;clear gP iu
   go_wp2_with (first
   |(go_at_call 110;refine (MA i _ cT.1 j6 (by omega)).mono ?_;rintro e b9 ⟨rfl,h1,f1⟩;have bn:=am h1;have bA:=am (hD.1.trans (Fr.less f1 hD.1.size));clear cT hD aN h1 f1))
   refine fv ?_;first | exact ⟨rfl,jW,(.slice cW cA.log.length aw),(by rw [bS.1,<-qd.1];exact bn.1),bA.1⟩ | exact ⟨rfl,jW,⟨(.slice cW cA.log.length aw),(by rw [bS.1,<-qd.1];exact bn.1)⟩,bA.1⟩ | exact ⟨rfl,⟨jW,(by rw [bS.1,<-qd.1];exact bn.1),bA.1⟩⟩
end
def tk (s:Sys) (i:Nat) (aY:List Int) (k:Nat):Sys:={s with tasks:=s.tasks ++ (aY.take k).map fun b=>g8 b i}
theorem abe (s:Sys) (i:Nat) (aY:List Int):tk s i aY 0=s:=by simp [tk]
theorem abf (s:Sys) (i:Nat) (aY:List Int) {k:Nat} (h:k < aY.length):tk s i aY (k+1)= {tk s i aY k with tasks:=(tk s i aY k).tasks ++ [g8 (cC aY k) i]}:=by
 unfold tk;rw [List.take_succ_eq_append_getElem h,List.map_append];simp [cC,h]
theorem aaN (s:Sys) (i:Nat) (aY:List Int) {k:Nat} (h:k<=aY.length):(tk s i aY k).tasks.length=s.tasks.length+k:=by
 simp [tk];omega
theorem aag (s:Sys) (i:Nat) (aY:List Int) (k:Nat) {j:Nat} (h:j < s.tasks.length):R (tk s i aY k) j=R s j:=FJ s _ h
theorem Ik (dn:List Task) (t:Task):(dn ++ [t]).zipIdx=dn.zipIdx ++ [(t,dn.length)]:=by
 rw [List.zipIdx_append];simp
section
variable {w0:World} {g:Nat} {own:Nat->Nat} {bh a8:Value} {p:Prog} {s:Sys} {aG aZ aP:Value}
theorem aaO (i:Nat) (eF:Option Addr) (eJ:Nat) (aY:List Int) (w:World) (h:bI 88 w0 g own bh a8 p s aG aZ aP w) (aa:i < s.tasks.length) (aS:s.tasks.length<=1048576) (mN:(Kd.int .i64).C w0 eF aY.length aY) (r1:aY.length<=1048576):
  Calls Tryz.prog 109 #[.pointer (some ⟨g,0,none⟩),.int .i64 i,.slice eF aY.length eJ] w fun e af=>e= .returned (.tuple #[])/\∃ own' xi,bI 88 w0 g own' bh a8 p (fork s i aY) aG xi aP af/\Fr w.heap.size own own' w af:=by
 have H:=am h;clear h;have lf:=am mN;clear mN;go_enter Tryz.func109,Tryz.ntmps109;go_wp2;go_loopw [6] (fun j af=>∃ k:Nat,k<=aY.length/\j= .int .i64 k/\∃ own' xi,av (bI 88 w0 g own' bh a8 p (tk s i aY k) aG xi aP af)/\av (Fr w.heap.size own own' w af)) (fun j _=>aY.length - (intOf j).toNat)
 case atStart=>exact ⟨0,Nat.zero_le _,rfl,own,aZ,⟨by rw [abe];exact H.1⟩,⟨Fr.refl _ _ _⟩⟩
 case round=>
  clear H;obtain ⟨k,J,rfl,jW,NN,cT,hD⟩:=hrel;obtain ⟨cA,gP⟩:∃ x:Sys,x=tk s i aY k:=⟨_,rfl⟩;have eN:cA.tasks.length=s.tasks.length+k:=by rw [gP,aaN _ _ _ J]
  rw [<-gP] at cT;have c8:=am gP;clear gP;obtain ⟨cX,bL,iu⟩:=cT.1.kI;obtain ⟨cW,aw,bQ⟩:=cT.1.hV;obtain ⟨b,cap,rfl,cY,jb⟩:=cT.1.iV (by omega);have aN:=bf cT.1.bB;have iS:=am eN;clear iu bQ eN;by_cases aJ:k < aY.length
  ·have BM:=ks lf cT.1.below
   have bz:(0:Int)<=(k:Int):=by omega
   have b7:(k:Int) < (aY.length:Int):=by omega
   obtain ⟨cy,W8,cL⟩:=Kd.kG BM.1 (k:Int) bz b7;subst W8;simp only [Int.toNat_natCast] at cL;obtain ⟨kS,pM⟩:∃ x,x=cC aY k:=⟨_,rfl⟩;rw [show rd aY (k:Int)=kS from pM.symm] at cL;have g4:=am pM;clear pM;go_wp2;refine kO (n:=18) (S:=fun W=>W.heap[g]? = some (.cells #[bh,a8,aG,.slice (some ⟨b,0,none⟩) cA.tasks.length cap,.int .i64 cA.clock,aP] 88 (0,0))/\(Kd.int .i64).C W (some cy) aY.length aY) (ds:= [14,15,16,17]) (by kernel_rfl) rfl ⟨gW cT.1.bB,Kd.bW BM.1 (ei (Below.refl _ _))⟩ (fun aK=> ?_);have I:=ei (Below.refl wr.heap.size wr);generalize wr.drew=fN at I aK ⊢;have ky:=am (cT.1.grow I);have lA:=am (hD.1.trans (Fr.less (Fr.below I) hD.1.size));clear cT hD I aN cL BM;refine hn 7 11 [0,1,2,3,4,5,6,7,8,9,10] aK ?_
   iterate 11 (refine hR rfl (by rintro W ⟨bU,s2⟩;have t0:=bf bU;obtain ⟨JH,c0,cL⟩:=Kd.kG s2 (k:Int) bz b7;cases c0;simp only [Int.toNat_natCast] at cL;rw [show rd aY (k:Int)=kS from g4.1.symm] at cL;clear bU s2;go_simp;with_reducible rfl) ?_)
   refine bN ?_;refine fs 11 (some 24) (fun K au=> ?_);refine kW Tryz.func89 #[.int .i64 kS,.int .i64 i] ?_;refine (SX kS (i:Int) _).mono ?_;rintro e wn ⟨v3,bC,v9,v10,rfl,s5,I⟩;refine ⟨_,rfl, ?_⟩;refine au.out _ _ ⟨fS aK.1 I,Kd.bW aK.2 I⟩ (fun aK=>e8 ?_);clear au K
   have iG:=am (ky.1.grow I);have l6:=am (lA.1.trans (Fr.less (Fr.below I) lA.1.size));obtain ⟨ps,zy⟩:=iG.1.H8 (B:=w.heap.size) (L:=cA.tasks.length) s5 (fun k J=>ky.1.dk k J) ky.1.below.size lA.1.size;have jw:=yU.row (own:=jW) (L:=cA.tasks.length) (B:=w0.heap.size) s5 ky.1.below.size kS (i:Int);obtain ⟨c1,FB⟩:∃ o,o=jV jW v3 bC v9 v10 cA.tasks.length:=⟨_,rfl⟩;rw [<-FB] at ps zy jw;have gj:=am ps;have gl:=am (l6.1.trans zy);clear ky lA iG l6 I ps zy s5 FB;refine fs 12 (some 25) (fun K au=> ?_);refine mV (v:=.slice (some ⟨wn.heap.size,0,none⟩) 1 1) (w1:=wn.alloc (.cells #[.int .i64 kS,.int .i64 0,.int .i64 (i:Int),v3,.int .i64 0,.int .i64 0,.int .i64 0,.int .i64 0,bC,v9,v10,.int .i64 0,.int .i64 0] 38 (0,0))) (by rfl) rfl (by unfold Ih;first|(go_simp;done)|(go_simp;rfl)) ?_;have kJ:=aK;refine au.out _ _ ⟨ss aK.1 _,Kd.bW aK.2 (mz (Below.refl _ _) _)⟩ (fun aK=>e8 ?_);clear au K
   refine fs 13 (some 26) (fun K au=> ?_);refine Kd.BE (gg c1) (w0:=w0) w0.heap.size (by rfl) (.tmp 18) (.tmp 25) 28 38 (.agg #[.int .i64 0,.int .i64 0,.int .i64 0,.slice none 0 0,.int .i64 0,.int .i64 0,.int .i64 0,.int .i64 0,.slice none 0 0,.slice none 0 0,.slice none 0 0,.int .i64 0,.int .i64 0]) 168 rfl Tryz.underlying28 (by kernel_rfl) rfl (by rw [Iq];decide) (by decide) (.slice (some ⟨b,0,none⟩) cA.tasks.length cap) cA.tasks.zipIdx (g8 kS (i:Int),cA.tasks.length) [.int .i64 kS,.int .i64 0,.int .i64 (i:Int),v3,.int .i64 0,.int .i64 0,.int .i64 0,.int .i64 0,bC,v9,v10,.int .i64 0,.int .i64 0] (fun k=>(c1 k=3\/8<=c1 k)\/(c1 k=0/\w.heap.size<=k)) (fun k=>8<=c1 k) rfl (by unfold Ih;rfl) jw (fun k J=>⟨.inl (.inr J),fun he=>by have:=gj.1.fj k he.symm;omega⟩) (fun k J=> .inr ⟨gj.1.dk k J,Nat.le_trans gl.1.size J⟩) (Kd.cG gj.1.tasks (fun k J=> .inl J)) gj.1.below gj.1.below.size (by rw [fH];have:=iS.1;omega) ?_;intro v1 g1 bG lG h6 o8;have yy:some g ≠ (Value.slice (some ⟨b,0,none⟩) cA.tasks.length cap).ownBlock:=fun he=>by have br:c1 g=3:=gj.1.fj g he.symm;rw [gj.1.hI] at br;cases br
   refine au.out _ _ ⟨eQ kJ.1 h6 yy,Kd.bW lf.1 lG⟩ (fun aK=>e8 ?_);clear au K
   obtain ⟨j9,aU,a1⟩:=gj.1.Rw (B:=w.heap.size) lG gl.1.size h6 (ts':=cA.tasks ++ [g8 kS (i:Int)]) (by rw [Ik];exact bG) o8;have G4:=am aU;have G5:=am (gl.1.trans a1);have V:=am bG;have xg:=am aK.1;have aN:=ae xg;clear gj gl jw aK kJ bG lG h6 o8 yy aU a1;refine lM (fuel:=4) 14 (by kernel_rfl) ?_;simp only [List.drop_succ_cons,List.drop_zero]
   go_wp2_with (first
   |((with_reducible refine bT 28 29 ?_);refine e9 (u:=v1) rfl rfl _ _ rfl (g:=g) (off:=3) rfl rfl (qA V.1) (qF V.1) (by kernel_rfl) ⟨⟨_,by rw [bf xg.1];rfl⟩,iX xg.1 _⟩ ?_;intro acS aH;rw [<-aH] at G4 G5;clear aH V xg aN))
   go_roundw
   case rel=>exact ⟨k+1,by omega,by go_num,j9,v1,⟨by rw [abf _ _ _ aJ,<-c8.1,<-g4.1];exact G4.1⟩,G5⟩
   case measure=>simp [intOf];omega
  ·obtain rfl:k=aY.length:=by omega
   have j6:i < cA.tasks.length:=by have:=iS.1;omega
   have n1:R cA i=R s i:=by rw [c8.1,aag _ _ _ _ aa]
   have bz:(0:Int)<=(i:Int):=by omega
   have b7:(i:Int) < (cA.tasks.length:Int):=by omega
   have he:fork s i aY=ib cA i 1:=by
    rw [c8.1];unfold fork tk;rw [List.take_length]
   have bS:=am he;clear he n1
   go_wp2_with (first
   |((with_reducible refine bT 3 37 ?_);refine e9 (u:=.int .i64 1) rfl rfl _ _ rfl rfl rfl rfl rfl (by kernel_rfl) (cT.1.ready (i:=i) j6 4 (by decide)) ?_;intro b' aH;obtain ⟨aU,a1⟩:=cT.1.setInt (B:=w.heap.size) (i:=i) j6 4 (by decide) 1 {R cA i with a7:=1} (fun _ _ _ _=>rfl) ⟨rfl,rfl,rfl,rfl⟩;rw [<-aH] at aU a1;have bn:=am aU;have bA:=am (hD.1.trans a1);clear cT hD aN aU a1 aH))
   refine fv ?_;first | exact ⟨rfl,jW,_,(by rw [bS.1];exact bn.1),bA.1⟩ | exact ⟨rfl,jW,⟨_,(by rw [bS.1];exact bn.1)⟩,bA.1⟩ | exact ⟨rfl,⟨jW,(by rw [bS.1];exact bn.1),bA.1⟩⟩
end
theorem Bt {P:Program} {c:Code} {Q:Exit->Go.Act->World->Prop} {a:Go.Act} {w:World} (h:∀ af,af=w->c.wp P Q a af):c.wp P Q a w:=h w rfl
section
variable {w0:World} {g:Nat} {own:Nat->Nat} {bh a8:Value} {p:Prog} {s:Sys} {aG aZ aP:Value}
theorem aaP {N:Nat} (i:Nat) (w:World) (h:bI 88 w0 g own bh a8 p s aG aZ aP w) (hinv:Inv p s N) (cz:N<=1048576) (aa:i < s.tasks.length) (ao:ready s i=true):
  Calls Tryz.prog 74 #[.pointer (some ⟨g,0,none⟩),.int .i64 i] w fun e af=>e= .returned (.tuple #[])/\∃ own' xi iR,bI 88 w0 g own' bh a8 p (step p s i) aG xi iR af/\Fr w.heap.size own own' w af:=by
 have H:=am h;clear h;have t:=hinv.task i aa;have aS:s.tasks.length<=1048576:=Nat.le_trans hinv.many cz;have lL:0<=(aD s.tasks i).aR:=t.iv;have o7:(R s i).aR<=4:=hinv.aR aa;have iz:0<=(R s i).aR:=lL;have dE:0<=(aD s.tasks i).body:=t.jF;have bZ:(aD s.tasks i).body < p.an.length:=t.jZ;have yv:p.an.length<=1048576:=Nat.le_trans (wE hinv.form).2.2 (by decide);have xc:(bo p.an (aD s.tasks i).body.toNat).length<=1048576:=Nat.le_trans (hinv.cq aa) (by decide);have K2:(R s i).aR < (bo p.an (R s i).body.toNat).length->dT p.cells.length p.an.length (R s i).body (actAt (bo p.an (R s i).body.toNat) (R s i).aR.toNat)=true:=fun aJ=>wz hinv.form ⟨t.jF,t.jZ⟩ (by have:=t.iv;omega)
 have rl:=am K2;have Dh:=am hinv.cells;have NO:=am t.aL;have acT:=am (Gb ao).1;clear K2 t ao;obtain ⟨b,cap,rfl,cY,jb⟩:=H.1.iV (by omega);obtain ⟨cX,bL,rfl⟩:=H.1.kI;obtain ⟨cW,aw,rfl⟩:=H.1.hV;obtain ⟨v3,bC,v9,v10,aM,-,aA,-,-,-⟩:=H.1.task aa;obtain ⟨gr,bO,rfl,-,-⟩:=oa aA (by rw [NO.1.len];decide);have lz:=am aA;have wM:=am (aM 4 _ rfl);have oL:=am (aM 3 _ rfl);have Gv:=am (aM 1 _ rfl);have aN:=bf H.1.bB;have bz:(0:Int)<=(i:Int):=by omega
 have b7:(i:Int) < (s.tasks.length:Int):=by omega
 clear aM aA;obtain ⟨bv,B0⟩:∃ x:Bool,x=decide ((aD s.tasks i).aR < ((bo p.an (aD s.tasks i).body.toNat).length:Int)):=⟨_,rfl⟩;obtain ⟨a,B2⟩:∃ x:Act,x=if (aD s.tasks i).aR < ((bo p.an (aD s.tasks i).body.toNat).length:Int) then actAt (bo p.an (aD s.tasks i).body.toNat) (aD s.tasks i).aR.toNat else iK:=⟨_,rfl⟩
 have sC:=am B0.symm;have tw:=am B2.symm;clear B0 B2;go_enter Tryz.func74,Tryz.ntmps74;by_cases lF:(R s i).a7=1
 ·have ed:((R s i).a7 == 1)=true:=by simp [lF]
  have bS:av (step p s i=pg s i):=⟨by unfold step;simp only [];rw [if_pos lF]⟩;clear lF
  go_wp2_with (first
  |(go_at_call 106;refine (Bx i w0 _ H.1.prog H.1.below H.1.ro aa aS dE bZ lL yv xc).mono ?_;rw [tw.1,sC.1];rintro e w1 ⟨sV,rfl,au,I⟩;obtain ⟨eR,ez,eF,eJ,rfl,-,cQ,-,gk⟩:=m0 au;have Aa:=am cQ;have Ab:=am gk;have ab:=am I;clear au cQ gk I aN;have aN:=bf (H.1.grow ab.1).bB)
  |((with_reducible refine aQ 4 ?_);refine b6 55 ?_;intro ga lb b' ad I;have nE:=am ad;have k6:=am lb;have m9:=am I;clear ad lb I)|((with_reducible refine bT 55 4 ?_);refine dG nE ?_;intro eE ad U;have oY:=am ad;replace ab:=am (fb ab.1 (fq m9 k6 U));clear ad U nE m9 aN;have aN:=bf (H.1.grow ab.1).bB;have tc:=ae oY;have sj:=dD ab.1 wM.1)
  |(go_at_call 107;refine (aby i _ (H.1.grow ab.1) hinv cz aa).mono ?_;rintro e b9 ⟨rfl,dr,kR,h1,f1⟩;have bn:=am h1;have bA:=am ((Fr.below (own:=own) ab.1).trans (Fr.less f1 ab.1.size));clear H ab aN tc sj h1 f1))
  refine fv ?_;first | exact ⟨rfl,dr,(.slice (some ⟨b,0,none⟩) s.tasks.length cap),kR,(by rw [bS.1];exact bn.1),bA.1⟩ | exact ⟨rfl,dr,(.slice (some ⟨b,0,none⟩) s.tasks.length cap),⟨kR,(by rw [bS.1];exact bn.1)⟩,bA.1⟩ | exact ⟨rfl,dr,⟨(.slice (some ⟨b,0,none⟩) s.tasks.length cap),kR,(by rw [bS.1];exact bn.1)⟩,bA.1⟩ | exact ⟨rfl,dr,⟨(.slice (some ⟨b,0,none⟩) s.tasks.length cap),(by rw [bS.1];exact bn.1)⟩,bA.1⟩ | exact ⟨rfl,dr,(.slice (some ⟨b,0,none⟩) s.tasks.length cap),(by rw [bS.1];exact bn.1),bA.1⟩ | exact ⟨rfl,⟨dr,(by rw [bS.1];exact bn.1),bA.1⟩⟩
 ·have ed:((R s i).a7 == 1)=false:=by simp [lF]
  by_cases aJ:(R s i).aR < ((bo p.an (R s i).body.toNat).length:Int)
  ·have b1:bv=true:=sC.1.symm.trans (decide_eq_true aJ)
   have eg:actAt (bo p.an (R s i).body.toNat) (R s i).aR.toNat=a:=tw.1.symm.trans (if_pos aJ) |>.symm
   have c7:=rl.1 aJ;rw [eg] at c7;have rY:=am c7
   have gm:av (step p s i=if a.kind=1 then jT s i a.bP else if a.kind=2 then fork s i a.kids else if a.kind=3\/cC (R s i).aL a.eY.toNat ≠ 0 then ib s i 3 else b0 s i {R s i with aR:=(R s i).aR+1}):=⟨by
    unfold step;simp only [];rw [if_neg lF,if_neg (by omega),eg]⟩
   subst b1;clear lF aJ eg c7;by_cases aU:a.kind=1
   ·have cg:(a.kind == 1)=true:=by simp [aU]
    have bS:av (step p s i=jT s i a.bP):=⟨by rw [gm.1,if_pos aU]⟩;have ag:=am (Ii rY.1 aU);clear aU
    go_wp2_with (first
    |(go_at_call 106;refine (Bx i w0 _ H.1.prog H.1.below H.1.ro aa aS dE bZ lL yv xc).mono ?_;rw [tw.1,sC.1];rintro e w1 ⟨sV,rfl,au,I⟩;obtain ⟨eR,ez,eF,eJ,rfl,-,cQ,-,gk⟩:=m0 au;have Aa:=am cQ;have Ab:=am gk;have ab:=am I;clear au cQ gk I aN;have aN:=bf (H.1.grow ab.1).bB)
    |((with_reducible refine aQ 4 ?_);refine b6 55 ?_;intro ga lb b' ad I;have nE:=am ad;have k6:=am lb;have m9:=am I;clear ad lb I)|((with_reducible refine bT 55 4 ?_);refine dG nE ?_;intro eE ad U;have oY:=am ad;replace ab:=am (fb ab.1 (fq m9 k6 U));clear ad U nE m9 aN;have aN:=bf (H.1.grow ab.1).bB;have tc:=ae oY;have sj:=dD ab.1 wM.1)
    |(go_at_call 108;refine (aae i eR ez a.bP _ (H.1.grow ab.1) hinv cz aa (Kd.bW Aa.1 (H.1.grow ab.1).below) (Nat.le_trans ag.1.1 (by decide)) (fun k J=>by rw [Dh.1];exact ag.1.2 k J)).mono ?_;rintro e b9 ⟨rfl,dr,kR,h1,f1⟩;have bn:=am h1;have bA:=am ((Fr.below (own:=own) ab.1).trans (Fr.less f1 ab.1.size));clear H ab aN tc sj h1 f1))
    refine fv ?_;first | exact ⟨rfl,dr,(.slice (some ⟨b,0,none⟩) s.tasks.length cap),kR,(by rw [bS.1];exact bn.1),bA.1⟩ | exact ⟨rfl,dr,(.slice (some ⟨b,0,none⟩) s.tasks.length cap),⟨kR,(by rw [bS.1];exact bn.1)⟩,bA.1⟩ | exact ⟨rfl,dr,⟨(.slice (some ⟨b,0,none⟩) s.tasks.length cap),kR,(by rw [bS.1];exact bn.1)⟩,bA.1⟩ | exact ⟨rfl,dr,⟨(.slice (some ⟨b,0,none⟩) s.tasks.length cap),(by rw [bS.1];exact bn.1)⟩,bA.1⟩ | exact ⟨rfl,dr,(.slice (some ⟨b,0,none⟩) s.tasks.length cap),(by rw [bS.1];exact bn.1),bA.1⟩ | exact ⟨rfl,⟨dr,(by rw [bS.1];exact bn.1),bA.1⟩⟩
   ·have cg:(a.kind == 1)=false:=by simp [aU]
    by_cases a1:a.kind=2
    ·have cO:(a.kind == 2)=true:=by simp [a1]
     have bS:av (step p s i=fork s i a.kids):=⟨by rw [gm.1,if_neg aU,if_pos a1]⟩;have ag:=am (F5 rY.1 a1);clear aU a1
     go_wp2_with (first
     |(go_at_call 106;refine (Bx i w0 _ H.1.prog H.1.below H.1.ro aa aS dE bZ lL yv xc).mono ?_;rw [tw.1,sC.1];rintro e w1 ⟨sV,rfl,au,I⟩;obtain ⟨eR,ez,eF,eJ,rfl,-,cQ,-,gk⟩:=m0 au;have Aa:=am cQ;have Ab:=am gk;have ab:=am I;clear au cQ gk I aN;have aN:=bf (H.1.grow ab.1).bB)
     |((with_reducible refine aQ 4 ?_);refine b6 55 ?_;intro ga lb b' ad I;have nE:=am ad;have k6:=am lb;have m9:=am I;clear ad lb I)|((with_reducible refine bT 55 4 ?_);refine dG nE ?_;intro eE ad U;have oY:=am ad;replace ab:=am (fb ab.1 (fq m9 k6 U));clear ad U nE m9 aN;have aN:=bf (H.1.grow ab.1).bB;have tc:=ae oY;have sj:=dD ab.1 wM.1)
     |(go_at_call 109;refine (aaO i eF eJ a.kids _ (H.1.grow ab.1) aa aS Ab.1 (Nat.le_trans ag.1.1 (by decide))).mono ?_;rintro e b9 ⟨rfl,dr,D6,h1,f1⟩;have bn:=am h1;have bA:=am ((Fr.below (own:=own) ab.1).trans (Fr.less f1 ab.1.size));clear H ab aN tc sj h1 f1))
     refine fv ?_;first | exact ⟨rfl,dr,D6,(.slice cW s.log.length aw),(by rw [bS.1];exact bn.1),bA.1⟩ | exact ⟨rfl,dr,D6,⟨(.slice cW s.log.length aw),(by rw [bS.1];exact bn.1)⟩,bA.1⟩ | exact ⟨rfl,dr,⟨D6,(.slice cW s.log.length aw),(by rw [bS.1];exact bn.1)⟩,bA.1⟩ | exact ⟨rfl,dr,⟨D6,(by rw [bS.1];exact bn.1)⟩,bA.1⟩ | exact ⟨rfl,dr,D6,(by rw [bS.1];exact bn.1),bA.1⟩ | exact ⟨rfl,⟨dr,(by rw [bS.1];exact bn.1),bA.1⟩⟩
    ·have cO:(a.kind == 2)=false:=by simp [a1]
     by_cases dz:a.kind=3
     ·have dh:(a.kind == 3)=true:=by simp [dz]
      have bS:av (step p s i=ib s i 3):=⟨by rw [gm.1,if_neg aU,if_neg a1,if_pos (.inl dz)]⟩;clear aU a1 dz
      go_wp2_with (first
      |(go_at_call 106;refine (Bx i w0 _ H.1.prog H.1.below H.1.ro aa aS dE bZ lL yv xc).mono ?_;rw [tw.1,sC.1];rintro e w1 ⟨sV,rfl,au,I⟩;obtain ⟨eR,ez,eF,eJ,rfl,-,cQ,-,gk⟩:=m0 au;have Aa:=am cQ;have Ab:=am gk;have ab:=am I;clear au cQ gk I aN;have aN:=bf (H.1.grow ab.1).bB)
      |((with_reducible refine aQ 4 ?_);refine b6 55 ?_;intro ga lb b' ad I;have nE:=am ad;have k6:=am lb;have m9:=am I;clear ad lb I)|((with_reducible refine bT 55 4 ?_);refine dG nE ?_;intro eE ad U;have oY:=am ad;replace ab:=am (fb ab.1 (fq m9 k6 U));clear ad U nE m9 aN;have aN:=bf (H.1.grow ab.1).bB;have tc:=ae oY;have sj:=dD ab.1 wM.1))
      go_quiet (fail)
      go_wp2_with (first
      |(go_at_call 110;refine (MA i _ (H.1.grow (iY ab.1 _)) aa aS).mono ?_;rintro e b9 ⟨rfl,h1,f1⟩;have bn:=am h1;have bA:=am ((Fr.below (own:=own) (iY ab.1 _)).trans (Fr.less f1 ((iY ab.1 _)).size));clear H ab aN tc sj h1 f1))
      refine fv ?_;first | exact ⟨rfl,own,(.slice (some ⟨b,0,none⟩) s.tasks.length cap),(.slice cW s.log.length aw),(by rw [bS.1];exact bn.1),bA.1⟩ | exact ⟨rfl,own,(.slice (some ⟨b,0,none⟩) s.tasks.length cap),⟨(.slice cW s.log.length aw),(by rw [bS.1];exact bn.1)⟩,bA.1⟩ | exact ⟨rfl,own,⟨(.slice (some ⟨b,0,none⟩) s.tasks.length cap),(.slice cW s.log.length aw),(by rw [bS.1];exact bn.1)⟩,bA.1⟩ | exact ⟨rfl,own,⟨(.slice (some ⟨b,0,none⟩) s.tasks.length cap),(by rw [bS.1];exact bn.1)⟩,bA.1⟩ | exact ⟨rfl,own,(.slice (some ⟨b,0,none⟩) s.tasks.length cap),(by rw [bS.1];exact bn.1),bA.1⟩ | exact ⟨rfl,⟨own,(by rw [bS.1];exact bn.1),bA.1⟩⟩
     ·have dh:(a.kind == 3)=false:=by simp [dz]
      obtain ⟨g',mi,nV⟩:=L0 rY.1 aU a1 dz;obtain ⟨wN,r2⟩:=Int.eq_ofNat_of_zero_le mi;have UA:(0:Int)<=a.eY:=mi;have UB:a.eY < ((R s i).aL.length:Int):=by rw [NO.1.len];omega
      have G6:a.eY.toNat=wN:=by omega
      obtain ⟨rc,-⟩:=Kd.wx 0 lz.1 a.eY UA UB;obtain ⟨num,mS⟩:∃ x,x=cC (R s i).aL wN:=⟨_,rfl⟩;rw [show AQ 0 (R s i).aL a.eY=num from by rw [mS,<-G6];rfl,G6] at rc;have rF:=am rc;have sd:=am mS;have ik:=am aU;have kh:=am a1;have nQ:=am dz;clear rc mS r2 aU a1 dz g' mi nV;by_cases aX:num=0
      ·have fu:(num != 0)=false:=by simp [aX]
       have bS:av (step p s i=b0 s i {R s i with aR:=(R s i).aR+1}):=⟨by rw [gm.1,if_neg ik.1,if_neg kh.1,if_neg (fun c0=>by rcases c0 with c0 | c0;exact nQ.1 c0;exact c0 (by rw [G6,<-sd.1];exact aX))]⟩;clear aX
       go_wp2_with (first
       |(go_at_call 106;refine (Bx i w0 _ H.1.prog H.1.below H.1.ro aa aS dE bZ lL yv xc).mono ?_;rw [tw.1,sC.1];rintro e w1 ⟨sV,rfl,au,I⟩;obtain ⟨eR,ez,eF,eJ,rfl,-,cQ,-,gk⟩:=m0 au;have Aa:=am cQ;have Ab:=am gk;have ab:=am I;clear au cQ gk I aN;have aN:=bf (H.1.grow ab.1).bB)
       |((with_reducible refine aQ 4 ?_);refine b6 55 ?_;intro ga lb b' ad I;have nE:=am ad;have k6:=am lb;have m9:=am I;clear ad lb I)|((with_reducible refine bT 55 4 ?_);refine dG nE ?_;intro eE ad U;have oY:=am ad;replace ab:=am (fb ab.1 (fq m9 k6 U));clear ad U nE m9 aN;have aN:=bf (H.1.grow ab.1).bB;have tc:=ae oY;have sj:=dD ab.1 wM.1;have mW:=dD ab.1 oL.1;have rc:=dD ab.1 rF.1;have CA:=dD ab.1 Gv.1))
       go_quiet (fail);go_wp2;refine Bt (fun dJ NP=> ?_);have pC:=am (show Below w.heap.size w dJ by rw [NP];exact iY ab.1 _);clear NP ab aN tc sj mW rc CA;have nO:=am (H.1.grow pC.1);have pY:=am (Fr.below (own:=own) pC.1);have CA:=dD pC.1 Gv.1;have aN:=bf nO.1.bB;refine wp_region_still_tail 18 (by kernel_rfl) (by kernel_rfl) ?_;simp only [List.take_succ_cons,List.take_zero,List.drop_succ_cons,List.drop_zero];iterate 18 still_step
       refine wpStill_nil ?_;rw [show IntKind.i64.wrap ((R s i).aR+1)=(R s i).aR+1 from by rw [k0];unfold wrap64;omega];clear CA;have I:=ei (Below.refl dJ.heap.size dJ);show wpList _ _ _ _ _ dJ.drew;generalize dJ.drew=ih at I ⊢;have gj:=am (nO.1.grow I);have gl:=am (pY.1.trans (Fr.less (Fr.below I) pY.1.size));clear nO pY aN I H;have aN:=bf gj.1.bB
       go_wp2_with (first
       |((with_reducible refine bT 3 29 ?_);refine e9 (u:=.int .i64 ((R s i).aR+1)) rfl rfl _ _ rfl rfl rfl rfl rfl (by kernel_rfl) (gj.1.ready (i:=i) aa 1 (by decide)) ?_;intro bV aH;obtain ⟨aU,a1⟩:=gj.1.setInt (B:=w.heap.size) (i:=i) aa 1 (by decide) ((R s i).aR+1) {R s i with aR:=(R s i).aR+1} (fun _ _ _ _=>rfl) ⟨rfl,rfl,rfl,rfl⟩;rw [<-aH] at aU a1;have bn:=am aU;have bA:=am (gl.1.trans a1);clear gj gl aN aU a1 aH))
       refine fv ?_;first | exact ⟨rfl,own,(.slice (some ⟨b,0,none⟩) s.tasks.length cap),(.slice cW s.log.length aw),(by rw [bS.1];exact bn.1),bA.1⟩ | exact ⟨rfl,own,(.slice (some ⟨b,0,none⟩) s.tasks.length cap),⟨(.slice cW s.log.length aw),(by rw [bS.1];exact bn.1)⟩,bA.1⟩ | exact ⟨rfl,own,⟨(.slice (some ⟨b,0,none⟩) s.tasks.length cap),(.slice cW s.log.length aw),(by rw [bS.1];exact bn.1)⟩,bA.1⟩ | exact ⟨rfl,own,⟨(.slice (some ⟨b,0,none⟩) s.tasks.length cap),(by rw [bS.1];exact bn.1)⟩,bA.1⟩ | exact ⟨rfl,own,(.slice (some ⟨b,0,none⟩) s.tasks.length cap),(by rw [bS.1];exact bn.1),bA.1⟩ | exact ⟨rfl,⟨own,(by rw [bS.1];exact bn.1),bA.1⟩⟩
      ·have fu:(num != 0)=true:=by simp [aX]
       have bS:av (step p s i=ib s i 3):=⟨by rw [gm.1,if_neg ik.1,if_neg kh.1,if_pos (.inr (by rw [G6,<-sd.1];exact aX))]⟩;clear aX
       go_wp2_with (first
       |(go_at_call 106;refine (Bx i w0 _ H.1.prog H.1.below H.1.ro aa aS dE bZ lL yv xc).mono ?_;rw [tw.1,sC.1];rintro e w1 ⟨sV,rfl,au,I⟩;obtain ⟨eR,ez,eF,eJ,rfl,-,cQ,-,gk⟩:=m0 au;have Aa:=am cQ;have Ab:=am gk;have ab:=am I;clear au cQ gk I aN;have aN:=bf (H.1.grow ab.1).bB)
       |((with_reducible refine aQ 4 ?_);refine b6 55 ?_;intro ga lb b' ad I;have nE:=am ad;have k6:=am lb;have m9:=am I;clear ad lb I)|((with_reducible refine bT 55 4 ?_);refine dG nE ?_;intro eE ad U;have oY:=am ad;replace ab:=am (fb ab.1 (fq m9 k6 U));clear ad U nE m9 aN;have aN:=bf (H.1.grow ab.1).bB;have tc:=ae oY;have sj:=dD ab.1 wM.1;have mW:=dD ab.1 oL.1;have rc:=dD ab.1 rF.1))
       go_quiet (fail)
       go_wp2_with (first
       |(go_at_call 110;refine (MA i _ (H.1.grow (iY ab.1 _)) aa aS).mono ?_;rintro e b9 ⟨rfl,h1,f1⟩;have bn:=am h1;have bA:=am ((Fr.below (own:=own) (iY ab.1 _)).trans (Fr.less f1 ((iY ab.1 _)).size));clear mW rc H ab aN tc sj h1 f1))
       refine fv ?_;first | exact ⟨rfl,own,(.slice (some ⟨b,0,none⟩) s.tasks.length cap),(.slice cW s.log.length aw),(by rw [bS.1];exact bn.1),bA.1⟩ | exact ⟨rfl,own,(.slice (some ⟨b,0,none⟩) s.tasks.length cap),⟨(.slice cW s.log.length aw),(by rw [bS.1];exact bn.1)⟩,bA.1⟩ | exact ⟨rfl,own,⟨(.slice (some ⟨b,0,none⟩) s.tasks.length cap),(.slice cW s.log.length aw),(by rw [bS.1];exact bn.1)⟩,bA.1⟩ | exact ⟨rfl,own,⟨(.slice (some ⟨b,0,none⟩) s.tasks.length cap),(by rw [bS.1];exact bn.1)⟩,bA.1⟩ | exact ⟨rfl,own,(.slice (some ⟨b,0,none⟩) s.tasks.length cap),(by rw [bS.1];exact bn.1),bA.1⟩ | exact ⟨rfl,⟨own,(by rw [bS.1];exact bn.1),bA.1⟩⟩
  ·have b1:bv=false:=sC.1.symm.trans (decide_eq_false aJ)
   have bS:av (step p s i=ib s i 2):=⟨by
    unfold step;simp only [];rw [if_neg lF,if_pos (by omega)]⟩
   subst b1;clear lF aJ
   go_wp2_with (first
   |(go_at_call 106;refine (Bx i w0 _ H.1.prog H.1.below H.1.ro aa aS dE bZ lL yv xc).mono ?_;rw [tw.1,sC.1];rintro e w1 ⟨sV,rfl,au,I⟩;obtain ⟨eR,ez,eF,eJ,rfl,-,cQ,-,gk⟩:=m0 au;have Aa:=am cQ;have Ab:=am gk;have ab:=am I;clear au cQ gk I aN;have aN:=bf (H.1.grow ab.1).bB)
   |((with_reducible refine aQ 4 ?_);refine b6 55 ?_;intro ga lb b' ad I;have nE:=am ad;have k6:=am lb;have m9:=am I;clear ad lb I)|((with_reducible refine bT 55 4 ?_);refine dG nE ?_;intro eE ad U;have oY:=am ad;replace ab:=am (fb ab.1 (fq m9 k6 U));clear ad U nE m9 aN;have aN:=bf (H.1.grow ab.1).bB;have tc:=ae oY;have sj:=dD ab.1 wM.1;have gj:=am (H.1.grow ab.1);have gl:=am (Fr.below (own:=own) ab.1))
   |((with_reducible refine bT 3 54 ?_);refine e9 (u:=.int .i64 2) rfl rfl _ _ rfl rfl rfl rfl rfl (by kernel_rfl) (gj.1.ready (i:=i) aa 4 (by decide)) ?_;intro bV aH;obtain ⟨aU,a1⟩:=gj.1.setInt (B:=w.heap.size) (i:=i) aa 4 (by decide) 2 {R s i with a7:=2} (fun _ _ _ _=>rfl) ⟨rfl,rfl,rfl,rfl⟩;rw [<-aH] at aU a1;have bn:=am aU;have bA:=am (gl.1.trans a1);clear gj gl aN aU a1 aH))
   refine fv ?_;first | exact ⟨rfl,own,(.slice (some ⟨b,0,none⟩) s.tasks.length cap),(.slice cW s.log.length aw),(by rw [bS.1];exact bn.1),bA.1⟩ | exact ⟨rfl,own,(.slice (some ⟨b,0,none⟩) s.tasks.length cap),⟨(.slice cW s.log.length aw),(by rw [bS.1];exact bn.1)⟩,bA.1⟩ | exact ⟨rfl,own,⟨(.slice (some ⟨b,0,none⟩) s.tasks.length cap),(.slice cW s.log.length aw),(by rw [bS.1];exact bn.1)⟩,bA.1⟩ | exact ⟨rfl,own,⟨(.slice (some ⟨b,0,none⟩) s.tasks.length cap),(by rw [bS.1];exact bn.1)⟩,bA.1⟩ | exact ⟨rfl,own,(.slice (some ⟨b,0,none⟩) s.tasks.length cap),(by rw [bS.1];exact bn.1),bA.1⟩ | exact ⟨rfl,⟨own,(by rw [bS.1];exact bn.1),bA.1⟩⟩
end
structure b8 (B:Nat) (own:Nat->Nat) (s:Sys) (aG aZ aP:Value) (W:World):Prop where
 low:∀ k,k < B->own k=0
 dk:∀ k,W.heap.size<=k->own k=0
 cells:iU.aC 50 W B (fun k=>own k=2) aG s.cells
 tasks:(gg own).aC 38 W B (fun k=>own k=3\/8<=own k) aZ s.tasks.zipIdx
 fj:∀ k,aZ.ownBlock=some k->own k=3
 log:hf.aC 105 W B (fun k=>own k=4) aP s.log
theorem bI.Th {w0:World} {g:Nat} {own:Nat->Nat} {bh a8:Value} {p:Prog} {s:Sys} {aG aZ aP:Value} {W:World} (h:bI 88 w0 g own bh a8 p s aG aZ aP W):b8 w0.heap.size own s aG aZ aP W:=
 ⟨h.jU,h.dk,h.cells,h.tasks,h.fj,h.log⟩
section
variable {B B1:Nat} {own:Nat->Nat} {s:Sys} {aG aZ aP:Value} {W W1:World}
theorem b8.read (h:b8 B own s aG aZ aP W):cS.K W s [aG,aZ,.int .i64 s.clock,aP]:=by
 obtain ⟨cX,bL,rfl,g9,fz⟩:=Kd.fG h.cells;obtain ⟨dX,cu,rfl,fU,db⟩:=Kd.fG h.tasks;obtain ⟨cU,bO,rfl,gz,dj⟩:=Kd.fG h.log;rw [fH] at fU db ⊢;exact Bo s g9 fz fU (H' db) gz dj
theorem b8.move (h:b8 B own s aG aZ aP W) (hs:W.heap.size<=W1.heap.size) (hm:∀ k,own k ≠ 0->k < W.heap.size->W1.heap[k]? = W.heap[k]?):b8 B own s aG aZ aP W1:=
 ⟨h.low,fun k J=>h.dk k (Nat.le_trans hs J),Kd.eI h.cells (fun k J ak=>hm k (by omega) ak),Kd.eI h.tasks (fun k J ak=>hm k (by omega) ak),h.fj,Kd.eI h.log (fun k J ak=>hm k (by omega) ak)⟩
theorem b8.grow (h:b8 B own s aG aZ aP W) (I:Below W.heap.size W W1):b8 B own s aG aZ aP W1:=h.move I.size (fun k _ J=>I.block k J)
theorem b8.cB (h:b8 B own s aG aZ aP W) {b:Nat} (aT:own b=0) (o:Nat) (u:Value):b8 B own s aG aZ aP (W.setCell ⟨b,o,none⟩ u):=
 h.move (by simp [World.setCell]) (fun k J _=>Below.heap_setCell W ⟨b,o,none⟩ u k (fun he=>J (by rw [show k=b from he];exact aT)))
theorem b8.lower (h:b8 B own s aG aZ aP W) (I:B1<=B):b8 B1 own s aG aZ aP W:=
 ⟨fun k J=>h.low k (by omega),h.dk,Kd.ft h.cells I,Kd.ft h.tasks I,h.fj,Kd.ft h.log I⟩
structure o9 (t:Task) (base:Nat) (W:World) (v3 bC v9 v10:Value):Prop where
 aL:(Kd.int .i64).aC 3 W base (fun _=>True) v3 t.aL
 bE:(Kd.int .i64).aC 3 W base (fun _=>True) bC t.bE
 reads:cn.aC 52 W base (fun _=>True) v9 t.reads
 ai:cn.aC 52 W base (fun _=>True) v10 t.ai
 Cw:∀ k,v3.ownBlock=some k->bC.ownBlock ≠ some k
 Cx:∀ k,v3.ownBlock=some k->v9.ownBlock ≠ some k
 CF:∀ k,v3.ownBlock=some k->v10.ownBlock ≠ some k
 Cy:∀ k,bC.ownBlock=some k->v9.ownBlock ≠ some k
 CG:∀ k,bC.ownBlock=some k->v10.ownBlock ≠ some k
 CH:∀ k,v9.ownBlock=some k->v10.ownBlock ≠ some k
theorem Ia {t:Task} {v3 bC v9 v10:Value} {L:Nat} (cz:o9 t B1 W v3 bC v9 v10):
  (∀ k,v3.ownBlock=some k->jV own v3 bC v9 v10 L k=8+8*L)/\(∀ k,bC.ownBlock=some k->jV own v3 bC v9 v10 L k=9+8*L)/\(∀ k,v9.ownBlock=some k->jV own v3 bC v9 v10 L k=10+8*L)/\(∀ k,v10.ownBlock=some k->jV own v3 bC v9 v10 L k=11+8*L)/\
  ∀ k,(v3.ownBlock ≠ some k/\bC.ownBlock ≠ some k/\v9.ownBlock ≠ some k/\v10.ownBlock ≠ some k)->jV own v3 bC v9 v10 L k=own k:=by
 unfold jV;refine ⟨fun k J=> ?_,fun k J=> ?_,fun k J=> ?_,fun k J=> ?_,fun k J=> ?_⟩
 ·rw [gv (cz.CF k J),gv (cz.Cx k J),gv (cz.Cw k J),iW J]
 ·rw [gv (cz.CG k J),gv (cz.Cy k J),iW J]
 ·rw [gv (cz.CH k J),iW J]
 ·rw [iW J]
 ·rw [gv J.2.2.2,gv J.2.2.1,gv J.2.1,gv J.1]
theorem o9.range {t:Task} {v3 bC v9 v10:Value} (h:o9 t B1 W v3 bC v9 v10) {k:Nat} (J:¬ (v3.ownBlock ≠ some k/\bC.ownBlock ≠ some k/\v9.ownBlock ≠ some k/\v10.ownBlock ≠ some k)):B1<=k/\k < W.heap.size:=by
 refine Classical.byContradiction fun cm=>J ⟨fun he=>cm (fc h.aL k he).2,fun he=>cm (fc h.bE k he).2,fun he=>cm (fc h.reads k he).2,fun he=>cm (fc h.ai k he).2⟩
theorem o9.row {t:Task} {L:Nat} {v3 bC v9 v10:Value} (cz:o9 t B1 W v3 bC v9 v10) (dt:B<=B1):(gg (jV own v3 bC v9 v10 L)).M W B (fun k=>8<=jV own v3 bC v9 v10 L k) (t,L) (eK t v3 bC v9 v10):=by
 obtain ⟨t3,t8,t9,t10,-⟩:=Ia (own:=own) (L:=L) cz;exact nh t L (Kd.ft (oF Br cz.aL (fun k J=>⟨by rw [t3 k J];omega,t3 k J⟩)) dt) (Kd.ft (oF Br cz.bE (fun k J=>⟨by rw [t8 k J];omega,t8 k J⟩)) dt) (Kd.ft (oF xY cz.reads (fun k J=>⟨by rw [t9 k J];omega,t9 k J⟩)) dt) (Kd.ft (oF xY cz.ai (fun k J=>⟨by rw [t10 k J];omega,t10 k J⟩)) dt)
theorem b8.rn {own':Nat->Nat} (h:b8 B own s aG aZ aP W) (ak:∀ k,k < B->own' k=0) (aS:∀ k,W.heap.size<=k->own' k=0) (hs:∀ k,own k ≠ 0->own' k=own k):b8 B own' s aG aZ aP W:=
 ⟨ak,aS,Kd.cG h.cells (fun k J=>by rw [hs k (by omega)];exact J),
  Kd.cG (d:=gg own') ⟨h.tasks.1,h.tasks.2.lJ (fun _ _ aB=>C6 (fun k _ J=>hs k (by have:=J.1;omega)) aB)⟩ (fun k J=>by rw [hs k (by omega)];exact J),
  fun k J=>by rw [hs k (by rw [h.fj k J];decide)];exact h.fj k J,Kd.cG h.log (fun k J=>by rw [hs k (by omega)];exact J)⟩
theorem b8.H8 {t:Task} {L:Nat} {v3 bC v9 v10:Value} (h:b8 B own s aG aZ aP W) (cz:o9 t B1 W v3 bC v9 v10) (aq:∀ k,B1<=k->own k=0) (dt:B<=B1):
  b8 B (jV own v3 bC v9 v10 L) s aG aZ aP W/\∀ k,k < B1->jV own v3 bC v9 v10 L k=own k:=by
 have lk:=(Ia (own:=own) (L:=L) cz).2.2.2.2;have oA:∀ k,k < B1->jV own v3 bC v9 v10 L k=own k:=fun k J=>lk k (Classical.byContradiction fun cm=>by have:=(cz.range cm).1;omega)
 exact ⟨h.rn (fun k J=>(oA k (by omega)).trans (h.low k J)) (fun k J=>(lk k (Classical.byContradiction fun cm=>by have:=(cz.range cm).2;omega)).trans (h.dk k J))
  (fun k J=>lk k (Classical.byContradiction fun cm=>J (aq k (cz.range cm).1))),oA⟩
theorem b8.RV (h:b8 B own s aG aZ aP W) (U:W.grownBy W1 aZ.ownBlock) {v1:Value} {ts':List Task}
  (ao:(gg own).aC 38 W1 B (fun k=>(own k=3\/8<=own k)\/own k=0) v1 ts'.zipIdx) (bp:v1.ownBlock=aZ.ownBlock\/∃ b,v1.ownBlock=some b/\W.heap.size<=b) (sQ:B<=W.heap.size):
  ∃ own',b8 B own' {s with tasks:=ts'} aG v1 aP W1/\∀ k,k < W.heap.size->own' k=own k:=by
 have DV:∀ k,aZ.ownBlock=some k->own k=3:=h.fj
 have bG:∀ k,v1.ownBlock=some k->own k=3\/(own k=0/\W.heap.size<=k):=fun k J=>by
  rcases bp with he | ⟨b,he,ak⟩
  ·exact .inl (DV k (he ▸ J))
  ·rw [he] at J
   injection J with J;subst J;exact .inr ⟨h.dk _ ak,ak⟩
 have gT:∀ k,own k ≠ 3->k < W.heap.size->W1.heap[k]? = W.heap[k]? :=fun k aA ak=>U.block k ak (fun he=>aA (DV k he.symm))
 have kF:∀ k,own k ≠ 0->ef own v1.ownBlock 3 k=own k:=fun k J=>by
  by_cases he:v1.ownBlock=some k
  ·rw [iW he]
   rcases bG k he with aA | aA
   ·exact aA.symm
   ·exact absurd aA.1 J
  ·exact gv he
 have oA:∀ k,k < W.heap.size->ef own v1.ownBlock 3 k=own k:=fun k J=>by
  by_cases he:v1.ownBlock=some k
  ·rw [iW he]
   rcases bG k he with aA | aA
   ·exact aA.symm
   ·omega
  ·exact gv he
 refine ⟨ef own v1.ownBlock 3,⟨fun k J=>(oA k (by omega)).trans (h.low k J),fun k J=> ?_,
  Kd.cG (Kd.eI h.cells (fun k J ak=>gT k (by omega) ak)) (fun k J=>by rw [kF k (by omega)];exact J), ?_,fun k J=>iW J,
  Kd.cG (Kd.eI h.log (fun k J ak=>gT k (by omega) ak)) (fun k J=>by rw [kF k (by omega)];exact J)⟩,oA⟩
 ·refine (gv fun he=> ?_).trans (h.dk k (Nat.le_trans U.size J))
  have:=(fc ao k he).2.2
  omega
 ·refine ⟨fun k J=> .inl (iW J),ao.2.lJ (fun x cs aB=> ?_)⟩
  have h1:=x0 aB;have ar:=C6 (own':=ef own v1.ownBlock 3) (fun k _ J=>kF k (by omega)) h1;refine (gg (ef own v1.ownBlock 3)).k1 (fun k J=> ?_) (x0 ar);refine ⟨.inr J,fun he=> ?_⟩;rw [iW he.symm] at J;omega
theorem b8.L1 (h:b8 B own s aG aZ aP W) (dt:B1<=W.heap.size) (U:W.grownBy W1 aP.ownBlock) {v1:Value} {log':List Entry} (aq:∀ k,B1<=k->own k=0) (NC:B<=B1)
  (ao:hf.aC 105 W1 B (fun k=>own k=4\/(own k=0/\B1<=k)) v1 log'):
  ∃ own',b8 B own' {s with log:=log'} aG aZ v1 W1/\∀ k,k < B1->own' k=own k:=by
 have yu:∀ k,aP.ownBlock=some k->own k=4:=h.log.1;have gT:∀ k,own k ≠ 4->k < W.heap.size->W1.heap[k]? = W.heap[k]? :=fun k bR ak=>U.block k ak (fun he=>bR (yu k he.symm))
 have kF:∀ k,own k ≠ 0->va own B1 W1 (105 :: hf.E) 4 k=own k:=fun k J=>Rv J
 refine ⟨va own B1 W1 (105 :: hf.E) 4,⟨fun k J=>(H7 (by omega)).trans (h.low k J),fun k J=>(Ra J).trans (h.dk k (Nat.le_trans U.size J)),
  Kd.cG (Kd.eI h.cells (fun k J ak=>gT k (by omega) ak)) (fun k J=>by rw [kF k (by omega)];exact J),
  Kd.cG (d:=gg (va own B1 W1 (105 :: hf.E) 4)) ⟨(Kd.eI h.tasks (fun k J ak=>gT k (by omega) ak)).1,(Kd.eI h.tasks (fun k J ak=>gT k (by omega) ak)).2.lJ (fun _ _ aB=>C6 (fun k _ J=>kF k (by have:=J.1;omega)) aB)⟩ (fun k J=>by rw [kF k (by omega)];exact J),
  fun k J=>by rw [kF k (by rw [h.fj k J];decide)];exact h.fj k J, ?_⟩,fun k J=>H7 J⟩
 refine Kd.cG (Kd.fW ao) (fun k J=> ?_);obtain ⟨h1,ar,aA,bR⟩:=J;rcases h1 with h1 | ⟨h1,br⟩
 ·rw [kF k (by omega)]
  exact h1
 ·obtain ⟨q,aF,cells,ay⟩:=bR
  exact Ru ⟨h1,br,aA,q,aF,cells,ay⟩
end
theorem Mm:(Tryz.prog.info? 50).map (fun i=>(i.zero,i.size,i.bytes))=some (some (.agg #[.int .i64 0,.int .i64 0,.int .i64 0]),3,24):=by kernel_rfl
theorem RW {α β:Type} {d:Kd α} {d':Kd β} {e base:Nat} {ok ok':Nat->Prop} {W:World} {v:Value} (h:d.aC e W base ok v []) (aX:d'.bD=d.bD) (c7:∀ k,v.ownBlock=some k->ok' k):d'.aC e W base ok' v []:=by
 obtain ⟨aq,inner,aT,ao⟩:=h;refine ⟨c7,inner, ?_,⟨by have:=ao.1;simpa using this,fun j p aB=>by simp at aB⟩⟩;rw [aX];exact aT
theorem CS {α β:Type} {d:Kd α} {d':Kd β} {e m2 base te:Nat} {ok ok':Nat->Prop} {W W1:World} {v wO:Value} {xs:List α} {cH:List β} (h:d.aC e W base ok v xs) (ct:d'.aC m2 W te ok' wO cH) (aO:∀ q ∈ e :: d.E,q ∉ m2 :: d'.E) (U:W.grownBy W1 wO.ownBlock):d.aC e W1 base ok v xs:=by
 refine Kd.cG (Kd.eI (Kd.fW h) (fun k J ak=>U.block k ak (fun he=> ?_))) (fun k J=>J.1);obtain ⟨_,_,_,q,aF,cells,ay⟩:=J;obtain ⟨_,_,_,qJ,q3,HX,kn⟩:=(Kd.fW ct).1 k he.symm;rw [ay] at kn;injection kn with kn;injection kn with _ kn;exact aO q aF (kn ▸ q3)
theorem FK {α:Type} {d:Kd α} {e base:Nat} {ok:Nat->Prop} {W:World} {v:Value} {xs:List α} (h:d.aC e W base ok v xs):∀ k,v.ownBlock=some k->∃ cells,W.heap[k]? = some (.cells cells e (0,0)):=by
 intro k J;obtain ⟨aq,inner,aT,ao⟩:=h;rcases aT.2 with ⟨rfl,aa⟩ | ⟨b,cap,cur,rfl,I,c0,nu,hm,e4,a6⟩
 ·simp [Value.ownBlock] at J
 ·have:b=k:=by simpa [Value.ownBlock] using J
  subst this;exact ⟨cur,c0⟩
theorem ZA {B vD:Nat} {W:World} {aG aZ aP:Value} {cs:List Cell} (clock:Int) (dt:B<=vD) (aA:iU.aC 50 W vD (fun _=>True) aG cs) (bR:eV.aC 38 W vD (fun _=>True) aZ []) (mD:hf.aC 105 W vD (fun _=>True) aP []):
  ∃ own,b8 B own ⟨cs, [],clock, []⟩ aG aZ aP W/\(∀ k,k < vD->own k=0)/\∀ k cells,W.heap[k]? = some (.cells cells 31 (0,0))->own k=0:=by
 have ne:∀ {α β:Type} {d:Kd α} {d':Kd β} {e m2:Nat} {v wO:Value} {xs:List α} {cH:List β},d.aC e W vD (fun _=>True) v xs->d'.aC m2 W vD (fun _=>True) wO cH->e ≠ m2->∀ k,v.ownBlock=some k->wO.ownBlock ≠ some k:=by
  intro α β d d' e m2 v wO xs cH h ct aO k J rS;obtain ⟨cells,ay⟩:=FK h k J;obtain ⟨HX,kn⟩:=FK ct k rS;rw [ay] at kn;injection kn with kn;injection kn with _ kn;exact aO kn
 have n34:=ne aA bR (by decide);have n37:=ne aA mD (by decide);have UC:=ne bR mD (by decide);obtain ⟨own,kr⟩:∃ o,o=ef (ef (ef (fun _=>0) aG.ownBlock 2) aZ.ownBlock 3) aP.ownBlock 4:=⟨_,rfl⟩;have qQ:∀ k,aG.ownBlock=some k->own k=2:=fun k J=>by rw [kr,gv (n37 k J),gv (n34 k J),iW J]
 have BN:∀ k,aZ.ownBlock=some k->own k=3:=fun k J=>by rw [kr,gv (UC k J),iW J]
 have wP:∀ k,aP.ownBlock=some k->own k=4:=fun k J=>by rw [kr,iW J]
 have IP:∀ k,aG.ownBlock ≠ some k->aZ.ownBlock ≠ some k->aP.ownBlock ≠ some k->own k=0:=fun k a b c=>by rw [kr,gv c,gv b,gv a]
 have oA:∀ k,k < vD->own k=0:=fun k J=>IP k (fun he=>by have:=(fc aA k he).2.1;omega) (fun he=>by have:=(fc bR k he).2.1;omega) (fun he=>by have:=(fc mD k he).2.1;omega)
 refine ⟨own,⟨fun k J=>oA k (by omega),fun k J=>IP k (fun he=>by have:=(fc aA k he).2.2;omega) (fun he=>by have:=(fc bR k he).2.2;omega) (fun he=>by have:=(fc mD k he).2.2;omega),
  Kd.ft (oF RM aA qQ) dt,RW (d':=gg own) (Kd.ft bR dt) rfl (fun k J=> .inl (BN k J)),BN,RW (Kd.ft mD dt) rfl wP⟩,oA,fun k cells J=> ?_⟩
 have ty:∀ {α:Type} {d:Kd α} {e:Nat} {v:Value} {xs:List α},d.aC e W vD (fun _=>True) v xs->31 ≠ e->v.ownBlock ≠ some k:=by
  intro α d e v xs h aO he;obtain ⟨HX,ay⟩:=FK h k he;rw [J] at ay;injection ay with ay;injection ay with _ ay;exact aO ay
 exact IP k (ty aA (by decide)) (ty bR (by decide)) (ty mD (by decide))
theorem SY (s:Sys) (cs:List Value) (w:World) (az:cS.K w s cs) (aS:s.tasks.length<=1048576) (hm:s.cells.length<=1048576) (ak:s.log.length<=1048576) (hlen:∀ i,i < s.tasks.length->(aD s.tasks i).aL.length<=1048576/\(aD s.tasks i).bE.length<=1048576/\(aD s.tasks i).reads.length<=1048576/\(aD s.tasks i).ai.length<=1048576) (HM:∀ e ∈ s.log,e.reads.length<=1048576/\e.ai.length<=1048576):
  Calls Tryz.prog 56 #[.agg cs.toArray] w fun e af=>∃ own aG aZ aP,e= .returned (.agg #[aG,aZ,.int .i64 s.clock,aP])/\b8 w.heap.size own s aG aZ aP af/\Below w.heap.size w af:=by
 have ew:=am az;obtain ⟨cX,bL,dX,cu,cU,bO,rfl,g9,fz,fU,db,gz,dj⟩:=gX az;have pt:=am fz;have iM:=am db;have tx:=am dj;clear fz db dj g9 fU gz az;go_enter Tryz.func56,Tryz.ntmps56
 go_wp2_with (first
 |((with_reducible refine aQ 1 ?_);refine b6 31 ?_;intro gs D7 w1 ad I;have eH:=am ad;have Di:=am D7;have ab:=am I;have W9:=am I.size;clear ad I D7)
 |((with_reducible refine aQ 2 ?_);refine b6 31 ?_;intro gr p' b' ad I;have fT:=am ad;have Ti:=am p';replace ab:=cf ab I;replace eH:=aV eH I;clear ad I p'))
 refine kO (n:=11) (S:=fun W=>W.heap[gs]? = some (.cells #[.slice cX s.cells.length bL,.slice dX s.tasks.length cu,.int .i64 s.clock,.slice cU s.log.length bO] 31 (0,0))) (ds:= [10]) (by kernel_rfl) rfl (gW eH.1) (fun aK=> ?_);have I:=ei (Below.refl b'.heap.size b');generalize b'.drew=dJ at I aK ⊢;have pC:=cf ab I;have HO:=aV fT I;have MX:=ks pt pC.1;clear I ab eH fT;refine hn 7 4 [1,2,5,6] aK ?_
 iterate 4 (refine hR rfl (by intro W bU;have t0:=bf bU;clear bU;go_simp;with_reducible rfl) ?_)
 refine bN ?_
 refine Lx (fuel:=1) (l':=#[true,true,true,true,true,true,true,true,true,true,false]) (fun x=>if x=3 then [0] else if x=8 then [3,4,7] else []) (fun D=>⟨#[.agg #[.slice cX s.cells.length bL,.slice dX s.tasks.length cu,.int .i64 s.clock,.slice cU s.log.length bO],.pointer (some ⟨gs,0,none⟩),.pointer (some ⟨gr,0,none⟩),D 9,undef,undef,undef,undef,D 0,.pointer (some ⟨gs,0,none⟩),.slice cX s.cells.length bL,D 3,D 4,.pointer (some ⟨gs,2,none⟩),.int .i64 s.clock,D 7,D 8,undef,undef,undef,undef,undef,undef,undef,undef,undef,undef,undef,undef,undef,undef,undef,undef,undef,undef,undef,undef,undef,undef,undef,undef,undef,undef,undef,undef,undef,undef,undef,undef,undef,undef,undef,undef,undef,undef,undef,undef,undef,undef,undef,undef,undef,undef,undef,undef,undef,undef,undef,undef,undef,undef,undef,undef,undef,undef,undef,undef,undef,undef,undef], []⟩)
  (fun rem D W=>Below dJ.heap.size dJ W/\(0 ∉ rem->3 ∈ rem->iU.aC 50 W dJ.heap.size (fun _=>True) (D 0) [])/\(3 ∉ rem->iU.aC 50 W dJ.heap.size (fun _=>True) (D 3) s.cells)/\(4 ∉ rem->eV.aC 38 W dJ.heap.size (fun _=>True) (D 4) [])/\(7 ∉ rem->hf.aC 105 W dJ.heap.size (fun _=>True) (D 7) [])/\(8 ∉ rem->D 8= .agg #[D 3,D 4,.int .i64 s.clock,D 7])/\(9 ∉ rem->∃ b,D 9= .pointer (some ⟨b,0,none⟩)/\dJ.heap.size<=b/\W.heap[b]? = some (.cells #[.slice none 0 0,.slice none 0 0,.int .i64 0,.slice none 0 0] 31 (0,0)))/\(3 ∈ rem\/4 ∈ rem\/7 ∈ rem->8 ∈ rem)/\rem.Nodup) [0,3,4,7,8,9] (fun rem D W j4=>fS aK j4.1) (fun x az=> ?_) (fun D W j4=> ?_) 6 [0,3,4,7,8,9] _ (fun _=>undef) _ (fun _ h=>h) (by kernel_rfl) ⟨Below.refl _ _,fun h=>absurd (by simp) h,fun h=>absurd (by simp) h,fun h=>absurd (by simp) h,fun h=>absurd (by simp) h,fun h=>absurd (by simp) h,fun h=>absurd (by simp) h,fun _=>by simp,by decide⟩
 ·simp only [List.mem_cons,List.not_mem_nil,or_false] at az
  rcases az with rfl|rfl|rfl|rfl|rfl|rfl
  ·refine ⟨_,rfl,by decide,fun D v=>rfl,fun rem D W K az mL j4 au=> ?_⟩
   obtain ⟨i0,i1,i2,i3,i4,i5,i6,i7,nj⟩:=j4;refine Kd.qG (w0:=dJ) iU dJ.heap.size 50 (by rfl) (N:=8) rfl (xs:=([]:List Cell)) (inner:= []) (ok:=fun _=>True) (okp:=fun _=>False) (by go_simp<;>rfl) (cp.none _ _) (fun _ h=>h.elim) trivial i0 i0.size (by simp) (fun v W1 df dE U dy=> ?_);have I:=hW U;refine au v W1 ⟨dE, ?_, ?_, ?_, ?_, ?_, ?_, ?_,nj.erase _⟩
   ·intro _ _
    rw [xN];exact df
   ·intro aF
    rw [hZ (by decide)];exact Kd.kv (i2 (fun hm=>aF ((List.mem_erase_of_ne (by decide)).2 hm))) I
   ·intro aF
    rw [hZ (by decide)];exact Kd.kv (i3 (fun hm=>aF ((List.mem_erase_of_ne (by decide)).2 hm))) I
   ·intro aF
    rw [hZ (by decide)];exact Kd.kv (i4 (fun hm=>aF ((List.mem_erase_of_ne (by decide)).2 hm))) I
   ·intro aF
    rw [hZ (by decide),hZ (by decide),hZ (by decide),hZ (by decide)];exact i5 (fun hm=>aF ((List.mem_erase_of_ne (by decide)).2 hm))
   ·intro aF
    obtain ⟨eW,dO,h0,eG⟩:=i6 (fun hm=>aF ((List.mem_erase_of_ne (by decide)).2 hm));rw [hZ (by decide)];exact ⟨eW,dO,h0,fS eG I⟩
   ·intro h
    exact (List.mem_erase_of_ne (by decide)).2 (i7 (by rcases h with h | h | h;exact .inl (List.mem_of_mem_erase h);exact .inr (.inl (List.mem_of_mem_erase h));exact .inr (.inr (List.mem_of_mem_erase h))))
  ·refine ⟨_,rfl,by decide,fun D v=>rfl,fun rem D W K az mL j4 au=> ?_⟩
   obtain ⟨i0,i1,i2,i3,i4,i5,i6,i7,nj⟩:=j4;have G7:=i1 (mL 0 (by simp)) az;have W':3 ∉ rem.erase 3:=nj.not_mem_erase;refine Kd.Ta iU (Rr:=iU.K W) (w0:=dJ) dJ.heap.size (by rfl) (.tmp 8) (.tmp 10) 27 50 (.agg #[.int .i64 0,.int .i64 0,.int .i64 0]) 24 rfl Tryz.underlying27 Mm rfl (by decide) (by decide) (D 0) [] s.cells cX s.cells.length bL (fun _=>True) (fun _=>False) rfl rfl G7 (Kd.bW MX.1 i0) (fun x cs h=>h) (fun _ h=>h.elim) (fun _ _=>trivial) i0 i0.size (by simp;omega) (fun v W1 df dE U dy=> ?_);refine au v W1 ⟨dE, ?_, ?_, ?_, ?_, ?_, ?_, ?_,nj.erase _⟩
   ·intro _ aA
    exact absurd aA W'
   ·intro _
    rw [xN];exact df
   ·intro aF
    rw [hZ (by decide)];exact CS (i3 (fun hm=>aF ((List.mem_erase_of_ne (by decide)).2 hm))) G7 (by decide) U
   ·intro aF
    rw [hZ (by decide)];exact CS (i4 (fun hm=>aF ((List.mem_erase_of_ne (by decide)).2 hm))) G7 (by decide) U
   ·intro aF
    exact absurd (i7 (by simp [az])) (fun hm=>aF ((List.mem_erase_of_ne (by decide)).2 hm))
   ·intro aF
    obtain ⟨eW,dO,h0,eG⟩:=i6 (fun hm=>aF ((List.mem_erase_of_ne (by decide)).2 hm));rw [hZ (by decide)];exact ⟨eW,dO,h0,(U.block eW (dK eG) (fun he=>by obtain ⟨_,_,_,qJ,q3,HX,kn⟩:=(Kd.fW G7).1 eW he.symm;rw [eG] at kn;injection kn with kn;injection kn with _ kn;rw [<-kn] at q3;revert q3;decide)).trans eG⟩
   ·intro h
    exact (List.mem_erase_of_ne (by decide)).2 (i7 (by rcases h with h | h | h;exact .inl (List.mem_of_mem_erase h);exact .inr (.inl (List.mem_of_mem_erase h));exact .inr (.inr (List.mem_of_mem_erase h))))
  ·refine ⟨_,rfl,by decide,fun D v=>rfl,fun rem D W K az mL j4 au=> ?_⟩
   obtain ⟨i0,i1,i2,i3,i4,i5,i6,i7,nj⟩:=j4;refine Kd.qG (w0:=dJ) eV dJ.heap.size 38 (by rfl) (N:=12) rfl (xs:=([]:List Task)) (inner:= []) (ok:=fun _=>True) (okp:=fun _=>False) (by go_simp<;>rfl) (cp.none _ _) (fun _ h=>h.elim) trivial i0 i0.size (by simp) (fun v W1 df dE U dy=> ?_);have I:=hW U;refine au v W1 ⟨dE, ?_, ?_, ?_, ?_, ?_, ?_, ?_,nj.erase _⟩
   ·intro aF aA
    rw [hZ (by decide)];exact Kd.kv (i1 (fun hm=>aF ((List.mem_erase_of_ne (by decide)).2 hm)) (List.mem_of_mem_erase aA)) I
   ·intro aF
    rw [hZ (by decide)];exact Kd.kv (i2 (fun hm=>aF ((List.mem_erase_of_ne (by decide)).2 hm))) I
   ·intro _
    rw [xN];exact df
   ·intro aF
    rw [hZ (by decide)];exact Kd.kv (i4 (fun hm=>aF ((List.mem_erase_of_ne (by decide)).2 hm))) I
   ·intro aF
    exact absurd (i7 (by simp [az])) (fun hm=>aF ((List.mem_erase_of_ne (by decide)).2 hm))
   ·intro aF
    obtain ⟨eW,dO,h0,eG⟩:=i6 (fun hm=>aF ((List.mem_erase_of_ne (by decide)).2 hm));rw [hZ (by decide)];exact ⟨eW,dO,h0,fS eG I⟩
   ·intro h
    exact (List.mem_erase_of_ne (by decide)).2 (i7 (by rcases h with h | h | h;exact .inl (List.mem_of_mem_erase h);exact .inr (.inl (List.mem_of_mem_erase h));exact .inr (.inr (List.mem_of_mem_erase h))))
  ·refine ⟨_,rfl,by decide,fun D v=>rfl,fun rem D W K az mL j4 au=> ?_⟩
   obtain ⟨i0,i1,i2,i3,i4,i5,i6,i7,nj⟩:=j4;refine Kd.qG (w0:=dJ) hf dJ.heap.size 105 (by rfl) (N:=15) rfl (xs:=([]:List Entry)) (inner:= []) (ok:=fun _=>True) (okp:=fun _=>False) (by go_simp<;>rfl) (cp.none _ _) (fun _ h=>h.elim) trivial i0 i0.size (by simp) (fun v W1 df dE U dy=> ?_);have I:=hW U;refine au v W1 ⟨dE, ?_, ?_, ?_, ?_, ?_, ?_, ?_,nj.erase _⟩
   ·intro aF aA
    rw [hZ (by decide)];exact Kd.kv (i1 (fun hm=>aF ((List.mem_erase_of_ne (by decide)).2 hm)) (List.mem_of_mem_erase aA)) I
   ·intro aF
    rw [hZ (by decide)];exact Kd.kv (i2 (fun hm=>aF ((List.mem_erase_of_ne (by decide)).2 hm))) I
   ·intro aF
    rw [hZ (by decide)];exact Kd.kv (i3 (fun hm=>aF ((List.mem_erase_of_ne (by decide)).2 hm))) I
   ·intro _
    rw [xN];exact df
   ·intro aF
    exact absurd (i7 (by simp [az])) (fun hm=>aF ((List.mem_erase_of_ne (by decide)).2 hm))
   ·intro aF
    obtain ⟨eW,dO,h0,eG⟩:=i6 (fun hm=>aF ((List.mem_erase_of_ne (by decide)).2 hm));rw [hZ (by decide)];exact ⟨eW,dO,h0,fS eG I⟩
   ·intro h
    exact (List.mem_erase_of_ne (by decide)).2 (i7 (by rcases h with h | h | h;exact .inl (List.mem_of_mem_erase h);exact .inr (.inl (List.mem_of_mem_erase h));exact .inr (.inr (List.mem_of_mem_erase h))))
  ·refine ⟨_,rfl,by decide,fun D v=>rfl,fun rem D W K az mL j4 au=> ?_⟩
   obtain ⟨i0,i1,i2,i3,i4,i5,i6,i7,nj⟩:=j4;obtain ⟨a3,d3,eL⟩:=Kd.bt (i2 (mL 3 (by simp)));obtain ⟨a4,d4,oN⟩:=Kd.bt (i3 (mL 4 (by simp)));obtain ⟨vE,d7,m3⟩:=Kd.bt (i4 (mL 7 (by simp)));have I:=Below.refl W.heap.size W;have acU:Value.agg #[D 3,D 4,.int .i64 s.clock,D 7]=Value.agg #[D 3,D 4,.int .i64 s.clock,D 7]:=rfl;refine mV (v:=.agg #[D 3,D 4,.int .i64 s.clock,D 7]) (w1:=W) (by rfl) rfl (by simp only [eL,oN,m3];first|(go_simp;done)|(go_simp;rfl)) ?_;refine au _ W ⟨i0, ?_, ?_, ?_, ?_, ?_, ?_, ?_,nj.erase _⟩
   ·intro aF aA
    rw [hZ (by decide)];exact Kd.kv (i1 (fun hm=>aF ((List.mem_erase_of_ne (by decide)).2 hm)) (List.mem_of_mem_erase aA)) I
   ·intro aF
    rw [hZ (by decide)];exact Kd.kv (i2 (fun hm=>aF ((List.mem_erase_of_ne (by decide)).2 hm))) I
   ·intro aF
    rw [hZ (by decide)];exact Kd.kv (i3 (fun hm=>aF ((List.mem_erase_of_ne (by decide)).2 hm))) I
   ·intro aF
    rw [hZ (by decide)];exact Kd.kv (i4 (fun hm=>aF ((List.mem_erase_of_ne (by decide)).2 hm))) I
   ·intro _
    rw [xN,hZ (by decide),hZ (by decide),hZ (by decide)]
   ·intro aF
    obtain ⟨eW,dO,h0,eG⟩:=i6 (fun hm=>aF ((List.mem_erase_of_ne (by decide)).2 hm));rw [hZ (by decide)];exact ⟨eW,dO,h0,fS eG I⟩
   ·intro h
    rcases h with h | h | h
    ·exact absurd (List.mem_of_mem_erase h) (mL 3 (by simp))
    ·exact absurd (List.mem_of_mem_erase h) (mL 4 (by simp))
    ·exact absurd (List.mem_of_mem_erase h) (mL 7 (by simp))
  ·refine ⟨_,rfl,by decide,fun D v=>rfl,fun rem D W K az mL j4 au=> ?_⟩
   obtain ⟨i0,i1,i2,i3,i4,i5,i6,i7,nj⟩:=j4;have I:=mz (Below.refl W.heap.size W) (.cells #[.slice none 0 0,.slice none 0 0,.int .i64 0,.slice none 0 0] 31 (0,0));refine mV (v:=.pointer (some ⟨W.heap.size,0,none⟩)) (w1:=W.alloc (.cells #[.slice none 0 0,.slice none 0 0,.int .i64 0,.slice none 0 0] 31 (0,0))) (by rfl) rfl (by go_simp<;>rfl) ?_;have D4:∃ b,Value.pointer (some ⟨W.heap.size,0,none⟩)= .pointer (some ⟨b,0,none⟩)/\dJ.heap.size<=b/\(W.alloc (.cells #[.slice none 0 0,.slice none 0 0,.int .i64 0,.slice none 0 0] 31 (0,0))).heap[b]? = some (.cells #[.slice none 0 0,.slice none 0 0,.int .i64 0,.slice none 0 0] 31 (0,0)):=⟨_,rfl,i0.size,y9 _ _⟩;refine au _ _ ⟨fb i0 I, ?_, ?_, ?_, ?_, ?_, ?_, ?_,nj.erase _⟩
   ·intro aF aA
    rw [hZ (by decide)];exact Kd.kv (i1 (fun hm=>aF ((List.mem_erase_of_ne (by decide)).2 hm)) (List.mem_of_mem_erase aA)) I
   ·intro aF
    rw [hZ (by decide)];exact Kd.kv (i2 (fun hm=>aF ((List.mem_erase_of_ne (by decide)).2 hm))) I
   ·intro aF
    rw [hZ (by decide)];exact Kd.kv (i3 (fun hm=>aF ((List.mem_erase_of_ne (by decide)).2 hm))) I
   ·intro aF
    rw [hZ (by decide)];exact Kd.kv (i4 (fun hm=>aF ((List.mem_erase_of_ne (by decide)).2 hm))) I
   ·intro aF
    rw [hZ (by decide),hZ (by decide),hZ (by decide),hZ (by decide)];exact i5 (fun hm=>aF ((List.mem_erase_of_ne (by decide)).2 hm))
   ·intro _
    rw [xN];exact D4
   ·intro h
    exact (List.mem_erase_of_ne (by decide)).2 (i7 (by rcases h with h | h | h;exact .inl (List.mem_of_mem_erase h);exact .inr (.inl (List.mem_of_mem_erase h));exact .inr (.inr (List.mem_of_mem_erase h))))
 ·obtain ⟨i0,-,i2,i3,i4,i5,i6,-⟩:=j4
  have hN:=i2 (by simp);have l4:=i3 (by simp);have Dj:=i4 (by simp);have jK:=i5 (by simp);obtain ⟨eW,dO,h0,eG⟩:=i6 (by simp);simp only [jK,dO];clear jK dO i2 i3 i4 i5 i6;generalize D 0=u0;generalize D 3=aG at*;generalize D 4=aZ at*;generalize D 7=aP at*;obtain ⟨ek,k8,eL⟩:=Kd.bt hN;obtain ⟨gF,Tj,oN⟩:=Kd.bt l4;obtain ⟨cW,dl,m3⟩:=Kd.bt Dj;change aZ= .slice gF 0 Tj at oN;change aP= .slice cW 0 dl at m3;subst eL oN m3;obtain ⟨own,iA,oA,NQ⟩:=ZA (B:=w.heap.size) s.clock pC.1.size hN l4 Dj;have oh:=NQ eW _ eG;have bd:=am iA;have kT:=cf pC i0;have gK:=am (oA gs (dK aK));have mF:=am (oA gr (dK HO.1));have tz:=am oh;have wQ:=am eG;have zz:=am (Nat.le_trans pC.1.size h0);have tA:=am (show w.heap.size<=gr by have h1:=Ti.1;have ar:=W9.1;omega);have eH:=am (fS aK i0);have fT:=aV HO i0;have zA:av (gs ≠ eW):=⟨fun he=>by have:=dK aK;omega⟩;have IQ:av (gr ≠ eW):=⟨fun he=>by have:=dK HO.1;omega⟩;clear hN l4 Dj iA oA NQ oh eG h0 i0 aK HO pC MX;refine lM (fuel:=1) 10 (by kernel_rfl) ?_;simp only [List.drop_succ_cons,List.drop_zero]
  go_wp2_with (first
  |((with_reducible refine bT 31 3 ?_);refine dG wQ ?_;intro ih ad U;have eZ:=am ad;replace bd:=am (bd.1.move U.size (fun k J ak=>U.block k ak (fun he=>by injection he with he;rw [he] at J;exact J tz.1)));have jR:=am (mA kT.1 _ kT.1.size U (fun z aX=>by cases aX;exact zz.1));replace eH:=am (eQ eH.1 U (fun he=>by injection he with he;exact zA.1 he));replace fT:=am (eQ fT.1 U (fun he=>by injection he with he;exact IQ.1 he));clear ad U kT wQ;have ab:=jR;clear jR)
   )
  go_loopw [4] (fun j af=>∃ k:Nat,k<=s.tasks.length/\j= .int .i64 k/\∃ own aZ,av (b8 w.heap.size own {s with tasks:=s.tasks.take k,log:= []} (.slice ek s.cells.length k8) aZ (.slice cW 0 dl) af)/\av (af.heap[eW]? = some (.cells #[.slice ek s.cells.length k8,aZ,.int .i64 s.clock,.slice cW 0 dl] 31 (0,0)))/\av (af.heap[gs]? = some (.cells #[.slice cX s.cells.length bL,.slice dX s.tasks.length cu,.int .i64 s.clock,.slice cU s.log.length bO] 31 (0,0)))/\av (af.heap[gr]? = some (.cells #[.slice none 0 0,.slice none 0 0,.int .i64 0,.slice none 0 0] 31 (0,0)))/\av (Below w.heap.size w af)/\av (own gs=0/\own gr=0/\own eW=0)) (fun j _=>s.tasks.length - (intOf j).toNat)
  case atStart=>exact ⟨0,Nat.zero_le _,rfl,own,_,bd,eZ,eH,fT,ab,⟨gK.1,mF.1,tz.1⟩⟩
  case round=>
   clear bd eZ eH fT ab gK mF tz;clear own;obtain ⟨k,J,rfl,own,aZ,bd,eZ,eH,fT,ab,xj⟩:=hrel;have gK:=am xj.1.1;have mF:=am xj.1.2.1;have tz:=am xj.1.2.2;have h9:=ae eH;have hS:=ae eZ;clear xj;obtain ⟨mQ,n1⟩:∃ l:List Task,l=s.tasks.take k:=⟨_,rfl⟩;have iS:av (mQ.length=k):=⟨by rw [n1,List.length_take,Nat.min_eq_left J]⟩;rw [<-n1] at bd;have jf:=am n1;clear n1;by_cases aJ:k < s.tasks.length
   ·obtain ⟨cr,ok,UD,rfl,bQ,au,aM,-⟩:=dd iM.1 dS k aJ (by decide)
    rw [show s.tasks.getD k dS=aD s.tasks k from rfl] at au;obtain ⟨hB,d3,iZ,d8,gY,d9,gd,d10,rfl,-,dj,-,fy,-,hh,-,fi⟩:=gh au;have cJ:=am aM;have UE:=am dj;have UF:=am fy;have JI:=am hh;have K5:=am fi;have x9:=am (hlen k aJ).1;have Tk:=am (hlen k aJ).2.1;have IS:=am (hlen k aJ).2.2.1;have JJ:=am (hlen k aJ).2.2.2;have kT:=am ab.1.size;have Dk:=am bd.1.dk;have oO:=am (And.intro (dK eH.1) (And.intro (dK fT.1) (dK eZ.1)));obtain ⟨JK,JL,r3⟩:=Kd.bt bd.1.tasks;rw [fH] at r3;change aZ= .slice JK mQ.length JL at r3;subst r3;have IT:av (s.tasks.take (k+1)=mQ ++ [aD s.tasks k]):=⟨by rw [jf.1,List.take_succ_eq_append_getElem aJ];simp [aD,aJ]⟩;have bz:(0:Int)<=(k:Int):=by omega
    have b7:(k:Int) < (s.tasks.length:Int):=by omega
    clear aM au bQ dj fy hh fi J
    go_wp2_with (first
    |((with_reducible refine aQ 28 ?_);refine c4 cr (ok+k*13) (fun j u hu=>dD ab.1 (cJ.1 j u hu)) ?_)
    |((with_reducible refine aQ 5 ?_);refine hy 38 ?_;intro gt wt dM D8 dF)
    |((with_reducible refine bT 38 5 ?_);refine dG dM ?_;intro wn ad U;have bm:=am ad;have bk:=fq dF D8 U;have cb:=am bk;have GT:=am (Nat.le_of_eq D8.1.symm);have jl:=am (bd.1.dk gt GT.1);have Ac:av (gs ≠ gt):=⟨fun he=>by have h1:=dK eH.1;have ar:=GT.1;omega⟩;have Ad:av (gr ≠ gt):=⟨fun he=>by have h1:=dK fT.1;have ar:=GT.1;omega⟩;have Ae:av (eW ≠ gt):=⟨fun he=>by have h1:=dK eZ.1;have ar:=GT.1;omega⟩;replace bd:=am (bd.1.grow bk);replace ab:=cf ab bk;replace eH:=aV eH bk;replace fT:=aV fT bk;replace eZ:=aV eZ bk;clear h9 hS;have h9:=ae eH;have hS:=ae eZ;have ck:=ae bm;clear ad U bk dM dF)
    |((with_reducible refine aQ 29 ?_);refine Kd.jX (Kd.int .i64) _ 3 rfl (N:=29) rfl (xs:=([]:List Int)) (inner:= []) (ok:=fun _=>True) (okp:=fun _=>False) (by go_simp<;>rfl) (cp.none _ _) (fun _ J=>J.elim) trivial (Below.refl _ _) (Nat.le_refl _) (by simp) ?_;intro v1 wl bG bZ _ _;have pq:=am bG;have dq:=am bZ;have ck:=bf (fS bm.1 bZ);clear bG bZ)
    |((with_reducible refine jJ (b:=.append) (xs:=#[.tmp 29,.tmp 31]) rfl ?_);at_builtin;refine Kd.BF (Kd.int .i64) (Rr:=(Kd.int .i64).K _) _ rfl (.tmp 29) (.tmp 31) 23 3 (.int .i64 0) 8 rfl Tryz.underlying23 od rfl (by decide) (by decide) v1 [] (aD s.tasks k).aL hB (aD s.tasks k).aL.length d3 (fun _=>True) (fun _=>False) rfl rfl pq.1 (Kd.bW (Kd.bW UE.1 ab.1) dq.1) (fun _ _ h=>h) (fun _ J=>J.elim) (fun _ _=>trivial) dq.1 dq.1.size (by have:=x9.1;simp;omega) ?_;intro v2 wn bp I _ _;rw [List.nil_append] at bp;obtain ⟨a3,eL,c'⟩:=Kd.bt bp;subst c';have lR:=am (show (Kd.int .i64).aC 3 wn wr.heap.size (fun k=>gt < k) (.slice a3 (aD s.tasks k).aL.length eL) (aD s.tasks k).aL from Kd.ft (Kd.cG (Kd.fW bp) (fun k J=>Nat.lt_of_lt_of_le (dK bm.1) J.2.1)) cb.1.size);replace bd:=am (bd.1.grow I);replace ab:=cf ab I;replace cb:=cf cb I;replace eH:=aV eH I;replace fT:=aV fT I;replace eZ:=aV eZ I;replace bm:=aV bm I;clear h9 hS ck;have h9:=ae eH;have hS:=ae eZ;have ck:=ae bm;clear bp I pq dq)
    |((with_reducible refine bT 23 33 ?_);refine e9 (u:=.slice a3 (aD s.tasks k).aL.length eL) rfl rfl _ _ rfl (g:=gt) (off:=3) rfl rfl rfl rfl (by kernel_rfl) ⟨⟨_,by rw [bf bm.1];rfl⟩,iX bm.1 _⟩ ?_;intro wn aH;replace bd:=am (show b8 _ _ _ _ _ _ wn by rw [aH];exact bd.1.cB jl.1 3 (.slice a3 (aD s.tasks k).aL.length eL));replace ab:=am (show Below w.heap.size w wn by rw [aH];exact jj ab.1 (Nat.le_trans kT.1 GT.1));replace cb:=am (show Below wr.heap.size wr wn by rw [aH];exact jj cb.1 GT.1);have cr:=eA (p:=⟨gt,3,none⟩) eH.1 Ac.1 (.slice a3 (aD s.tasks k).aL.length eL);rw [<-aH] at cr;replace eH:=am cr;clear cr;have cr:=eA (p:=⟨gt,3,none⟩) fT.1 Ad.1 (.slice a3 (aD s.tasks k).aL.length eL);rw [<-aH] at cr;replace fT:=am cr;clear cr;have cr:=eA (p:=⟨gt,3,none⟩) eZ.1 Ae.1 (.slice a3 (aD s.tasks k).aL.length eL);rw [<-aH] at cr;replace eZ:=am cr;clear cr;have cr:=ku bm.1 3 (.slice a3 (aD s.tasks k).aL.length eL);rw [<-aH] at cr;replace bm:=am (show wn.heap[gt]? = some (.cells #[.int .i64 (aD s.tasks k).body,.int .i64 (aD s.tasks k).aR,.int .i64 (aD s.tasks k).up,.slice a3 (aD s.tasks k).aL.length eL,.int .i64 (aD s.tasks k).a7,.int .i64 (aD s.tasks k).aE,.int .i64 (aD s.tasks k).at_,.int .i64 (aD s.tasks k).since,.slice iZ (aD s.tasks k).bE.length d8,.slice gY (aD s.tasks k).reads.length d9,.slice gd (aD s.tasks k).ai.length d10,.int .i64 (aD s.tasks k).bw,.int .i64 (aD s.tasks k).from_] 38 (0,0)) from cr);clear cr;replace lR:=am (show (Kd.int .i64).aC 3 wn wr.heap.size (fun k=>gt < k) (.slice a3 (aD s.tasks k).aL.length eL) (aD s.tasks k).aL by rw [aH];exact Kd.lp lR.1 (fun k J=>Nat.ne_of_gt J) _);clear aH h9 hS ck;have h9:=ae eH;have hS:=ae eZ;have ck:=ae bm)
    |((with_reducible refine aQ 34 ?_);refine Kd.jX (Kd.int .i64) _ 3 rfl (N:=34) rfl (xs:=([]:List Int)) (inner:= []) (ok:=fun _=>True) (okp:=fun _=>False) (by go_simp<;>rfl) (cp.none _ _) (fun _ J=>J.elim) trivial (Below.refl _ _) (Nat.le_refl _) (by simp) ?_;intro v1 wl bG bZ _ _;have pq:=am bG;have dq:=am bZ;have ck:=bf (fS bm.1 bZ);clear bG bZ)
    |((with_reducible refine jJ (b:=.append) (xs:=#[.tmp 34,.tmp 36]) rfl ?_);at_builtin;refine Kd.BF (Kd.int .i64) (Rr:=(Kd.int .i64).K _) _ rfl (.tmp 34) (.tmp 36) 23 3 (.int .i64 0) 8 rfl Tryz.underlying23 od rfl (by decide) (by decide) v1 [] (aD s.tasks k).bE iZ (aD s.tasks k).bE.length d8 (fun _=>True) (fun _=>False) rfl rfl pq.1 (Kd.bW (Kd.bW UF.1 ab.1) dq.1) (fun _ _ h=>h) (fun _ J=>J.elim) (fun _ _=>trivial) dq.1 dq.1.size (by have:=Tk.1;simp;omega) ?_;intro v2 wn bp I _ _;rw [List.nil_append] at bp;obtain ⟨mG,jK,c'⟩:=Kd.bt bp;subst c';have PW:av (∀ g2,(Value.slice a3 (aD s.tasks k).aL.length eL).ownBlock=some g2->(Value.slice mG (aD s.tasks k).bE.length jK).ownBlock ≠ some g2):=⟨fun g2 h1 ar=>by have jN:=(fc lR.1 g2 h1).2.2;have a2:=(fc bp g2 ar).2.1;omega⟩;have oi:=am (show (Kd.int .i64).aC 3 wn wr.heap.size (fun k=>gt < k) (.slice mG (aD s.tasks k).bE.length jK) (aD s.tasks k).bE from Kd.ft (Kd.cG (Kd.fW bp) (fun k J=>Nat.lt_of_lt_of_le (dK bm.1) J.2.1)) cb.1.size);replace bd:=am (bd.1.grow I);replace ab:=cf ab I;replace cb:=cf cb I;replace eH:=aV eH I;replace fT:=aV fT I;replace eZ:=aV eZ I;replace bm:=aV bm I;replace lR:=c9 lR I;clear h9 hS ck;have h9:=ae eH;have hS:=ae eZ;have ck:=ae bm;clear bp I pq dq)
    |((with_reducible refine bT 23 38 ?_);refine e9 (u:=.slice mG (aD s.tasks k).bE.length jK) rfl rfl _ _ rfl (g:=gt) (off:=8) rfl rfl rfl rfl (by kernel_rfl) ⟨⟨_,by rw [bf bm.1];rfl⟩,iX bm.1 _⟩ ?_;intro wn aH;replace bd:=am (show b8 _ _ _ _ _ _ wn by rw [aH];exact bd.1.cB jl.1 8 (.slice mG (aD s.tasks k).bE.length jK));replace ab:=am (show Below w.heap.size w wn by rw [aH];exact jj ab.1 (Nat.le_trans kT.1 GT.1));replace cb:=am (show Below wr.heap.size wr wn by rw [aH];exact jj cb.1 GT.1);have cr:=eA (p:=⟨gt,8,none⟩) eH.1 Ac.1 (.slice mG (aD s.tasks k).bE.length jK);rw [<-aH] at cr;replace eH:=am cr;clear cr;have cr:=eA (p:=⟨gt,8,none⟩) fT.1 Ad.1 (.slice mG (aD s.tasks k).bE.length jK);rw [<-aH] at cr;replace fT:=am cr;clear cr;have cr:=eA (p:=⟨gt,8,none⟩) eZ.1 Ae.1 (.slice mG (aD s.tasks k).bE.length jK);rw [<-aH] at cr;replace eZ:=am cr;clear cr;have cr:=ku bm.1 8 (.slice mG (aD s.tasks k).bE.length jK);rw [<-aH] at cr;replace bm:=am (show wn.heap[gt]? = some (.cells #[.int .i64 (aD s.tasks k).body,.int .i64 (aD s.tasks k).aR,.int .i64 (aD s.tasks k).up,.slice a3 (aD s.tasks k).aL.length eL,.int .i64 (aD s.tasks k).a7,.int .i64 (aD s.tasks k).aE,.int .i64 (aD s.tasks k).at_,.int .i64 (aD s.tasks k).since,.slice mG (aD s.tasks k).bE.length jK,.slice gY (aD s.tasks k).reads.length d9,.slice gd (aD s.tasks k).ai.length d10,.int .i64 (aD s.tasks k).bw,.int .i64 (aD s.tasks k).from_] 38 (0,0)) from cr);clear cr;replace lR:=am (show (Kd.int .i64).aC 3 wn wr.heap.size (fun k=>gt < k) (.slice a3 (aD s.tasks k).aL.length eL) (aD s.tasks k).aL by rw [aH];exact Kd.lp lR.1 (fun k J=>Nat.ne_of_gt J) _);replace oi:=am (show (Kd.int .i64).aC 3 wn wr.heap.size (fun k=>gt < k) (.slice mG (aD s.tasks k).bE.length jK) (aD s.tasks k).bE by rw [aH];exact Kd.lp oi.1 (fun k J=>Nat.ne_of_gt J) _);clear aH h9 hS ck;have h9:=ae eH;have hS:=ae eZ;have ck:=ae bm)
    |(go_at_call 85;refine (Da gY d9 (aD s.tasks k).reads _ (Kd.bW JI.1 ab.1) IS.1).mono ?_;rintro e wn ⟨v2,rfl,bp,I⟩;obtain ⟨a9,dO,c'⟩:=Kd.bt bp;subst c';have PX:av (∀ g2,(Value.slice a3 (aD s.tasks k).aL.length eL).ownBlock=some g2->(Value.slice a9 (aD s.tasks k).reads.length dO).ownBlock ≠ some g2):=⟨fun g2 h1 ar=>by have jN:=(fc lR.1 g2 h1).2.2;have a2:=(fc bp g2 ar).2.1;omega⟩;have PY:av (∀ g2,(Value.slice mG (aD s.tasks k).bE.length jK).ownBlock=some g2->(Value.slice a9 (aD s.tasks k).reads.length dO).ownBlock ≠ some g2):=⟨fun g2 h1 ar=>by have jN:=(fc oi.1 g2 h1).2.2;have a2:=(fc bp g2 ar).2.1;omega⟩;have hi:=am (show cn.aC 52 wn wr.heap.size (fun k=>gt < k) (.slice a9 (aD s.tasks k).reads.length dO) (aD s.tasks k).reads from Kd.ft (Kd.cG (Kd.fW bp) (fun k J=>Nat.lt_of_lt_of_le (dK bm.1) J.2.1)) cb.1.size);replace bd:=am (bd.1.grow I);replace ab:=cf ab I;replace cb:=cf cb I;replace eH:=aV eH I;replace fT:=aV fT I;replace eZ:=aV eZ I;replace bm:=aV bm I;replace lR:=c9 lR I;replace oi:=c9 oi I;clear h9 hS ck;have h9:=ae eH;have hS:=ae eZ;have ck:=ae bm;clear bp I)
    |((with_reducible refine bT 36 42 ?_);refine e9 (u:=.slice a9 (aD s.tasks k).reads.length dO) rfl rfl _ _ rfl (g:=gt) (off:=9) rfl rfl rfl rfl (by kernel_rfl) ⟨⟨_,by rw [bf bm.1];rfl⟩,iX bm.1 _⟩ ?_;intro wn aH;replace bd:=am (show b8 _ _ _ _ _ _ wn by rw [aH];exact bd.1.cB jl.1 9 (.slice a9 (aD s.tasks k).reads.length dO));replace ab:=am (show Below w.heap.size w wn by rw [aH];exact jj ab.1 (Nat.le_trans kT.1 GT.1));replace cb:=am (show Below wr.heap.size wr wn by rw [aH];exact jj cb.1 GT.1);have cr:=eA (p:=⟨gt,9,none⟩) eH.1 Ac.1 (.slice a9 (aD s.tasks k).reads.length dO);rw [<-aH] at cr;replace eH:=am cr;clear cr;have cr:=eA (p:=⟨gt,9,none⟩) fT.1 Ad.1 (.slice a9 (aD s.tasks k).reads.length dO);rw [<-aH] at cr;replace fT:=am cr;clear cr;have cr:=eA (p:=⟨gt,9,none⟩) eZ.1 Ae.1 (.slice a9 (aD s.tasks k).reads.length dO);rw [<-aH] at cr;replace eZ:=am cr;clear cr;have cr:=ku bm.1 9 (.slice a9 (aD s.tasks k).reads.length dO);rw [<-aH] at cr;replace bm:=am (show wn.heap[gt]? = some (.cells #[.int .i64 (aD s.tasks k).body,.int .i64 (aD s.tasks k).aR,.int .i64 (aD s.tasks k).up,.slice a3 (aD s.tasks k).aL.length eL,.int .i64 (aD s.tasks k).a7,.int .i64 (aD s.tasks k).aE,.int .i64 (aD s.tasks k).at_,.int .i64 (aD s.tasks k).since,.slice mG (aD s.tasks k).bE.length jK,.slice a9 (aD s.tasks k).reads.length dO,.slice gd (aD s.tasks k).ai.length d10,.int .i64 (aD s.tasks k).bw,.int .i64 (aD s.tasks k).from_] 38 (0,0)) from cr);clear cr;replace lR:=am (show (Kd.int .i64).aC 3 wn wr.heap.size (fun k=>gt < k) (.slice a3 (aD s.tasks k).aL.length eL) (aD s.tasks k).aL by rw [aH];exact Kd.lp lR.1 (fun k J=>Nat.ne_of_gt J) _);replace oi:=am (show (Kd.int .i64).aC 3 wn wr.heap.size (fun k=>gt < k) (.slice mG (aD s.tasks k).bE.length jK) (aD s.tasks k).bE by rw [aH];exact Kd.lp oi.1 (fun k J=>Nat.ne_of_gt J) _);replace hi:=am (show cn.aC 52 wn wr.heap.size (fun k=>gt < k) (.slice a9 (aD s.tasks k).reads.length dO) (aD s.tasks k).reads by rw [aH];exact Kd.lp hi.1 (fun k J=>Nat.ne_of_gt J) _);clear aH h9 hS ck;have h9:=ae eH;have hS:=ae eZ;have ck:=ae bm)
    |(go_at_call 85;refine (Da gd d10 (aD s.tasks k).ai _ (Kd.bW K5.1 ab.1) JJ.1).mono ?_;rintro e wn ⟨v2,rfl,bp,I⟩;obtain ⟨kB,gI,c'⟩:=Kd.bt bp;subst c';have QC:av (∀ g2,(Value.slice a3 (aD s.tasks k).aL.length eL).ownBlock=some g2->(Value.slice kB (aD s.tasks k).ai.length gI).ownBlock ≠ some g2):=⟨fun g2 h1 ar=>by have jN:=(fc lR.1 g2 h1).2.2;have a2:=(fc bp g2 ar).2.1;omega⟩;have QD:av (∀ g2,(Value.slice mG (aD s.tasks k).bE.length jK).ownBlock=some g2->(Value.slice kB (aD s.tasks k).ai.length gI).ownBlock ≠ some g2):=⟨fun g2 h1 ar=>by have jN:=(fc oi.1 g2 h1).2.2;have a2:=(fc bp g2 ar).2.1;omega⟩;have LB:av (∀ g2,(Value.slice a9 (aD s.tasks k).reads.length dO).ownBlock=some g2->(Value.slice kB (aD s.tasks k).ai.length gI).ownBlock ≠ some g2):=⟨fun g2 h1 ar=>by have jN:=(fc hi.1 g2 h1).2.2;have a2:=(fc bp g2 ar).2.1;omega⟩;have kA:=am (show cn.aC 52 wn wr.heap.size (fun k=>gt < k) (.slice kB (aD s.tasks k).ai.length gI) (aD s.tasks k).ai from Kd.ft (Kd.cG (Kd.fW bp) (fun k J=>Nat.lt_of_lt_of_le (dK bm.1) J.2.1)) cb.1.size);replace bd:=am (bd.1.grow I);replace ab:=cf ab I;replace cb:=cf cb I;replace eH:=aV eH I;replace fT:=aV fT I;replace eZ:=aV eZ I;replace bm:=aV bm I;replace lR:=c9 lR I;replace oi:=c9 oi I;replace hi:=c9 hi I;clear h9 hS ck;have h9:=ae eH;have hS:=ae eZ;have ck:=ae bm;clear bp I)
    |((with_reducible refine bT 36 46 ?_);refine e9 (u:=.slice kB (aD s.tasks k).ai.length gI) rfl rfl _ _ rfl (g:=gt) (off:=10) rfl rfl rfl rfl (by kernel_rfl) ⟨⟨_,by rw [bf bm.1];rfl⟩,iX bm.1 _⟩ ?_;intro wn aH;replace bd:=am (show b8 _ _ _ _ _ _ wn by rw [aH];exact bd.1.cB jl.1 10 (.slice kB (aD s.tasks k).ai.length gI));replace ab:=am (show Below w.heap.size w wn by rw [aH];exact jj ab.1 (Nat.le_trans kT.1 GT.1));replace cb:=am (show Below wr.heap.size wr wn by rw [aH];exact jj cb.1 GT.1);have cr:=eA (p:=⟨gt,10,none⟩) eH.1 Ac.1 (.slice kB (aD s.tasks k).ai.length gI);rw [<-aH] at cr;replace eH:=am cr;clear cr;have cr:=eA (p:=⟨gt,10,none⟩) fT.1 Ad.1 (.slice kB (aD s.tasks k).ai.length gI);rw [<-aH] at cr;replace fT:=am cr;clear cr;have cr:=eA (p:=⟨gt,10,none⟩) eZ.1 Ae.1 (.slice kB (aD s.tasks k).ai.length gI);rw [<-aH] at cr;replace eZ:=am cr;clear cr;have cr:=ku bm.1 10 (.slice kB (aD s.tasks k).ai.length gI);rw [<-aH] at cr;replace bm:=am (show wn.heap[gt]? = some (.cells #[.int .i64 (aD s.tasks k).body,.int .i64 (aD s.tasks k).aR,.int .i64 (aD s.tasks k).up,.slice a3 (aD s.tasks k).aL.length eL,.int .i64 (aD s.tasks k).a7,.int .i64 (aD s.tasks k).aE,.int .i64 (aD s.tasks k).at_,.int .i64 (aD s.tasks k).since,.slice mG (aD s.tasks k).bE.length jK,.slice a9 (aD s.tasks k).reads.length dO,.slice kB (aD s.tasks k).ai.length gI,.int .i64 (aD s.tasks k).bw,.int .i64 (aD s.tasks k).from_] 38 (0,0)) from cr);clear cr;replace lR:=am (show (Kd.int .i64).aC 3 wn wr.heap.size (fun k=>gt < k) (.slice a3 (aD s.tasks k).aL.length eL) (aD s.tasks k).aL by rw [aH];exact Kd.lp lR.1 (fun k J=>Nat.ne_of_gt J) _);replace oi:=am (show (Kd.int .i64).aC 3 wn wr.heap.size (fun k=>gt < k) (.slice mG (aD s.tasks k).bE.length jK) (aD s.tasks k).bE by rw [aH];exact Kd.lp oi.1 (fun k J=>Nat.ne_of_gt J) _);replace hi:=am (show cn.aC 52 wn wr.heap.size (fun k=>gt < k) (.slice a9 (aD s.tasks k).reads.length dO) (aD s.tasks k).reads by rw [aH];exact Kd.lp hi.1 (fun k J=>Nat.ne_of_gt J) _);replace kA:=am (show cn.aC 52 wn wr.heap.size (fun k=>gt < k) (.slice kB (aD s.tasks k).ai.length gI) (aD s.tasks k).ai by rw [aH];exact Kd.lp kA.1 (fun k J=>Nat.ne_of_gt J) _);clear aH h9 hS ck;have h9:=ae eH;have hS:=ae eZ;have ck:=ae bm)
    |((with_reducible refine aQ 49 ?_);refine c4 gt 0 (fR bm.1) ?_)
    |((with_reducible refine jJ (b:=.append) (xs:=#[.tmp 48,.tmp 50]) rfl ?_);at_builtin;obtain ⟨fB,Ba⟩:=bd.1.H8 (L:=k) (⟨Kd.cG lR.1 (fun _ _=>trivial),Kd.cG oi.1 (fun _ _=>trivial),Kd.cG hi.1 (fun _ _=>trivial),Kd.cG kA.1 (fun _ _=>trivial),PW.1,PX.1,QC.1,PY.1,QD.1,LB.1⟩:o9 (aD s.tasks k) wr.heap.size _ (.slice a3 (aD s.tasks k).aL.length eL) (.slice mG (aD s.tasks k).bE.length jK) (.slice a9 (aD s.tasks k).reads.length dO) (.slice kB (aD s.tasks k).ai.length gI)) (fun q aF=>Dk.1 q aF) kT.1;have jw:=o9.row (own:=own) (L:=k) (B:=w.heap.size) (⟨Kd.cG lR.1 (fun _ _=>trivial),Kd.cG oi.1 (fun _ _=>trivial),Kd.cG hi.1 (fun _ _=>trivial),Kd.cG kA.1 (fun _ _=>trivial),PW.1,PX.1,QC.1,PY.1,QD.1,LB.1⟩:o9 (aD s.tasks k) wr.heap.size _ (.slice a3 (aD s.tasks k).aL.length eL) (.slice mG (aD s.tasks k).bE.length jK) (.slice a9 (aD s.tasks k).reads.length dO) (.slice kB (aD s.tasks k).ai.length gI)) kT.1;generalize jV own _ _ _ _ k=c1 at fB Ba jw;refine Kd.mY (gg c1) (w0:=w) w.heap.size rfl (.tmp 48) (.tmp 50) 28 38 (.agg #[.int .i64 0,.int .i64 0,.int .i64 0,.slice none 0 0,.int .i64 0,.int .i64 0,.int .i64 0,.int .i64 0,.slice none 0 0,.slice none 0 0,.slice none 0 0,.int .i64 0,.int .i64 0]) 168 rfl Tryz.underlying28 (by kernel_rfl) rfl (by rw [Iq];decide) (by decide) (.slice JK mQ.length JL) mQ.zipIdx ((aD s.tasks k),k) [.int .i64 (aD s.tasks k).body,.int .i64 (aD s.tasks k).aR,.int .i64 (aD s.tasks k).up,.slice a3 (aD s.tasks k).aL.length eL,.int .i64 (aD s.tasks k).a7,.int .i64 (aD s.tasks k).aE,.int .i64 (aD s.tasks k).at_,.int .i64 (aD s.tasks k).since,.slice mG (aD s.tasks k).bE.length jK,.slice a9 (aD s.tasks k).reads.length dO,.slice kB (aD s.tasks k).ai.length gI,.int .i64 (aD s.tasks k).bw,.int .i64 (aD s.tasks k).from_] (fun q=>(c1 q=3\/8<=c1 q)\/c1 q=0) (fun q=>8<=c1 q) rfl rfl jw (fun q aF=>⟨.inl (.inr aF),fun he=>by have:=fB.fj q he.symm;omega⟩) (fun q aF=> .inr (fB.dk q aF)) (Kd.cG fB.tasks (fun q aF=> .inl aF)) ab.1 ab.1.size (by rw [fH,iS.1];omega) ?_;intro v1 wn bp I U dy;obtain ⟨j9,q7,qm⟩:=fB.RV U (ts':=s.tasks.take (k+1)) (by rw [IT.1,Ik,iS.1];exact bp) dy ab.1.size;have D9:=am q7;have Dl:av (j9 gs=0/\j9 gr=0/\j9 eW=0):=⟨(qm gs (dK eH.1)).trans ((Ba gs oO.1.1).trans gK.1),(qm gr (dK fT.1)).trans ((Ba gr oO.1.2.1).trans mF.1),(qm eW (dK eZ.1)).trans ((Ba eW oO.1.2.2).trans tz.1)⟩;have wR:∀ q,own q=0->q < wr.heap.size->some q ≠ (Value.slice JK mQ.length JL).ownBlock:=fun q aF ak he=>(by have h1:=fB.fj q he.symm;rw [Ba q ak,aF] at h1;cases h1);have AY:=am (eQ eH.1 U (wR gs gK.1 oO.1.1));have Fa:=am (eQ fT.1 U (wR gr mF.1 oO.1.2.1));have vc:=am (eQ eZ.1 U (wR eW tz.1 oO.1.2.2));have jc:=am I;have V:=am bp;clear bd ab cb eH fT eZ bm ck h9 hS lR oi hi kA fB Ba jw q7 qm bp I U dy wR;have hS:=ae vc;have h9:=ae AY)
    |((with_reducible refine bT 28 52 ?_);refine e9 (u:=v1) rfl rfl _ _ rfl (g:=eW) (off:=1) rfl rfl (qA V.1) (qF V.1) (by kernel_rfl) ⟨⟨_,by rw [bf vc.1];rfl⟩,iX vc.1 _⟩ ?_;intro bV aH;have cr:=ku vc.1 1 v1;rw [<-aH] at cr;have eZ:=am (show bV.heap[eW]? = some (.cells #[.slice ek s.cells.length k8,v1,.int .i64 s.clock,.slice cW 0 dl] 31 (0,0)) from cr);have gJ:=eA (p:=⟨eW,1,none⟩) AY.1 zA.1 v1;rw [<-aH] at gJ;have eH:=am gJ;have ya:=eA (p:=⟨eW,1,none⟩) Fa.1 IQ.1 v1;rw [<-aH] at ya;have fT:=am ya;have bd:=am (show b8 _ _ _ _ _ _ bV by rw [aH];exact D9.1.cB Dl.1.2.2 1 v1);have ab:=am (show Below w.heap.size w bV by rw [aH];exact jj jc.1 zz.1);clear cr gJ ya aH vc AY Fa D9 jc V hS h9;have h9:=ae eH;have hS:=ae eZ))
    go_roundw
    case rel=>exact ⟨k+1,by omega,by go_num,_,v1,bd,eZ,eH,fT,ab,Dl⟩
    case measure=>simp [intOf];omega
   ·obtain rfl:k=s.tasks.length:=by omega
    obtain ⟨yB,yC,G8⟩:=Kd.bt bd.1.tasks;rw [fH] at G8;change aZ= .slice yB mQ.length yC at G8;have D':mQ=s.tasks:=jf.1.trans List.take_length;rw [D'] at G8 bd;subst G8;have NR:=am (show b8 w.heap.size own {s with log:=s.log.take 0} (.slice ek s.cells.length k8) (.slice yB s.tasks.length yC) (.slice cW 0 dl) wr from bd.1);clear bd D' jf iS;go_wp2;go_loopw [6] (fun j af=>∃ k:Nat,k<=s.log.length/\j= .int .i64 k/\∃ own aP,av (b8 w.heap.size own {s with log:=s.log.take k} (.slice ek s.cells.length k8) (.slice yB s.tasks.length yC) aP af)/\av (af.heap[eW]? = some (.cells #[.slice ek s.cells.length k8,.slice yB s.tasks.length yC,.int .i64 s.clock,aP] 31 (0,0)))/\av (af.heap[gs]? = some (.cells #[.slice cX s.cells.length bL,.slice dX s.tasks.length cu,.int .i64 s.clock,.slice cU s.log.length bO] 31 (0,0)))/\av (af.heap[gr]? = some (.cells #[.slice none 0 0,.slice none 0 0,.int .i64 0,.slice none 0 0] 31 (0,0)))/\av (Below w.heap.size w af)/\av (own gs=0/\own gr=0/\own eW=0)) (fun j _=>s.log.length - (intOf j).toNat)
    case atStart=>exact ⟨0,Nat.zero_le _,rfl,own,_,NR,eZ,eH,fT,ab,⟨gK.1,mF.1,tz.1⟩⟩
    case round=>
     clear NR eZ eH fT ab gK mF tz h9 hS;clear own;obtain ⟨k,J,rfl,own,aP,bd,eZ,eH,fT,ab,xj⟩:=hrel;have gK:=am xj.1.1;have mF:=am xj.1.2.1;have tz:=am xj.1.2.2;have h9:=ae eH;have hS:=ae eZ;clear xj;obtain ⟨B8,n1⟩:∃ l:List Entry,l=s.log.take k:=⟨_,rfl⟩;have iS:av (B8.length=k):=⟨by rw [n1,List.length_take,Nat.min_eq_left J]⟩;rw [<-n1] at bd;have jf:=am n1;clear n1;obtain ⟨B9,B',NS⟩:=Kd.bt bd.1.log;change aP= .slice B9 B8.length B' at NS;subst NS;by_cases aJ:k < s.log.length
     ·obtain ⟨cr,ok,UD,rfl,bQ,au,aM,-⟩:=dd tx.1 sl k aJ (by decide)
      rw [show s.log.getD k sl=eh s.log k from rfl] at au;obtain ⟨zB,f9,yD,f10,rfl,-,hh,-,fi⟩:=Bz au;have cJ:=am aM;have JI:=am hh;have K5:=am fi
      have JM:eh s.log k ∈ s.log:=by
       have:eh s.log k=s.log[k]:=by simp [eh,aJ]
       rw [this];exact List.getElem_mem aJ
      have IS:=am (HM _ JM).1;have JJ:=am (HM _ JM).2;have kT:=am ab.1.size;have Dk:=am bd.1.dk;have oO:=am (And.intro (dK eH.1) (And.intro (dK fT.1) (dK eZ.1)));have IT:av (s.log.take (k+1)=B8 ++ [eh s.log k]):=⟨by rw [jf.1,List.take_succ_eq_append_getElem aJ];simp [eh,aJ]⟩;have bz:(0:Int)<=(k:Int):=by omega
      have b7:(k:Int) < (s.log.length:Int):=by omega
      clear aM au bQ hh fi J JM
      go_wp2_with (first
      |((with_reducible refine aQ 64 ?_);refine c4 cr (ok+k*6) (fun j u hu=>dD ab.1 (cJ.1 j u hu)) ?_)
      |((with_reducible refine aQ 7 ?_);refine hy 105 ?_;intro gt wt dM D8 dF)
      |((with_reducible refine bT 105 7 ?_);refine dG dM ?_;intro wn ad U;have bm:=am ad;have bk:=fq dF D8 U;have cb:=am bk;have GT:=am (Nat.le_of_eq D8.1.symm);have jl:=am (bd.1.dk gt GT.1);have Ac:av (gs ≠ gt):=⟨fun he=>by have h1:=dK eH.1;have ar:=GT.1;omega⟩;have Ad:av (gr ≠ gt):=⟨fun he=>by have h1:=dK fT.1;have ar:=GT.1;omega⟩;have Ae:av (eW ≠ gt):=⟨fun he=>by have h1:=dK eZ.1;have ar:=GT.1;omega⟩;replace bd:=am (bd.1.grow bk);replace ab:=cf ab bk;replace eH:=aV eH bk;replace fT:=aV fT bk;replace eZ:=aV eZ bk;clear h9 hS;have h9:=ae eH;have hS:=ae eZ;have ck:=ae bm;clear ad U bk dM dF)
      |(go_at_call 85;refine (Da zB f9 (eh s.log k).reads _ (Kd.bW JI.1 ab.1) IS.1).mono ?_;rintro e wn ⟨v2,rfl,bp,I⟩;obtain ⟨a9,dO,c'⟩:=Kd.bt bp;subst c';have hi:=am (show cn.aC 52 wn wr.heap.size (fun k=>gt < k) (.slice a9 (eh s.log k).reads.length dO) (eh s.log k).reads from Kd.ft (Kd.cG (Kd.fW bp) (fun k J=>Nat.lt_of_lt_of_le (dK bm.1) J.2.1)) cb.1.size);replace bd:=am (bd.1.grow I);replace ab:=cf ab I;replace cb:=cf cb I;replace eH:=aV eH I;replace fT:=aV fT I;replace eZ:=aV eZ I;replace bm:=aV bm I;clear h9 hS ck;have h9:=ae eH;have hS:=ae eZ;have ck:=ae bm;clear bp I)
      |((with_reducible refine bT 36 68 ?_);refine e9 (u:=.slice a9 (eh s.log k).reads.length dO) rfl rfl _ _ rfl (g:=gt) (off:=3) rfl rfl rfl rfl (by kernel_rfl) ⟨⟨_,by rw [bf bm.1];rfl⟩,iX bm.1 _⟩ ?_;intro wn aH;replace bd:=am (show b8 _ _ _ _ _ _ wn by rw [aH];exact bd.1.cB jl.1 3 (.slice a9 (eh s.log k).reads.length dO));replace ab:=am (show Below w.heap.size w wn by rw [aH];exact jj ab.1 (Nat.le_trans kT.1 GT.1));replace cb:=am (show Below wr.heap.size wr wn by rw [aH];exact jj cb.1 GT.1);have cr:=eA (p:=⟨gt,3,none⟩) eH.1 Ac.1 (.slice a9 (eh s.log k).reads.length dO);rw [<-aH] at cr;replace eH:=am cr;clear cr;have cr:=eA (p:=⟨gt,3,none⟩) fT.1 Ad.1 (.slice a9 (eh s.log k).reads.length dO);rw [<-aH] at cr;replace fT:=am cr;clear cr;have cr:=eA (p:=⟨gt,3,none⟩) eZ.1 Ae.1 (.slice a9 (eh s.log k).reads.length dO);rw [<-aH] at cr;replace eZ:=am cr;clear cr;have cr:=ku bm.1 3 (.slice a9 (eh s.log k).reads.length dO);rw [<-aH] at cr;replace bm:=am (show wn.heap[gt]? = some (.cells #[.int .i64 (eh s.log k).task,.int .i64 (eh s.log k).act,.int .i64 (eh s.log k).bw,.slice a9 (eh s.log k).reads.length dO,.slice yD (eh s.log k).ai.length f10,.int .i64 (eh s.log k).from_] 105 (0,0)) from cr);clear cr;replace hi:=am (show cn.aC 52 wn wr.heap.size (fun k=>gt < k) (.slice a9 (eh s.log k).reads.length dO) (eh s.log k).reads by rw [aH];exact Kd.lp hi.1 (fun k J=>Nat.ne_of_gt J) _);clear aH h9 hS ck;have h9:=ae eH;have hS:=ae eZ;have ck:=ae bm)
      |(go_at_call 85;refine (Da yD f10 (eh s.log k).ai _ (Kd.bW K5.1 ab.1) JJ.1).mono ?_;rintro e wn ⟨v2,rfl,bp,I⟩;obtain ⟨kB,gI,c'⟩:=Kd.bt bp;subst c';have LB:av (∀ g2,(Value.slice a9 (eh s.log k).reads.length dO).ownBlock=some g2->(Value.slice kB (eh s.log k).ai.length gI).ownBlock ≠ some g2):=⟨fun g2 h1 ar=>by have jN:=(fc hi.1 g2 h1).2.2;have a2:=(fc bp g2 ar).2.1;omega⟩;have kA:=am (show cn.aC 52 wn wr.heap.size (fun k=>gt < k) (.slice kB (eh s.log k).ai.length gI) (eh s.log k).ai from Kd.ft (Kd.cG (Kd.fW bp) (fun k J=>Nat.lt_of_lt_of_le (dK bm.1) J.2.1)) cb.1.size);replace bd:=am (bd.1.grow I);replace ab:=cf ab I;replace cb:=cf cb I;replace eH:=aV eH I;replace fT:=aV fT I;replace eZ:=aV eZ I;replace bm:=aV bm I;replace hi:=c9 hi I;clear h9 hS ck;have h9:=ae eH;have hS:=ae eZ;have ck:=ae bm;clear bp I)
      |((with_reducible refine bT 36 72 ?_);refine e9 (u:=.slice kB (eh s.log k).ai.length gI) rfl rfl _ _ rfl (g:=gt) (off:=4) rfl rfl rfl rfl (by kernel_rfl) ⟨⟨_,by rw [bf bm.1];rfl⟩,iX bm.1 _⟩ ?_;intro wn aH;replace bd:=am (show b8 _ _ _ _ _ _ wn by rw [aH];exact bd.1.cB jl.1 4 (.slice kB (eh s.log k).ai.length gI));replace ab:=am (show Below w.heap.size w wn by rw [aH];exact jj ab.1 (Nat.le_trans kT.1 GT.1));replace cb:=am (show Below wr.heap.size wr wn by rw [aH];exact jj cb.1 GT.1);have cr:=eA (p:=⟨gt,4,none⟩) eH.1 Ac.1 (.slice kB (eh s.log k).ai.length gI);rw [<-aH] at cr;replace eH:=am cr;clear cr;have cr:=eA (p:=⟨gt,4,none⟩) fT.1 Ad.1 (.slice kB (eh s.log k).ai.length gI);rw [<-aH] at cr;replace fT:=am cr;clear cr;have cr:=eA (p:=⟨gt,4,none⟩) eZ.1 Ae.1 (.slice kB (eh s.log k).ai.length gI);rw [<-aH] at cr;replace eZ:=am cr;clear cr;have cr:=ku bm.1 4 (.slice kB (eh s.log k).ai.length gI);rw [<-aH] at cr;replace bm:=am (show wn.heap[gt]? = some (.cells #[.int .i64 (eh s.log k).task,.int .i64 (eh s.log k).act,.int .i64 (eh s.log k).bw,.slice a9 (eh s.log k).reads.length dO,.slice kB (eh s.log k).ai.length gI,.int .i64 (eh s.log k).from_] 105 (0,0)) from cr);clear cr;replace hi:=am (show cn.aC 52 wn wr.heap.size (fun k=>gt < k) (.slice a9 (eh s.log k).reads.length dO) (eh s.log k).reads by rw [aH];exact Kd.lp hi.1 (fun k J=>Nat.ne_of_gt J) _);replace kA:=am (show cn.aC 52 wn wr.heap.size (fun k=>gt < k) (.slice kB (eh s.log k).ai.length gI) (eh s.log k).ai by rw [aH];exact Kd.lp kA.1 (fun k J=>Nat.ne_of_gt J) _);clear aH h9 hS ck;have h9:=ae eH;have hS:=ae eZ;have ck:=ae bm)
      |((with_reducible refine aQ 75 ?_);refine c4 gt 0 (fR bm.1) ?_)
      |((with_reducible refine jJ (b:=.append) (xs:=#[.tmp 74,.tmp 76]) rfl ?_);at_builtin;have x7:=Iv (eh s.log k) (Kd.ft (Kd.cG (Kd.fW hi.1) (fun q aF=>(⟨Dk.1 q aF.2.1,aF.2.1⟩:own q=0/\wr.heap.size<=q))) kT.1) (Kd.ft (Kd.cG (Kd.fW kA.1) (fun q aF=>(⟨Dk.1 q aF.2.1,aF.2.1⟩:own q=0/\wr.heap.size<=q))) kT.1);refine Kd.mY hf (w0:=w) w.heap.size rfl (.tmp 74) (.tmp 76) 29 105 (.agg #[.int .i64 0,.int .i64 0,.int .i64 0,.slice none 0 0,.slice none 0 0,.int .i64 0]) 80 rfl Tryz.underlying29 (by kernel_rfl) rfl (by decide) (by decide) (.slice B9 B8.length B') B8 (eh s.log k) [.int .i64 (eh s.log k).task,.int .i64 (eh s.log k).act,.int .i64 (eh s.log k).bw,.slice a9 (eh s.log k).reads.length dO,.slice kB (eh s.log k).ai.length gI,.int .i64 (eh s.log k).from_] (fun q=>own q=4\/(own q=0/\wr.heap.size<=q)) (fun q=>own q=0/\wr.heap.size<=q) rfl rfl x7 (fun q aF=>⟨.inr aF,fun he=>by have h1:own q=4:=bd.1.log.1 q he.symm;omega⟩) (fun q aF=> .inr ⟨bd.1.dk q aF,Nat.le_trans cb.1.size aF⟩) (Kd.cG bd.1.log (fun q aF=> .inl aF)) ab.1 ab.1.size (by rw [iS.1];omega) ?_;intro v1 wn bp I U dy;obtain ⟨j9,q7,qm⟩:=bd.1.L1 (B1:=wr.heap.size) cb.1.size U (log':=s.log.take (k+1)) (fun q aF=>Dk.1 q aF) kT.1 (by rw [IT.1];exact bp);have D9:=am q7;have Dl:av (j9 gs=0/\j9 gr=0/\j9 eW=0):=⟨(qm gs oO.1.1).trans gK.1,(qm gr oO.1.2.1).trans mF.1,(qm eW oO.1.2.2).trans tz.1⟩;have wR:∀ q,own q=0->some q ≠ (Value.slice B9 B8.length B').ownBlock:=fun q aF he=>(by have h1:own q=4:=bd.1.log.1 q he.symm;rw [aF] at h1;cases h1);have AY:=am (eQ eH.1 U (wR gs gK.1));have Fa:=am (eQ fT.1 U (wR gr mF.1));have vc:=am (eQ eZ.1 U (wR eW tz.1));have jc:=am I;have V:=am bp;clear bd ab cb eH fT eZ bm ck h9 hS hi kA x7 q7 qm bp I U dy wR;have hS:=ae vc;have h9:=ae AY)
      |((with_reducible refine bT 29 78 ?_);refine e9 (u:=v1) rfl rfl _ _ rfl (g:=eW) (off:=3) rfl rfl (qA V.1) (qF V.1) (by kernel_rfl) ⟨⟨_,by rw [bf vc.1];rfl⟩,iX vc.1 _⟩ ?_;intro bV aH;have cr:=ku vc.1 3 v1;rw [<-aH] at cr;have eZ:=am (show bV.heap[eW]? = some (.cells #[.slice ek s.cells.length k8,.slice yB s.tasks.length yC,.int .i64 s.clock,v1] 31 (0,0)) from cr);have gJ:=eA (p:=⟨eW,3,none⟩) AY.1 zA.1 v1;rw [<-aH] at gJ;have eH:=am gJ;have ya:=eA (p:=⟨eW,3,none⟩) Fa.1 IQ.1 v1;rw [<-aH] at ya;have fT:=am ya;have bd:=am (show b8 _ _ _ _ _ _ bV by rw [aH];exact D9.1.cB Dl.1.2.2 3 v1);have ab:=am (show Below w.heap.size w bV by rw [aH];exact jj jc.1 zz.1);clear cr gJ ya aH vc AY Fa D9 jc V hS h9;have h9:=ae eH;have hS:=ae eZ))
      go_roundw
      case rel=>exact ⟨k+1,by omega,by go_num,_,v1,bd,eZ,eH,fT,ab,Dl⟩
      case measure=>simp [intOf];omega
     ·obtain rfl:k=s.log.length:=by omega
      have UG:=am (show b8 w.heap.size own s (.slice ek s.cells.length k8) (.slice yB s.tasks.length yC) (.slice B9 s.log.length B') wr by have h:=bd.1;rw [jf.1,List.take_length] at h;exact h);have PZ:av (wr.heap[eW]? = some (.cells #[.slice ek s.cells.length k8,.slice yB s.tasks.length yC,.int .i64 s.clock,.slice B9 s.log.length B'] 31 (0,0))):=⟨by have h:=eZ.1;rw [jf.1,List.take_length] at h;exact h⟩;clear bd eZ hS;have hS:=ae PZ
      go_wp2_with (first
      |((with_reducible refine aQ 79 ?_);refine c4 eW 0 (fR PZ.1) ?_)
      |((with_reducible refine bT 31 2 ?_);refine dG fT ?_;intro bV ad U;have UH:=am ad;have G9:=am (UG.1.move U.size (fun q aF ak=>U.block q ak (fun he=>by injection he with he;rw [he] at aF;exact aF mF.1)));have n2:=am (mA ab.1 _ ab.1.size U (fun z aX=>by cases aX;exact tA.1));clear ad U))
      exact bodyPost_ret (sx Tryz.results56 (.cell gr 31 #[.slice ek s.cells.length k8,.slice yB s.tasks.length yC,.int .i64 s.clock,.slice B9 s.log.length B'] (0,0) _ rfl UH.1 Tryz.underlying31 rfl (by kernel_rfl) .nil)) rfl ⟨own,_,_,_,rfl,G9.1,n2.1⟩
theorem b8.Xa {w0:World} {own:Nat->Nat} {p:Prog} {s:Sys} {bh a8 aG aZ aP:Value} {W:World} {g:Nat} (h:b8 w0.heap.size own s aG aZ aP W) (I:Below w0.heap.size w0 W) (aB:cN.K w0 p [bh,a8]) (U:own g=0) (ak:w0.heap.size<=g) (iC:W.heap[g]? = some (.cells #[bh,a8,aG,aZ,.int .i64 s.clock,aP] 88 (0,0))):
  ∃ own',bI 88 w0 g own' bh a8 p s aG aZ aP W/\∀ k,k ≠ g->own' k=own k:=by
 have lk:∀ k,k ≠ g->ef own (some g) 1 k=own k:=fun k J=>gv (fun he=>J (by injection he with he;exact he.symm))
 have h1:=h.rn (own':=ef own (some g) 1) (fun k J=>(lk k (by omega)).trans (h.low k J)) (fun k J=>(lk k (by have:=dK iC;omega)).trans (h.dk k J)) (fun k J=>lk k (fun he=>J (by rw [he];exact U)));exact ⟨ef own (some g) 1,⟨I,h1.low,h1.dk,aB,iW rfl,iC,h1.cells,h1.tasks,h1.fj,h1.log⟩,lk⟩
theorem Xb {W:World} {g:Nat} {a0 jN a2 a3 a4 vF b2 b3 b4 b5:Value} {T:TypeId} (h:W.heap[g]? = some (.cells #[a0,jN,a2,a3,a4,vF] T (0,0))):
  (W.setCells g 2 [b2,b3,b4,b5]).heap[g]? = some (.cells #[a0,jN,b2,b3,b4,b5] T (0,0))/\(∀ q,q ≠ g->(W.setCells g 2 [b2,b3,b4,b5]).heap[q]? = W.heap[q]?)/\(W.setCells g 2 [b2,b3,b4,b5]).heap.size=W.heap.size:=by
 refine ⟨?_,fun q aF=>pn _ _ q aF,(pV g _ _ W).2.2.2⟩
 have:=ku (ku (ku (ku h 2 b2) 3 b3) 4 b4) 5 b5
 simpa [World.setCells] using this
theorem Fb {W:World} {g:Nat} {a0 jN a2 a3 a4 vF:Value} {T:TypeId} (h:W.heap[g]? = some (.cells #[a0,jN,a2,a3,a4,vF] T (0,0))) {j:Nat} {u:Value} (hu: [a2,a3,a4,vF][j]? = some u):W.cell? ⟨g,2+j,none⟩=some u:=by
 rw [bf h (2+j)]
 match j,hu with
 | 0,hu=>exact hu
 | 1,hu=>exact hu
 | 2,hu=>exact hu
 | 3,hu=>exact hu
theorem aah {w W:World} {g o:Nat} {l:List Value} (h:Below w.heap.size w W) (U:w.heap.size<=g):Below w.heap.size w (W.setCells g o l):=by
 obtain ⟨s1,s2,ec,gx⟩:=pV g l o W;exact ⟨s1.trans h.os,s2.trans h.tape,ec.trans h.output,by rw [gx];exact h.size,fun k J=>(pn l _ k (by omega)).trans (h.block k J)⟩
theorem MD {N:Nat} (p:Prog) (s:Sys) (ju cs:List Value) (task:Int) (w:World) (aB:cN.K w p ju) (hs:cS.K w s cs) (hinv:Inv p s N) (cz:N<=1048576):
  Calls Tryz.prog 52 #[.agg ju.toArray,.agg cs.toArray,.int .i64 task] w fun e af=>∃ gN,e= .returned (.tuple #[.agg gN.toArray,.bool (jY s task)])/\Below w.heap.size w af/\
   ((jY s task=false/\gN=cs)\/(jY s task=true/\∃ own aG aZ aP,gN= [aG,aZ,.int .i64 (step p s task.toNat).clock,aP]/\b8 w.heap.size own (step p s task.toNat) aG aZ aP af)):=by
 have cR:=am aB;have c8:=am hs;obtain ⟨ek,ey,g0,er,rfl,-⟩:=jk aB;obtain ⟨cX,bL,dX,cu,cU,bO,rfl,-⟩:=gX hs;have aS:s.tasks.length<=1048576:=Nat.le_trans hinv.many cz;have hm:s.cells.length<=1048576:=Nat.le_trans hinv.sz (by decide);have ak:s.log.length<=1048576:=by have:=hinv.room;omega
 have UI:av (∀ i,i < s.tasks.length->(aD s.tasks i).aL.length<=1048576/\(aD s.tasks i).bE.length<=1048576/\(aD s.tasks i).reads.length<=1048576/\(aD s.tasks i).ai.length<=1048576):=⟨fun i aa=>⟨by rw [show (aD s.tasks i).aL.length=3 from (hinv.task i aa).aL.len];decide,by rw [show (aD s.tasks i).bE.length=3 from (hinv.task i aa).bE.len];decide,Nat.le_trans (hinv.reads aa) (by decide),Nat.le_trans (hinv.ai aa) (by decide)⟩⟩;have JN:av (∀ e ∈ s.log,e.reads.length<=1048576/\e.ai.length<=1048576):=⟨fun e he=>⟨Nat.le_trans (hinv.kX e he).1 (by decide),Nat.le_trans (hinv.kX e he).2 (by decide)⟩⟩;clear aB hs;go_enter Tryz.func52,Tryz.ntmps52;by_cases iQ:0<=task/\task<=(s.tasks.length:Int) - 1
 ·have eS:av ((decide ((0:Int)<=task) && decide (task<=(s.tasks.length:Int) - 1))=true):=⟨by simp [iQ]⟩
  obtain ⟨i,UJ⟩:=Int.eq_ofNat_of_zero_le iQ.1;subst UJ;have aa:i < s.tasks.length:=by omega
  clear iQ
  cases ao:ready s i with
  | false=>
   have cb:=am ao;have cl:av (jY s (i:Int)=false):=⟨by unfold jY;rw [Int.toNat_natCast,ao,Bool.and_false]⟩;clear ao
   go_wp2_with (first
   |((with_reducible refine aQ 3 ?_);refine b6 26 ?_;intro de U wn ad I;have NT:=am (show w.heap.size<=de from Nat.le_of_eq U.symm);have aj:=am ad;have ab:=am I;clear ad I U;have a5:=ae aj)
   |((with_reducible refine aQ 4 ?_);refine b6 31 ?_;intro gs U wn ad I;have NU:=am (show w.heap.size<=gs from Nat.le_trans ab.1.size (Nat.le_of_eq U.symm));have al:=am ad;replace aj:=aV aj I;replace ab:=cf ab I;clear ad I U;have a5:=ae aj;have bg:=ae al)
   |((with_reducible refine aQ 6 ?_);refine b6 31 ?_;intro gr U wn ad I;have Ea:=am (show w.heap.size<=gr from Nat.le_trans ab.1.size (Nat.le_of_eq U.symm));have dc:=am ad;replace aj:=aV aj I;replace al:=aV al I;replace ab:=cf ab I;clear ad I U;have a5:=ae aj;have bg:=ae al;have gQ:=ae dc)
   |((with_reducible refine aQ 9 ?_);refine c4 de 0 (fR aj.1) ?_)
   |((with_reducible refine aQ 10 ?_);refine c4 gs 0 (fR al.1) ?_)
   |((with_reducible refine aQ 12 ?_);refine b6 88 ?_;intro g U wn ad I;have Eb:=am (show gr ≠ g from fun he=>by have h1:=dK dc.1;omega);have Gw:=am (show w.heap.size<=g from Nat.le_trans ab.1.size (Nat.le_of_eq U.symm));have m4:=am ad;replace aj:=aV aj I;replace al:=aV al I;replace dc:=aV dc I;replace ab:=cf ab I;clear ad I U;have a5:=ae aj;have bg:=ae al;have gQ:=ae dc;have s6:=ae m4)
   |(go_at_call 48;refine (fm _ _ _ _).mono ?_;rw [eS.1];rintro e b9 ⟨rfl,rfl⟩)
   |(go_at_call 58;refine (IC i _ (⟨m4.1,cN.bH ab.1 cR.1,cS.bH ab.1 c8.1⟩:vA g _ _ p s _ _ _ _) aa aS).mono ?_;rw [cb.1];rintro e b9 ⟨rfl,I⟩;replace aj:=aV aj I;replace al:=aV al I;replace dc:=aV dc I;replace m4:=aV m4 I;replace ab:=cf ab I;clear I a5 bg gQ s6;have a5:=ae aj;have bg:=ae al;have gQ:=ae dc;have s6:=ae m4)
   |((with_reducible refine aQ 26 ?_);refine c4 gs 0 (fR al.1) ?_)
   |((with_reducible refine bT 31 6 ?_);refine dG dc ?_;intro bV ad U;have ax:=am ad;have n2:=am (mA ab.1 _ ab.1.size U (fun z aX=>by cases aX;exact Ea.1));clear ad U))
   exact bodyPost_ret (nK Tryz.results52 _ bV gr 31 #[.slice cX s.cells.length bL,.slice dX s.tasks.length cu,.int .i64 s.clock,.slice cU s.log.length bO] (0,0) _ rfl ax.1 Tryz.underlying31 rfl (by kernel_rfl)) rfl ⟨_,by rw [cl.1];rfl,n2.1,.inl ⟨cl.1,rfl⟩⟩
  | true=>
   have cb:=am ao;have cl:av (jY s (i:Int)=true):=⟨by unfold jY;rw [Int.toNat_natCast,ao,Bool.and_true,e0];omega⟩;clear ao
   go_wp2_with (first
   |((with_reducible refine aQ 3 ?_);refine b6 26 ?_;intro de U wn ad I;have NT:=am (show w.heap.size<=de from Nat.le_of_eq U.symm);have aj:=am ad;have ab:=am I;clear ad I U;have a5:=ae aj)
   |((with_reducible refine aQ 4 ?_);refine b6 31 ?_;intro gs U wn ad I;have NU:=am (show w.heap.size<=gs from Nat.le_trans ab.1.size (Nat.le_of_eq U.symm));have al:=am ad;replace aj:=aV aj I;replace ab:=cf ab I;clear ad I U;have a5:=ae aj;have bg:=ae al)
   |((with_reducible refine aQ 6 ?_);refine b6 31 ?_;intro gr U wn ad I;have Ea:=am (show w.heap.size<=gr from Nat.le_trans ab.1.size (Nat.le_of_eq U.symm));have dc:=am ad;replace aj:=aV aj I;replace al:=aV al I;replace ab:=cf ab I;clear ad I U;have a5:=ae aj;have bg:=ae al;have gQ:=ae dc)
   |((with_reducible refine aQ 9 ?_);refine c4 de 0 (fR aj.1) ?_)
   |((with_reducible refine aQ 10 ?_);refine c4 gs 0 (fR al.1) ?_)
   |((with_reducible refine aQ 12 ?_);refine b6 88 ?_;intro g U wn ad I;have Eb:=am (show gr ≠ g from fun he=>by have h1:=dK dc.1;omega);have Gw:=am (show w.heap.size<=g from Nat.le_trans ab.1.size (Nat.le_of_eq U.symm));have m4:=am ad;replace aj:=aV aj I;replace al:=aV al I;replace dc:=aV dc I;replace ab:=cf ab I;clear ad I U;have a5:=ae aj;have bg:=ae al;have gQ:=ae dc;have s6:=ae m4)
   |(go_at_call 48;refine (fm _ _ _ _).mono ?_;rw [eS.1];rintro e b9 ⟨rfl,rfl⟩)
   |(go_at_call 58;refine (IC i _ (⟨m4.1,cN.bH ab.1 cR.1,cS.bH ab.1 c8.1⟩:vA g _ _ p s _ _ _ _) aa aS).mono ?_;rw [cb.1];rintro e b9 ⟨rfl,I⟩;replace aj:=aV aj I;replace al:=aV al I;replace dc:=aV dc I;replace m4:=aV m4 I;replace ab:=cf ab I;clear I a5 bg gQ s6;have a5:=ae aj;have bg:=ae al;have gQ:=ae dc;have s6:=ae m4)
   |((with_reducible refine aQ 28 ?_);refine c4 gs 0 (fR al.1) ?_)
   |(go_at_call 56;refine (SY s [.slice cX s.cells.length bL,.slice dX s.tasks.length cu,.int .i64 s.clock,.slice cU s.log.length bO] _ (cS.bH ab.1 c8.1) aS hm ak UI.1 JN.1).mono ?_;rintro e b9 ⟨dr,aG,aZ,aP,rfl,iA,I⟩;obtain ⟨wS,dP,b1⟩:=Kd.bt iA.cells;obtain ⟨yb,ps,eg⟩:=Kd.bt iA.tasks;obtain ⟨yc,qH,eL⟩:=Kd.bt iA.log;rw [fH] at eg;subst b1 eg eL;have im:=am (iA.low g (dK m4.1));have mF:=am (iA.low gr (dK dc.1));have acV:av (gr ≠ g):=⟨fun he=>Eb.1 he⟩;have bd:=am (iA.lower ab.1.size);replace aj:=aV aj I;replace al:=aV al I;replace dc:=aV dc I;replace m4:=aV m4 I;replace ab:=cf ab I;clear I iA a5 bg gQ s6;have a5:=ae aj;have bg:=ae al;have gQ:=ae dc;have s6:=ae m4)
   |((with_reducible refine bT 31 31 ?_);refine H0 rfl rfl _ _ rfl (g:=g) (off:=2) rfl [.slice wS s.cells.length dP,.slice yb s.tasks.length ps,.int .i64 s.clock,.slice yc s.log.length qH] rfl (by kernel_rfl) (oI rfl) (fun j aI=>⟨by rw [bf m4.1];have UK:j < 4:=aI;match j,UK with | 0,_=>rfl | 1,_=>rfl | 2,_=>rfl | 3,_=>rfl,iX m4.1 _⟩) ?_;intro wn aH;obtain ⟨aU,a1,dz⟩:=Xb (b2:=.slice wS s.cells.length dP) (b3:=.slice yb s.tasks.length ps) (b4:=.int .i64 s.clock) (b5:=.slice yc s.log.length qH) m4.1;rw [<-aH] at aU a1 dz;have JO:=am aU;have nx:=am (bd.1.move (Nat.le_of_eq dz.symm) (fun q aF _=>a1 q (fun he=>by rw [he] at aF;exact aF im.1)));have JP:=am ((a1 gr Eb.1).trans dc.1);have cF:=am (show Below w.heap.size w wn by rw [aH];exact aah ab.1 Gw.1);obtain ⟨l0,ja,NV⟩:=nx.1.Xa cF.1 cR.1 im.1 Gw.1 JO.1;have NW:=am ((NV gr Eb.1).trans mF.1);have H:=am ja;have sy:=am (dK JP.1);clear aU a1 dz aH ja NV m4 dc aj al ab bd a5 bg gQ s6 nx;have s6:=ae JO)
   |(go_at_call 74;refine (aaP i _ H.1 hinv cz aa cb.1).mono ?_;rintro e b9 ⟨rfl,c1,Af,ui,h1,f1⟩;obtain ⟨UL,UM,eg⟩:=h1.FI;obtain ⟨UN,Ec,eL⟩:=h1.hV;subst eg eL;have UO:=am ((f1.block gr sy.1 NW.1).trans JP.1);have UP:=am (f1.lo gr sy.1 NW.1);obtain ⟨bs,uj⟩:∃ x,x=step p s i:=⟨_,rfl⟩;rw [<-uj] at h1;have Ed:=am uj;have gE:=am h1;clear h1 f1 uj H JP JO s6;have s6:=bf gE.1.bB)
   |((with_reducible refine aQ 38 ?_);refine c4 g 2 (fun j u hu=>Fb gE.1.bB hu) ?_)
   |((with_reducible refine bT 31 6 ?_);refine dG UO ?_;intro bV ad U;have ax:=am ad;have cK:=am (gE.1.Th.move U.size (fun q aF ak=>U.block q ak (fun he=>by injection he with he;rw [he] at aF;exact aF UP.1)));have n2:=am (mA gE.1.below _ gE.1.below.size U (fun z aX=>by cases aX;exact Ea.1));clear ad U))
   exact bodyPost_ret (nK Tryz.results52 _ bV gr 31 #[.slice wS s.cells.length dP,.slice UL bs.tasks.length UM,.int .i64 bs.clock,.slice UN bs.log.length Ec] (0,0) _ rfl ax.1 Tryz.underlying31 rfl (by kernel_rfl)) rfl ⟨_,by rw [cl.1];rfl,n2.1,.inr ⟨cl.1,c1,_,_,_,by rw [Int.toNat_natCast,<-Ed.1],by rw [Int.toNat_natCast,<-Ed.1];exact cK.1⟩⟩
 ·have eS:av ((decide ((0:Int)<=task) && decide (task<=(s.tasks.length:Int) - 1))=false):=⟨by
   rw [Bool.eq_false_iff];intro h;simp at h;omega⟩
  have cl:av (jY s task=false):=⟨by unfold jY;rw [show bF task 0 ((s.tasks.length:Int) - 1)=false from eS.1,Bool.false_and]⟩;clear iQ
  go_wp2_with (first
  |((with_reducible refine aQ 3 ?_);refine b6 26 ?_;intro de U wn ad I;have NT:=am (show w.heap.size<=de from Nat.le_of_eq U.symm);have aj:=am ad;have ab:=am I;clear ad I U;have a5:=ae aj)
  |((with_reducible refine aQ 4 ?_);refine b6 31 ?_;intro gs U wn ad I;have NU:=am (show w.heap.size<=gs from Nat.le_trans ab.1.size (Nat.le_of_eq U.symm));have al:=am ad;replace aj:=aV aj I;replace ab:=cf ab I;clear ad I U;have a5:=ae aj;have bg:=ae al)
  |((with_reducible refine aQ 6 ?_);refine b6 31 ?_;intro gr U wn ad I;have Ea:=am (show w.heap.size<=gr from Nat.le_trans ab.1.size (Nat.le_of_eq U.symm));have dc:=am ad;replace aj:=aV aj I;replace al:=aV al I;replace ab:=cf ab I;clear ad I U;have a5:=ae aj;have bg:=ae al;have gQ:=ae dc)
  |((with_reducible refine aQ 9 ?_);refine c4 de 0 (fR aj.1) ?_)
  |((with_reducible refine aQ 10 ?_);refine c4 gs 0 (fR al.1) ?_)
  |((with_reducible refine aQ 12 ?_);refine b6 88 ?_;intro g U wn ad I;have Eb:=am (show gr ≠ g from fun he=>by have h1:=dK dc.1;omega);have Gw:=am (show w.heap.size<=g from Nat.le_trans ab.1.size (Nat.le_of_eq U.symm));have m4:=am ad;replace aj:=aV aj I;replace al:=aV al I;replace dc:=aV dc I;replace ab:=cf ab I;clear ad I U;have a5:=ae aj;have bg:=ae al;have gQ:=ae dc;have s6:=ae m4)
  |(go_at_call 48;refine (fm _ _ _ _).mono ?_;rw [eS.1];rintro e b9 ⟨rfl,rfl⟩)
  |((with_reducible refine aQ 26 ?_);refine c4 gs 0 (fR al.1) ?_)
  |((with_reducible refine bT 31 6 ?_);refine dG dc ?_;intro bV ad U;have ax:=am ad;have n2:=am (mA ab.1 _ ab.1.size U (fun z aX=>by cases aX;exact Ea.1));clear ad U))
  exact bodyPost_ret (nK Tryz.results52 _ bV gr 31 #[.slice cX s.cells.length bL,.slice dX s.tasks.length cu,.int .i64 s.clock,.slice cU s.log.length bO] (0,0) _ rfl ax.1 Tryz.underlying31 rfl (by kernel_rfl)) rfl ⟨_,by rw [cl.1];rfl,n2.1,.inl ⟨cl.1,rfl⟩⟩
end Go.Proofs.YteajdhhmkjblnaaGreatDoor.Eq
namespace Go.Proofs.YteajdhhmkjblnaaGreatDoor.Eq
theorem sumL_take {α:Type} (f:α->Nat) (d:α) (l:List α) {k:Nat} (h:k < l.length):eP f (l.take (k+1))=eP f (l.take k)+f (l.getD k d):=by
 rw [List.take_succ_eq_append_getElem h,MB];simp [eP,h]
theorem sumL_congr {α:Type} {f g:α->Nat}:∀ {l:List α},(∀ a ∈ l,f a=g a)->eP f l=eP g l
 | [],_=>rfl
 | a :: l,h=>by
  unfold eP;rw [h a (by simp),sumL_congr (fun b I=>h b (by simp [I]))]
theorem sumL_le {α:Type} {f:α->Nat} {m:Nat}:∀ {l:List α},(∀ a ∈ l,f a<=m)->eP f l<=l.length*m
 | [],_=>by simp [eP]
 | a :: l,h=>by
  have h1:=h a (by simp);have ar:=sumL_le (l:=l) (fun b I=>h b (by simp [I]));simp only [eP,List.length_cons,Nat.add_mul,Nat.one_mul];omega
theorem act_mem {p:Prog} (h:ia p=true) {b:Int} (I:0<=b/\b < p.an.length) {a:Act} (ha:a ∈ bo p.an b.toNat):dT p.cells.length p.an.length b a=true:=by
 obtain ⟨k,J,rfl⟩:=List.mem_iff_getElem.1 ha
 have:=wz h I J
 simpa [actAt,J] using this
theorem kid_behind {p:Prog} (h:ia p=true) {b:Int} (I:0<=b/\b < p.an.length) {a:Act} (ha:a ∈ bo p.an b.toNat):a.kids.length<=2/\∀ k ∈ a.kids,b+1<=k/\k < p.an.length:=by
 have c7:=act_mem h I ha;by_cases ar:a.kind=2
 ·obtain ⟨aA,_,bR⟩:=F5 c7 ar
  refine ⟨aA,fun k J=> ?_⟩;obtain ⟨j,aI,rfl⟩:=List.mem_iff_getElem.1 J;have:=bR j aI;simp only [cC,List.getD_eq_getElem?_getD,List.getElem?_eq_getElem aI,Option.getD_some] at this;omega
 ·have:a.kids= []:=by
   unfold dT at c7;split at c7
   ·cases c7
   ·rename_i aS
    exact Classical.byContradiction fun cm=>aS (.inr (.inl ⟨ar,cm⟩))
  rw [this];exact ⟨by simp,fun k J=>by simp at J⟩
theorem treeN_more {p:Prog} (h:ia p=true):∀ (n:Nat) (b:Int),0<=b->b < p.an.length->(p.an.length:Int) - b<=n->treeN p.an (n+1) b=treeN p.an n b
 | 0,b,aq,h1,aS=>by omega
 | n+1,b,aq,h1,aS=>by
  rw [treeN,treeN]
  congr 1
  refine sumL_congr fun a ha=>sumL_congr fun k J=> ?_
  have:=(kid_behind h ⟨aq,h1⟩ ha).2 k J
  exact treeN_more h n k (by omega) (by omega) (by omega)
theorem treeOf_eq {p:Prog} (h:ia p=true) {b:Int} (aq:0<=b) (h1:b < p.an.length):hz p b=1+eP (fun a:Act=>eP (hz p) a.kids) (bo p.an b.toNat):=by
 have ak:=wE h;unfold hz;rw [<-treeN_more h 4 b aq h1 (by omega),treeN]
def treeMax:Nat->Nat
 | 0=>1
 | n+1=>1+8*treeMax n
theorem treeN_le {p:Prog} (h:ia p=true):∀ (n:Nat) (b:Int),0<=b->b < p.an.length->treeN p.an n b<=treeMax n
 | 0,b,_,_=>Nat.le_refl _
 | n+1,b,aq,h1=>by
  rw [treeN,treeMax];have bR:=Ga h ⟨aq,h1⟩
  have:eP (fun a:Act=>eP (treeN p.an n) a.kids) (bo p.an b.toNat)<=(bo p.an b.toNat).length*(2*treeMax n):=by
   refine sumL_le fun a ha=> ?_
   obtain ⟨ar,aA⟩:=kid_behind h ⟨aq,h1⟩ ha;refine Nat.le_trans (sumL_le (m:=treeMax n) fun k J=>treeN_le h n k (by have:=aA k J;omega) (aA k J).2) ?_;exact Nat.mul_le_mul_right _ ar
  have br:(bo p.an b.toNat).length*(2*treeMax n)<=4*(2*treeMax n):=Nat.mul_le_mul_right _ bR;omega
theorem treeOf_le {p:Prog} (h:ia p=true) {b:Int} (aq:0<=b) (h1:b < p.an.length):hz p b<=4681:=treeN_le h 4 b aq h1
end Go.Proofs.YteajdhhmkjblnaaGreatDoor.Eq
namespace Go.Proofs.YteajdhhmkjblnaaGreatDoor.Eq
open Go.RowKit Go.Proofs.YteajdhhmkjblnaaGreatDoorW.PrintWords Go.Proofs.YteajdhhmkjblnaaGreatDoorW.PrintLast Go.Proofs.YteajdhhmkjblnaaGreatDoorW.PrintMore
theorem abz (d:Deed) (cells:Int) (w:World) (aq:0<=cells) (h1:cells<=1048576):
  Calls Tryz.prog 130 #[.agg #[.int .i64 d.kind,.int .i64 d.a,.int .i64 d.b],.int .i64 cells] w fun e af=>e= .returned (.bool (ff d cells))/\Below w.heap.size w af:=by
 go_enter Tryz.func130,Tryz.ntmps130;obtain ⟨iL,NX⟩:∃ b,bF d.a 0 2=b:=⟨_,rfl⟩;have fK:av ((decide ((0:Int)<=d.a) && decide (d.a<=2))=iL):=⟨NX⟩;clear NX;by_cases aU:d.kind=1
 ·have cg:(d.kind == 1)=true:=by simp [aU]
  have ik:=am aU;clear aU;obtain ⟨l7,ny⟩:∃ b,bF d.b 0 (cells - 1)=b:=⟨_,rfl⟩;have fJ:av ((decide ((0:Int)<=d.b) && decide (d.b<=(cells - 1)))=l7):=⟨ny⟩;clear ny
  cases iL with
  | false=>
   go_wp2_with (first
   |((with_reducible refine aQ 2 ?_);refine b6 62 ?_;intro cQ U b' ad I;have dN:=am ad;have ab:=am I;have aN:=ae dN;clear ad I U)
   |(go_at_call 48;refine (fm _ _ _ _).mono ?_;(first|rw [fK.1] | rw [fJ.1]);rintro e b9 ⟨rfl,rfl⟩))
   go_ret
   have ao:ff d cells=false:=by
    unfold ff;rw [if_pos ik.1,show bF d.a 0 2=false from fK.1,Bool.false_and]
   rw [ao]
   exact ⟨rfl,ab.1⟩
  | true=>
   go_wp2_with (first
   |((with_reducible refine aQ 2 ?_);refine b6 62 ?_;intro cQ U b' ad I;have dN:=am ad;have ab:=am I;have aN:=ae dN;clear ad I U)
   |(go_at_call 48;refine (fm _ _ _ _).mono ?_;(first|rw [fK.1] | rw [fJ.1]);rintro e b9 ⟨rfl,rfl⟩))
   go_ret
   have ao:ff d cells=l7:=by
    unfold ff;rw [if_pos ik.1,show bF d.a 0 2=true from fK.1,show bF d.b 0 (cells - 1)=l7 from fJ.1,Bool.true_and]
   rw [ao];exact ⟨rfl,ab.1⟩
 ·have cg:(d.kind == 1)=false:=by simp [aU]
  have ik:=am aU;clear aU;by_cases a1:d.kind=2
  ·have cO:(d.kind == 2)=true:=by simp [a1]
   have kh:=am a1;clear a1;obtain ⟨BO,bk⟩:∃ b,bF d.a 0 (cells - 1)=b:=⟨_,rfl⟩;have ew:av ((decide ((0:Int)<=d.a) && decide (d.a<=(cells - 1)))=BO):=⟨bk⟩;clear bk;obtain ⟨l7,ny⟩:∃ b,bF d.b 0 2=b:=⟨_,rfl⟩;have fJ:av ((decide ((0:Int)<=d.b) && decide (d.b<=2))=l7):=⟨ny⟩;clear ny
   cases BO with
   | false=>
    go_wp2_with (first
    |((with_reducible refine aQ 2 ?_);refine b6 62 ?_;intro cQ U b' ad I;have dN:=am ad;have ab:=am I;have aN:=ae dN;clear ad I U)
    |(go_at_call 48;refine (fm _ _ _ _).mono ?_;(first|rw [fK.1] | rw [ew.1] | rw [fJ.1]);rintro e b9 ⟨rfl,rfl⟩))
    go_ret
    have ao:ff d cells=false:=by
     unfold ff;rw [if_neg ik.1,if_pos kh.1,show bF d.a 0 (cells - 1)=false from ew.1,Bool.false_and]
    rw [ao]
    exact ⟨rfl,ab.1⟩
   | true=>
    go_wp2_with (first
    |((with_reducible refine aQ 2 ?_);refine b6 62 ?_;intro cQ U b' ad I;have dN:=am ad;have ab:=am I;have aN:=ae dN;clear ad I U)
    |(go_at_call 48;refine (fm _ _ _ _).mono ?_;(first|rw [fK.1] | rw [ew.1] | rw [fJ.1]);rintro e b9 ⟨rfl,rfl⟩))
    go_ret
    have ao:ff d cells=l7:=by
     unfold ff;rw [if_neg ik.1,if_pos kh.1,show bF d.a 0 (cells - 1)=true from ew.1,show bF d.b 0 2=l7 from fJ.1,Bool.true_and]
    rw [ao];exact ⟨rfl,ab.1⟩
  ·have cO:(d.kind == 2)=false:=by simp [a1]
   have kh:=am a1;clear a1;by_cases dz:d.kind=3
   ·have dh:(d.kind == 3)=true:=by simp [dz]
    have nQ:=am dz;clear dz;obtain ⟨l7,ny⟩:∃ b,bF d.b 0 99=b:=⟨_,rfl⟩;have fJ:av ((decide ((0:Int)<=d.b) && decide (d.b<=99))=l7):=⟨ny⟩;clear ny
    cases iL with
    | false=>
     go_wp2_with (first
     |((with_reducible refine aQ 2 ?_);refine b6 62 ?_;intro cQ U b' ad I;have dN:=am ad;have ab:=am I;have aN:=ae dN;clear ad I U)
     |(go_at_call 48;refine (fm _ _ _ _).mono ?_;(first|rw [fK.1] | rw [fJ.1]);rintro e b9 ⟨rfl,rfl⟩))
     go_ret
     have ao:ff d cells=false:=by
      unfold ff;rw [if_neg ik.1,if_neg kh.1,if_pos nQ.1,show bF d.a 0 2=false from fK.1,Bool.false_and]
     rw [ao]
     exact ⟨rfl,ab.1⟩
    | true=>
     go_wp2_with (first
     |((with_reducible refine aQ 2 ?_);refine b6 62 ?_;intro cQ U b' ad I;have dN:=am ad;have ab:=am I;have aN:=ae dN;clear ad I U)
     |(go_at_call 48;refine (fm _ _ _ _).mono ?_;(first|rw [fK.1] | rw [fJ.1]);rintro e b9 ⟨rfl,rfl⟩))
     go_ret
     have ao:ff d cells=l7:=by
      unfold ff;rw [if_neg ik.1,if_neg kh.1,if_pos nQ.1,show bF d.a 0 2=true from fK.1,show bF d.b 0 99=l7 from fJ.1,Bool.true_and]
     rw [ao];exact ⟨rfl,ab.1⟩
   ·have dh:(d.kind == 3)=false:=by simp [dz]
    have nQ:=am dz;clear dz;by_cases g':d.kind=4
    ·have fu:(d.kind == 4)=true:=by simp [g']
     have pv:=am g';clear g';obtain ⟨l7,ny⟩:∃ b,bF d.b 0 2=b:=⟨_,rfl⟩;have fJ:av ((decide ((0:Int)<=d.b) && decide (d.b<=2))=l7):=⟨ny⟩;clear ny
     cases iL with
     | false=>
      go_wp2_with (first
      |((with_reducible refine aQ 2 ?_);refine b6 62 ?_;intro cQ U b' ad I;have dN:=am ad;have ab:=am I;have aN:=ae dN;clear ad I U)
      |(go_at_call 48;refine (fm _ _ _ _).mono ?_;(first|rw [fK.1] | rw [fJ.1]);rintro e b9 ⟨rfl,rfl⟩))
      go_ret
      have ao:ff d cells=false:=by
       unfold ff;rw [if_neg ik.1,if_neg kh.1,if_neg nQ.1,if_pos pv.1,show bF d.a 0 2=false from fK.1,Bool.false_and]
      rw [ao]
      exact ⟨rfl,ab.1⟩
     | true=>
      go_wp2_with (first
      |((with_reducible refine aQ 2 ?_);refine b6 62 ?_;intro cQ U b' ad I;have dN:=am ad;have ab:=am I;have aN:=ae dN;clear ad I U)
      |(go_at_call 48;refine (fm _ _ _ _).mono ?_;(first|rw [fK.1] | rw [fJ.1]);rintro e b9 ⟨rfl,rfl⟩))
      go_ret
      have ao:ff d cells=l7:=by
       unfold ff;rw [if_neg ik.1,if_neg kh.1,if_neg nQ.1,if_pos pv.1,show bF d.a 0 2=true from fK.1,show bF d.b 0 2=l7 from fJ.1,Bool.true_and]
      rw [ao];exact ⟨rfl,ab.1⟩
    ·have fu:(d.kind == 4)=false:=by simp [g']
     have pv:=am g';clear g';by_cases il:d.kind=5
     ·have iH:(d.kind == 5)=true:=by simp [il]
      have ki:=am il;clear il
      cases iL with
      | false=>
       go_wp2_with (first
       |((with_reducible refine aQ 2 ?_);refine b6 62 ?_;intro cQ U b' ad I;have dN:=am ad;have ab:=am I;have aN:=ae dN;clear ad I U)
       |(go_at_call 48;refine (fm _ _ _ _).mono ?_;(first|rw [fK.1]);rintro e b9 ⟨rfl,rfl⟩))
       go_ret
       have ao:ff d cells=false:=by
        unfold ff;rw [if_neg ik.1,if_neg kh.1,if_neg nQ.1,if_neg pv.1,if_pos ki.1,show bF d.a 0 2=false from fK.1,Bool.false_and]
       rw [ao]
       exact ⟨rfl,ab.1⟩
      | true=>
       by_cases z:d.b=0
       ·have Dm:(d.b == 0)=true:=by simp [z]
        have Z:=am z;clear z
        go_wp2_with (first
        |((with_reducible refine aQ 2 ?_);refine b6 62 ?_;intro cQ U b' ad I;have dN:=am ad;have ab:=am I;have aN:=ae dN;clear ad I U)
        |(go_at_call 48;refine (fm _ _ _ _).mono ?_;(first|rw [fK.1]);rintro e b9 ⟨rfl,rfl⟩))
        go_ret
        have ao:ff d cells=true:=by
         unfold ff;rw [if_neg ik.1,if_neg kh.1,if_neg nQ.1,if_neg pv.1,if_pos ki.1,show bF d.a 0 2=true from fK.1,decide_eq_true Z.1,Bool.true_and]
        rw [ao];exact ⟨rfl,ab.1⟩
       ·have Dm:(d.b == 0)=false:=by simp [z]
        have Z:=am z;clear z
        go_wp2_with (first
        |((with_reducible refine aQ 2 ?_);refine b6 62 ?_;intro cQ U b' ad I;have dN:=am ad;have ab:=am I;have aN:=ae dN;clear ad I U)
        |(go_at_call 48;refine (fm _ _ _ _).mono ?_;(first|rw [fK.1]);rintro e b9 ⟨rfl,rfl⟩))
        go_ret
        have ao:ff d cells=false:=by
         unfold ff;rw [if_neg ik.1,if_neg kh.1,if_neg nQ.1,if_neg pv.1,if_pos ki.1,show bF d.a 0 2=true from fK.1,decide_eq_false Z.1,Bool.true_and]
        rw [ao];exact ⟨rfl,ab.1⟩
     ·have iH:(d.kind == 5)=false:=by simp [il]
      have ki:=am il;clear il
      go_wp2_with (first
      |((with_reducible refine aQ 2 ?_);refine b6 62 ?_;intro cQ U b' ad I;have dN:=am ad;have ab:=am I;have aN:=ae dN;clear ad I U)
      |(go_at_call 48;refine (fm _ _ _ _).mono ?_;(first|rw [fK.1]);rintro e b9 ⟨rfl,rfl⟩))
      go_ret
      have ao:ff d cells=false:=by
       unfold ff;rw [if_neg ik.1,if_neg kh.1,if_neg nQ.1,if_neg pv.1,if_neg ki.1]
      rw [ao];exact ⟨rfl,ab.1⟩
theorem abA (A:Option Addr) (c:Nat) (aY:List Int) (body an:Int) (w:World) (az:(Kd.int .i64).C w A aY.length aY) (aS:aY.length<=1048576) (aq:0<=body/\body<=1048576) (h1:0<=an/\an<=1048576):
  Calls Tryz.prog 131 #[.slice A aY.length c,.int .i64 body,.int .i64 an] w fun e af=>e= .returned (.bool (qs aY body an))/\w=af:=by
 have ew:=am az;clear az;obtain ⟨JQ,acW⟩:=aq;obtain ⟨e7,acX⟩:=h1;go_enter Tryz.func131,Tryz.ntmps131;go_wp2;go_loopw [7] (fun j af=>∃ k:Nat,k<=aY.length/\j= .int .i64 k/\av (∀ i,i < k->bF (cC aY i) (body+1) (an - 1)=true)/\w=af) (fun j _=>aY.length - (intOf j).toNat)
 case atStart=>exact ⟨0,Nat.zero_le _,rfl,⟨fun i aa=>by omega⟩,rfl⟩
 case round=>
  obtain ⟨k,J,rfl,du,rfl⟩:=hrel;by_cases aJ:k < aY.length
  ·have bz:(0:Int)<=(k:Int):=by omega
   have b7:(k:Int) < (aY.length:Int):=by omega
   obtain ⟨cy,rfl,cL⟩:=Kd.kG ew.1 (k:Int) bz b7;simp only [Int.toNat_natCast] at cL;obtain ⟨x,hG⟩:∃ x,x=cC aY k:=⟨_,rfl⟩;rw [show rd aY (k:Int)=x from hG.symm] at cL;have h7:=am hG;clear hG
   cases I:bF x (body+1) (an - 1) with
   | true=>
    have eS:av ((decide (body+1<=x) && decide (x<=an - 1))=true):=⟨I⟩;clear I;go_wp2_with (first|(go_at_call 48;refine (fm _ _ _ _).mono ?_;(first|rw [eS.1]);rintro e b9 ⟨rfl,rfl⟩))
    go_roundw
    case rel=>exact ⟨k+1,by omega,by go_num,⟨fun i aa=>by rcases Nat.lt_or_ge i k with h | h;exact du.1 i h;obtain rfl:i=k:=(by omega);rw [<-h7.1];exact eS.1⟩,trivial⟩
    case measure=>simp [intOf];omega
   | false=>
    have eS:av ((decide (body+1<=x) && decide (x<=an - 1))=false):=⟨I⟩;clear I;go_wp2_with (first|(go_at_call 48;refine (fm _ _ _ _).mono ?_;(first|rw [eS.1]);rintro e b9 ⟨rfl,rfl⟩))
    go_ret
    have ao:qs aY body an=false:=by
     unfold qs;rw [hK aJ (by rw [<-h7.1];exact eS.1),Bool.false_and]
    rw [ao];exact ⟨rfl,rfl⟩
  ·obtain rfl:k=aY.length:=by omega
   obtain ⟨l7,ny⟩:∃ b,bF (aY.length:Int) 1 2=b:=⟨_,rfl⟩;have eS:av ((decide ((1:Int)<=(aY.length:Int)) && decide ((aY.length:Int)<=2))=l7):=⟨ny⟩;clear ny;go_wp2_with (first|(go_at_call 48;refine (fm _ _ _ _).mono ?_;(first|rw [eS.1]);rintro e b9 ⟨rfl,rfl⟩))
   go_ret
   have ao:qs aY body an=l7:=by
    unfold qs;rw [hv.2 du.1,Bool.true_and];exact eS.1
   rw [ao];exact ⟨rfl,rfl⟩
theorem q8 {q:Prop} (h:q:=by
 go_wp2_with (first
 |((with_reducible refine aQ 3 ?_);refine b6 26 ?_;intro de U w1 ad I;have aj:=am ad;have ab:=am I;have a5:=ae aj;clear ad I U)
 |((with_reducible refine aQ 5 ?_);refine b6 55 ?_;intro ga U b' ad I;have k9:=am ad;replace ab:=cf ab I;replace aj:=aV aj I;clear a5 ad I U;have a5:=ae aj;have uk:=ae k9))
 go_ret;rw [cb.1];exact ⟨rfl,ab.1⟩):q:=h
theorem Sv (p:Prog) (a:Act) (ju sV:List Value) (body:Int) (w:World) (aB:cN.K w p ju) (ha:kAct.K w a sV) (ay:p.cells.length<=1048576) (q9:p.an.length<=1048576) (dE:0<=body) (bZ:body<=1048576) (acY:a.bP.length<=1048576) (r1:a.kids.length<=1048576):
  Calls Tryz.prog 103 #[.agg ju.toArray,.int .i64 body,.agg sV.toArray] w fun e af=>e= .returned (.bool (dT p.cells.length p.an.length body a))/\Below w.heap.size w af:=by
 obtain ⟨ek,ey,g0,er,rfl,-⟩:=jk aB;obtain ⟨eR,ez,eF,eJ,rfl,-,cQ,-,gk⟩:=m0 ha;have s0:=am cQ;have lf:=am gk;clear aB ha cQ gk;go_enter Tryz.func103,Tryz.ntmps103;by_cases fD:a.kind=1
 ·skip
  have gq:(a.kind != 1)=false:=by simp [fD]
  have jm:(a.kind != 2)=true:=by simp [fD]
  have z4:(a.kind != 4)=true:=by simp [fD]
  have cg:(a.kind == 1)=true:=by simp [fD]
  have kM:=am fD;clear fD;by_cases j0:a.kids= []
  ·have Bi:decide (0 < a.kids.length)=false:=by rw [j0];rfl
   have sm:decide (0 < (a.kids.length:Int))=false:=by rw [j0];rfl
   have pQ:=am j0;clear j0;by_cases dZ:a.eY=0
   ·have Bb:(a.eY != 0)=false:=by simp [dZ]
    have pN:=am dZ;clear dZ
    go_wp2_with (first
    |((with_reducible refine aQ 3 ?_);refine b6 26 ?_;intro de U w1 ad I;have aj:=am ad;have ab:=am I;have a5:=ae aj;clear ad I U)
    |((with_reducible refine aQ 5 ?_);refine b6 55 ?_;intro ga U b' ad I;have k9:=am ad;replace ab:=cf ab I;replace aj:=aV aj I;clear a5 ad I U;have a5:=ae aj;have uk:=ae k9))
    go_loopw [7] (fun j af=>∃ k:Nat,k<=a.bP.length/\j= .int .i64 k/\av (∀ i,i < k->ff (mX a.bP i) p.cells.length=true)/\av (af.heap[de]? = some (.cells #[.slice ek p.cells.length ey,.slice g0 p.an.length er] 26 (0,0)))/\av (af.heap[ga]? = some (.cells #[.int .i64 a.kind,.slice eR a.bP.length ez,.slice eF a.kids.length eJ,.int .i64 a.eY] 55 (0,0)))/\av (Below w.heap.size w af)) (fun j _=>a.bP.length - (intOf j).toNat)
    case atStart=>exact ⟨0,Nat.zero_le _,rfl,⟨fun i aa=>by omega⟩,aj,k9,ab⟩
    case round=>
     clear aj k9 ab a5 uk;obtain ⟨k,J,rfl,du,aj,k9,ab⟩:=hrel;have a5:=ae aj;have uk:=ae k9;by_cases aJ:k < a.bP.length
     ·obtain ⟨hx,p0,cs,rfl,bQ,au,aM,-⟩:=dd s0.1 vn k aJ (by decide)
      obtain ⟨d,aO⟩:∃ d,d=mX a.bP k:=⟨_,rfl⟩;rw [show a.bP.getD k vn=d from aO.symm] at au;have e:=C5 au;subst e;have eT:=aM 0 _ rfl;have iq:=aM 1 _ rfl;have c3:=aM 2 _ rfl;simp only [show kDeed.bD=3 from rfl,Nat.add_zero] at eT iq c3;have Tl:=am eT;have Tm:=am iq;have Tn:=am c3;have MY:=am aO;have bz:(0:Int)<=(k:Int):=by omega
      have b7:(k:Int) < (a.bP.length:Int):=by omega
      clear aM au bQ aO eT iq c3;obtain ⟨UQ,NY⟩:∃ x,ff d p.cells.length=x:=⟨_,rfl⟩;have ag:=am NY;clear NY;go_wp2;refine kO (n:=10) (S:=fun W=>W.heap[de]? = some (.cells #[.slice ek p.cells.length ey,.slice g0 p.an.length er] 26 (0,0))/\W.heap[ga]? = some (.cells #[.int .i64 a.kind,.slice (some ⟨hx,p0,none⟩) a.bP.length ez,.slice eF a.kids.length eJ,.int .i64 a.eY] 55 (0,0))/\W.cell? ⟨hx,p0+k*3,none⟩=some (.int .i64 d.kind)/\W.cell? ⟨hx,p0+k*3+1,none⟩=some (.int .i64 d.a)/\W.cell? ⟨hx,p0+k*3+2,none⟩=some (.int .i64 d.b)) (ds:= []) (by kernel_rfl) rfl ⟨gW aj.1,gW k9.1,(show wr.cell? ⟨hx,p0+k*3,none⟩=_ from dD ab.1 Tl.1),(show wr.cell? ⟨hx,p0+k*3+1,none⟩=_ from dD ab.1 Tm.1),(show wr.cell? ⟨hx,p0+k*3+2,none⟩=_ from dD ab.1 Tn.1)⟩ (fun aK=> ?_);have I:=ei (Below.refl wr.heap.size wr);generalize wr.drew=fN at I aK ⊢;have iy:=cf ab I;clear I ab aj k9 a5 uk;refine hn 2 8 [0,1,2,3,4,5,6,7] aK ?_
      iterate 8 (refine hR rfl (by rintro W ⟨bU,s2,ec,gx,m5⟩;have t0:=bf bU;have t2:=bf s2;clear bU s2;go_simp;with_reducible rfl) ?_)
      refine bN ?_;refine fs 8 (some 57) (fun K au=> ?_);refine kW Tryz.func130 #[.agg #[.int .i64 d.kind,.int .i64 d.a,.int .i64 d.b],.int .i64 p.cells.length] ?_;refine (abz d p.cells.length _ (by omega) (by omega)).mono ?_;rw [ag.1];rintro e wn ⟨rfl,I⟩;refine ⟨_,rfl, ?_⟩;refine au.out _ _ ⟨fS aK.1 I,fS aK.2.1 I,dD I aK.2.2.1,dD I aK.2.2.2.1,dD I aK.2.2.2.2⟩ (fun aK=>e8 ?_);clear au K
      have ab:=cf iy I;refine hn 0 1 [9] aK ?_
      iterate 1 (refine hR rfl (by intro W fx;go_simp;with_reducible rfl) ?_)
      refine bN ?_;have aj:=am aK.1;have k9:=am aK.2.1;clear aK iy I;have a5:=ae aj;have uk:=ae k9;refine xH (by kernel_rfl) ?_;cases UQ
      case true=>
       go_wp2;go_roundw
       case rel=>exact ⟨k+1,by omega,by go_num,⟨fun i aa=>by rcases Nat.lt_or_ge i k with h | h;exact du.1 i h;obtain rfl:i=k:=(by omega);rw [<-MY.1];exact ag.1⟩,aj,k9,ab⟩
       case measure=>simp [intOf];omega
      case false=>
       go_wp2;go_ret
       have ao:dT p.cells.length p.an.length body a=false:=by
        unfold dT;rw [if_neg (fun h=>by rcases h with h | h | h;exact (fun h=>h.1 kM.1) h;exact (fun h=>h.2 pQ.1) h;exact (fun h=>h.2 pN.1) h),if_pos kM.1];unfold za;rw [hK aJ (by rw [<-MY.1];exact ag.1),Bool.false_and]
       rw [ao];exact ⟨rfl,ab.1⟩
     ·obtain rfl:k=a.bP.length:=by omega
      go_wp2;go_ret
      have ao:dT p.cells.length p.an.length body a=decide ((a.bP.length:Int)<=5):=by
       unfold dT;rw [if_neg (fun h=>by rcases h with h | h | h;exact (fun h=>h.1 kM.1) h;exact (fun h=>h.2 pQ.1) h;exact (fun h=>h.2 pN.1) h),if_pos kM.1];unfold za;rw [hv.2 du.1,Bool.true_and];exact decide_eq_decide.2 (by omega)
      rw [ao];exact ⟨rfl,ab.1⟩
   ·have Bb:(a.eY != 0)=true:=by simp [dZ]
    have pN:=am dZ;clear dZ;have cb:av (dT p.cells.length p.an.length body a=false):=⟨by unfold dT;rw [if_pos (.inr (.inr ⟨(by have:=kM.1;omega),pN.1⟩))]⟩;exact q8
  ·have qq:=List.length_pos_iff.2 j0
   have Bi:decide (0 < a.kids.length)=true:=decide_eq_true qq;have sm:decide (0 < (a.kids.length:Int))=true:=decide_eq_true (by omega);have pQ:=am j0;clear j0 qq;have cb:av (dT p.cells.length p.an.length body a=false):=⟨by unfold dT;rw [if_pos (.inr (.inl ⟨(by have:=kM.1;omega),pQ.1⟩))]⟩;exact q8
 ·have hq:=fD
  clear fD;by_cases fD:a.kind=2
  ·skip
   have gq:(a.kind != 1)=true:=by simp [fD]
   have jm:(a.kind != 2)=false:=by simp [fD]
   have z4:(a.kind != 4)=true:=by simp [fD]
   have cg:(a.kind == 1)=false:=by simp [fD]
   have cO:(a.kind == 2)=true:=by simp [fD]
   have kM:=am fD;clear fD hq;by_cases j1:a.bP= []
   ·have Bp:decide (0 < a.bP.length)=false:=by rw [j1];rfl
    have tl:decide (0 < (a.bP.length:Int))=false:=by rw [j1];rfl
    have qC:=am j1;clear j1;by_cases dZ:a.eY=0
    ·have Bb:(a.eY != 0)=false:=by simp [dZ]
     have pN:=am dZ;clear dZ;obtain ⟨l7,ny⟩:∃ b,qs a.kids body p.an.length=b:=⟨_,rfl⟩;have fY:=am ny;clear ny
     go_wp2_with (first
     |((with_reducible refine aQ 3 ?_);refine b6 26 ?_;intro de U w1 ad I;have aj:=am ad;have ab:=am I;have a5:=ae aj;clear ad I U)
     |((with_reducible refine aQ 5 ?_);refine b6 55 ?_;intro ga U b' ad I;have k9:=am ad;replace ab:=cf ab I;replace aj:=aV aj I;clear a5 ad I U;have a5:=ae aj;have uk:=ae k9)
     |(go_at_call 131;refine (abA eF eJ a.kids body p.an.length _ (Kd.bW lf.1 ab.1) r1 ⟨dE,bZ⟩ ⟨by omega,by omega⟩).mono ?_;rw [fY.1];rintro e b9 ⟨rfl,rfl⟩))
     go_ret
     have ao:dT p.cells.length p.an.length body a=l7:=by
      unfold dT;rw [if_neg (fun h=>by rcases h with h | h | h;exact (fun h=>h.2 qC.1) h;exact (fun h=>h.1 kM.1) h;exact (fun h=>h.2 pN.1) h),if_neg (by have:=kM.1;omega),if_pos kM.1];exact fY.1
     rw [ao];exact ⟨rfl,ab.1⟩
    ·have Bb:(a.eY != 0)=true:=by simp [dZ]
     have pN:=am dZ;clear dZ;have cb:av (dT p.cells.length p.an.length body a=false):=⟨by unfold dT;rw [if_pos (.inr (.inr ⟨(by have:=kM.1;omega),pN.1⟩))]⟩;exact q8
   ·have qz:=List.length_pos_iff.2 j1
    have Bp:decide (0 < a.bP.length)=true:=decide_eq_true qz;have tl:decide (0 < (a.bP.length:Int))=true:=decide_eq_true (by omega);have qC:=am j1;clear j1 qz;have cb:av (dT p.cells.length p.an.length body a=false):=⟨by unfold dT;rw [if_pos (.inl ⟨(by have:=kM.1;omega),qC.1⟩)]⟩;exact q8
  ·have pZ:=fD
   clear fD;by_cases fD:a.kind=3
   ·skip
    have gq:(a.kind != 1)=true:=by simp [fD]
    have jm:(a.kind != 2)=true:=by simp [fD]
    have z4:(a.kind != 4)=true:=by simp [fD]
    have cg:(a.kind == 1)=false:=by simp [fD]
    have cO:(a.kind == 2)=false:=by simp [fD]
    have dh:(a.kind == 3)=true:=by simp [fD]
    have kM:=am fD;clear fD hq pZ;by_cases j1:a.bP= []
    ·have Bp:decide (0 < a.bP.length)=false:=by rw [j1];rfl
     have tl:decide (0 < (a.bP.length:Int))=false:=by rw [j1];rfl
     have qC:=am j1;clear j1;by_cases j0:a.kids= []
     ·have Bi:decide (0 < a.kids.length)=false:=by rw [j0];rfl
      have sm:decide (0 < (a.kids.length:Int))=false:=by rw [j0];rfl
      have pQ:=am j0;clear j0;by_cases dZ:a.eY=0
      ·have Bb:(a.eY != 0)=false:=by simp [dZ]
       have pN:=am dZ;clear dZ;have cb:av (dT p.cells.length p.an.length body a=true):=⟨by unfold dT;rw [if_neg (fun h=>by rcases h with h | h | h;exact (fun h=>h.2 qC.1) h;exact (fun h=>h.2 pQ.1) h;exact (fun h=>h.2 pN.1) h),if_neg (by have:=kM.1;omega),if_neg (by have:=kM.1;omega),if_pos kM.1]⟩;exact q8
      ·have Bb:(a.eY != 0)=true:=by simp [dZ]
       have pN:=am dZ;clear dZ;have cb:av (dT p.cells.length p.an.length body a=false):=⟨by unfold dT;rw [if_pos (.inr (.inr ⟨(by have:=kM.1;omega),pN.1⟩))]⟩;exact q8
     ·have qq:=List.length_pos_iff.2 j0
      have Bi:decide (0 < a.kids.length)=true:=decide_eq_true qq;have sm:decide (0 < (a.kids.length:Int))=true:=decide_eq_true (by omega);have pQ:=am j0;clear j0 qq;have cb:av (dT p.cells.length p.an.length body a=false):=⟨by unfold dT;rw [if_pos (.inr (.inl ⟨(by have:=kM.1;omega),pQ.1⟩))]⟩;exact q8
    ·have qz:=List.length_pos_iff.2 j1
     have Bp:decide (0 < a.bP.length)=true:=decide_eq_true qz;have tl:decide (0 < (a.bP.length:Int))=true:=decide_eq_true (by omega);have qC:=am j1;clear j1 qz;have cb:av (dT p.cells.length p.an.length body a=false):=⟨by unfold dT;rw [if_pos (.inl ⟨(by have:=kM.1;omega),qC.1⟩)]⟩;exact q8
   ·have iF:=fD
    clear fD;by_cases fD:a.kind=4
    ·skip
     have gq:(a.kind != 1)=true:=by simp [fD]
     have jm:(a.kind != 2)=true:=by simp [fD]
     have z4:(a.kind != 4)=false:=by simp [fD]
     have cg:(a.kind == 1)=false:=by simp [fD]
     have cO:(a.kind == 2)=false:=by simp [fD]
     have dh:(a.kind == 3)=false:=by simp [fD]
     have fu:(a.kind == 4)=true:=by simp [fD]
     have kM:=am fD;clear fD hq pZ iF;by_cases j1:a.bP= []
     ·have Bp:decide (0 < a.bP.length)=false:=by rw [j1];rfl
      have tl:decide (0 < (a.bP.length:Int))=false:=by rw [j1];rfl
      have qC:=am j1;clear j1;by_cases j0:a.kids= []
      ·have Bi:decide (0 < a.kids.length)=false:=by rw [j0];rfl
       have sm:decide (0 < (a.kids.length:Int))=false:=by rw [j0];rfl
       have pQ:=am j0;clear j0;obtain ⟨l7,ny⟩:∃ b,bF a.eY 0 2=b:=⟨_,rfl⟩;have eS:av ((decide ((0:Int)<=a.eY) && decide (a.eY<=2))=l7):=⟨ny⟩;clear ny
       go_wp2_with (first
       |((with_reducible refine aQ 3 ?_);refine b6 26 ?_;intro de U w1 ad I;have aj:=am ad;have ab:=am I;have a5:=ae aj;clear ad I U)
       |((with_reducible refine aQ 5 ?_);refine b6 55 ?_;intro ga U b' ad I;have k9:=am ad;replace ab:=cf ab I;replace aj:=aV aj I;clear a5 ad I U;have a5:=ae aj;have uk:=ae k9)
       |(go_at_call 48;refine (fm _ _ _ _).mono ?_;(first|rw [eS.1]);rintro e b9 ⟨rfl,rfl⟩))
       go_ret
       have ao:dT p.cells.length p.an.length body a=l7:=by
        unfold dT;rw [if_neg (fun h=>by rcases h with h | h | h;exact (fun h=>h.2 qC.1) h;exact (fun h=>h.2 pQ.1) h;exact (fun h=>h.1 kM.1) h),if_neg (by have:=kM.1;omega),if_neg (by have:=kM.1;omega),if_neg (by have:=kM.1;omega),if_pos kM.1];exact eS.1
       rw [ao];exact ⟨rfl,ab.1⟩
      ·have qq:=List.length_pos_iff.2 j0
       have Bi:decide (0 < a.kids.length)=true:=decide_eq_true qq;have sm:decide (0 < (a.kids.length:Int))=true:=decide_eq_true (by omega);have pQ:=am j0;clear j0 qq;have cb:av (dT p.cells.length p.an.length body a=false):=⟨by unfold dT;rw [if_pos (.inr (.inl ⟨(by have:=kM.1;omega),pQ.1⟩))]⟩;exact q8
     ·have qz:=List.length_pos_iff.2 j1
      have Bp:decide (0 < a.bP.length)=true:=decide_eq_true qz;have tl:decide (0 < (a.bP.length:Int))=true:=decide_eq_true (by omega);have qC:=am j1;clear j1 qz;have cb:av (dT p.cells.length p.an.length body a=false):=⟨by unfold dT;rw [if_pos (.inl ⟨(by have:=kM.1;omega),qC.1⟩)]⟩;exact q8
    ·have zp:=fD
     clear fD;have sA:=am hq;have Dn:=am pZ;have sB:=am iF;have MZ:=am zp;have gq:(a.kind != 1)=true:=by simp [hq]
     have jm:(a.kind != 2)=true:=by simp [pZ]
     have z4:(a.kind != 4)=true:=by simp [zp]
     have cg:(a.kind == 1)=false:=by simp [hq]
     have cO:(a.kind == 2)=false:=by simp [pZ]
     have dh:(a.kind == 3)=false:=by simp [iF]
     have fu:(a.kind == 4)=false:=by simp [zp]
     clear hq pZ iF zp;by_cases j1:a.bP= []
     ·have Bp:decide (0 < a.bP.length)=false:=by rw [j1];rfl
      have tl:decide (0 < (a.bP.length:Int))=false:=by rw [j1];rfl
      have qC:=am j1;clear j1;by_cases j0:a.kids= []
      ·have Bi:decide (0 < a.kids.length)=false:=by rw [j0];rfl
       have sm:decide (0 < (a.kids.length:Int))=false:=by rw [j0];rfl
       have pQ:=am j0;clear j0;by_cases dZ:a.eY=0
       ·have Bb:(a.eY != 0)=false:=by simp [dZ]
        have pN:=am dZ;clear dZ;have cb:av (dT p.cells.length p.an.length body a=false):=⟨by unfold dT;rw [if_neg (fun h=>by rcases h with h | h | h;exact (fun h=>h.2 qC.1) h;exact (fun h=>h.2 pQ.1) h;exact (fun h=>h.2 pN.1) h),if_neg sA.1,if_neg Dn.1,if_neg sB.1,if_neg MZ.1]⟩;exact q8
       ·have Bb:(a.eY != 0)=true:=by simp [dZ]
        have pN:=am dZ;clear dZ;have cb:av (dT p.cells.length p.an.length body a=false):=⟨by unfold dT;rw [if_pos (.inr (.inr ⟨MZ.1,pN.1⟩))]⟩;exact q8
      ·have qq:=List.length_pos_iff.2 j0
       have Bi:decide (0 < a.kids.length)=true:=decide_eq_true qq;have sm:decide (0 < (a.kids.length:Int))=true:=decide_eq_true (by omega);have pQ:=am j0;clear j0 qq;have cb:av (dT p.cells.length p.an.length body a=false):=⟨by unfold dT;rw [if_pos (.inr (.inl ⟨Dn.1,pQ.1⟩))]⟩;exact q8
     ·have qz:=List.length_pos_iff.2 j1
      have Bp:decide (0 < a.bP.length)=true:=decide_eq_true qz;have tl:decide (0 < (a.bP.length:Int))=true:=decide_eq_true (by omega);have qC:=am j1;clear j1 qz;have cb:av (dT p.cells.length p.an.length body a=false):=⟨by unfold dT;rw [if_pos (.inl ⟨sA.1,qC.1⟩)]⟩;exact q8
structure jI (p:Prog):Prop where
 cells:p.cells.length<=1048576
 an:p.an.length<=1048576
 cq:∀ b ∈ p.an,b.length<=1048576/\∀ a ∈ b,a.bP.length<=1048576/\a.kids.length<=1048576
theorem SN (p:Prog) (ju:List Value) (w:World) (aB:cN.K w p ju) (aX:jI p):
  Calls Tryz.prog 66 #[.agg ju.toArray] w fun e af=>e= .returned (.bool (ia p))/\Below w.heap.size w af:=by
 have cR:=am aB;obtain ⟨ek,ey,g0,er,rfl,-,gc,-,gb⟩:=jk aB;have nZ:=am gc;have ld:=am gb;have acZ:=aX.cells;have xk:=aX.an;have fY:=am aX.cq;clear aB gc gb aX;go_enter Tryz.func66,Tryz.ntmps66;by_cases bO:p.cells.length<=3
 ·have u3:decide (3 < p.cells.length)=false:=decide_eq_false (by omega)
  have v3:decide ((3:Int) < (p.cells.length:Int))=false:=decide_eq_false (by omega);have oL:=am bO
  cases Ee:bF (p.an.length:Int) 1 4 with
  | false=>
   have eS:av ((decide ((1:Int)<=(p.an.length:Int)) && decide ((p.an.length:Int)<=4))=false):=⟨Ee⟩;clear Ee
   go_wp2_with (first
   |((with_reducible refine aQ 1 ?_);refine b6 26 ?_;intro de U w1 ad I;have aj:=am ad;have ab:=am I;have a5:=ae aj;clear ad I U)
   |(go_at_call 48;refine (fm _ _ _ _).mono ?_;(first|rw [eS.1]);rintro e b9 ⟨rfl,rfl⟩))
   go_ret
   have ao:ia p=false:=by
    unfold ia;rw [show bF (p.an.length:Int) 1 4=false from eS.1,Bool.and_false,Bool.false_and,Bool.false_and]
   rw [ao]
   exact ⟨rfl,ab.1⟩
  | true=>
   have eS:av ((decide ((1:Int)<=(p.an.length:Int)) && decide ((p.an.length:Int)<=4))=true):=⟨Ee⟩;have z1:=(e0.1 Ee).2;clear Ee
   go_wp2_with (first
   |((with_reducible refine aQ 1 ?_);refine b6 26 ?_;intro de U w1 ad I;have aj:=am ad;have ab:=am I;have a5:=ae aj;clear ad I U)
   |(go_at_call 48;refine (fm _ _ _ _).mono ?_;(first|rw [eS.1]);rintro e b9 ⟨rfl,rfl⟩))
   go_loopw [3] (fun j af=>∃ k:Nat,k<=p.cells.length/\j= .int .i64 k/\av (∀ i,i < k->bF (cC p.cells i) 0 99=true)/\av (af.heap[de]? = some (.cells #[.slice ek p.cells.length ey,.slice g0 p.an.length er] 26 (0,0)))/\av (Below w.heap.size w af)) (fun j _=>p.cells.length - (intOf j).toNat)
   case atStart=>exact ⟨0,Nat.zero_le _,rfl,⟨fun i aa=>by omega⟩,aj,ab⟩
   case round=>
    clear aj ab a5;obtain ⟨k,J,rfl,du,aj,ab⟩:=hrel;have a5:=ae aj;by_cases aJ:k < p.cells.length
    ·have bz:(0:Int)<=(k:Int):=by omega
     have b7:(k:Int) < (p.cells.length:Int):=by omega
     obtain ⟨cy,rfl,cL⟩:=Kd.kG (Kd.bW nZ.1 ab.1) (k:Int) bz b7;simp only [Int.toNat_natCast] at cL;obtain ⟨x,hG⟩:∃ x,x=cC p.cells k:=⟨_,rfl⟩;rw [show rd p.cells (k:Int)=x from hG.symm] at cL;have h7:=am hG;clear hG
     cases bk:bF x 0 99 with
     | true=>
      have ew:av ((decide ((0:Int)<=x) && decide (x<=99))=true):=⟨bk⟩;clear bk
      go_wp2_with (first
      |(go_at_call 48;refine (fm _ _ _ _).mono ?_;(first|rw [ew.1]);rintro e b9 ⟨rfl,rfl⟩))
      go_roundw
      case rel=>exact ⟨k+1,by omega,by go_num,⟨fun i aa=>by rcases Nat.lt_or_ge i k with h | h;exact du.1 i h;obtain rfl:i=k:=(by omega);rw [<-h7.1];exact ew.1⟩,aj,ab⟩
      case measure=>simp [intOf];omega
     | false=>
      have ew:av ((decide ((0:Int)<=x) && decide (x<=99))=false):=⟨bk⟩;clear bk
      go_wp2_with (first
      |(go_at_call 48;refine (fm _ _ _ _).mono ?_;(first|rw [ew.1]);rintro e b9 ⟨rfl,rfl⟩))
      go_ret
      have ao:ia p=false:=by
       unfold ia;rw [hK (n:=p.cells.length) aJ (by rw [<-h7.1];exact ew.1),Bool.and_false,Bool.false_and]
      rw [ao];exact ⟨rfl,ab.1⟩
    ·obtain rfl:k=p.cells.length:=by omega
     have NZ:=am (hv.2 du.1);clear du aJ J;go_wp2;go_loopw [4] (fun j af=>∃ k:Nat,k<=p.an.length/\j= .int .i64 k/\av (∀ i,i < k->qt p.cells.length p.an.length i (bo p.an i)=true)/\av (af.heap[de]? = some (.cells #[.slice ek p.cells.length ey,.slice g0 p.an.length er] 26 (0,0)))/\av (Below w.heap.size w af)) (fun j _=>p.an.length - (intOf j).toNat)
     case atStart=>exact ⟨0,Nat.zero_le _,rfl,⟨fun i aa=>by omega⟩,aj,ab⟩
     case round=>
      clear aj ab a5;obtain ⟨k,J,rfl,du,aj,ab⟩:=hrel;have a5:=ae aj;by_cases aJ:k < p.an.length
      ·obtain ⟨gp,cV,nW,rfl,kt,hX,en,-⟩:=dd ld.1 ([]:List Act) k aJ (by decide)
       obtain ⟨k5,kf,rfl,kL,jd⟩:=hX;have c3:=en 0 _ rfl;simp only [show (Kd.slice 55 kAct).bD=1 from rfl,Nat.mul_one,Nat.add_zero] at c3;have sW:=am (show kAct.C w k5 (bo p.an k).length (bo p.an k) from jd);rw [show (p.an.getD k []).length=(bo p.an k).length from rfl] at c3;have ni:=am c3;have se:bo p.an k ∈ p.an:=by rw [zi aJ];exact List.getElem_mem aJ
       have UR:=am (fY.1 _ se);have Ca:=dD ab.1 c3;have bz:(0:Int)<=(k:Int):=by omega
       have b7:(k:Int) < (p.an.length:Int):=by omega
       clear en kt jd kL c3 se;by_cases l8:(bo p.an k).length<=4
       ·have u4:decide (4 < (bo p.an k).length)=false:=decide_eq_false (by omega)
        have v4:decide ((4:Int) < ((bo p.an k).length:Int))=false:=decide_eq_false (by omega);go_wp2;go_loopw [5] (fun j af=>∃ m:Nat,m<=(bo p.an k).length/\j= .int .i64 m/\av (∀ i,i < m->dT p.cells.length p.an.length k (actAt (bo p.an k) i)=true)/\av (af.heap[de]? = some (.cells #[.slice ek p.cells.length ey,.slice (some ⟨gp,cV,none⟩) p.an.length er] 26 (0,0)))/\av (Below w.heap.size w af)) (fun j _=>(bo p.an k).length - (intOf j).toNat)
        case atStart=>exact ⟨0,Nat.zero_le _,rfl,⟨fun i aa=>by omega⟩,aj,ab⟩
        case round=>
         clear aj ab a5 Ca;obtain ⟨m,hm,rfl,fo,aj,ab⟩:=hrel;have a5:=ae aj;have Ca:=dD ab.1 ni.1;by_cases r4:m < (bo p.an k).length
         ·obtain ⟨iL,ly,yw,rfl,sc,ix,j8,-⟩:=dd sW.1 iK m r4 (by decide)
          obtain ⟨a,jS⟩:∃ x,x=actAt (bo p.an k) m:=⟨_,rfl⟩;rw [show (bo p.an k).getD m iK=a from jS.symm] at ix;have cT:=am ix;have p2:=am jS;have sy:av _:=⟨UR.1.2 a (by rw [jS];have eb:actAt (bo p.an k) m=(bo p.an k)[m]:=(by simp [actAt,r4]);rw [eb];exact List.getElem_mem r4)⟩;obtain ⟨eR,ez,eF,eJ,rfl,-⟩:=m0 ix;have cl:=am j8;have dZ:(0:Int)<=(m:Int):=by omega
          have jL:(m:Int) < ((bo p.an k).length:Int):=by omega
          clear j8 ix sc jS
          cases G':dT p.cells.length p.an.length k a with
          | true=>
           have ag:=am G';clear G';go_wp2;clear Ca;refine kO (n:=12) (S:=fun W=>W.heap[de]? = some (.cells #[.slice ek p.cells.length ey,.slice (some ⟨gp,cV,none⟩) p.an.length er] 26 (0,0))/\W.cell? ⟨gp,cV+k,none⟩=some (.slice (some ⟨iL,ly,none⟩) (bo p.an k).length kf)/\∀ j u, [.int .i64 a.kind,.slice eR a.bP.length ez,.slice eF a.kids.length eJ,.int .i64 a.eY][j]? = some u->W.cell? ⟨iL,ly+m*4+j,none⟩=some u) (ds:= []) (by kernel_rfl) rfl ⟨gW aj.1,(show wr.cell? ⟨gp,cV+k,none⟩=_ from dD ab.1 ni.1),fun j u hu=>(show wr.cell? ⟨iL,ly+m*4+j,none⟩=_ from dD ab.1 (cl.1 j u hu))⟩ (fun aK=> ?_);have I:=ei (Below.refl wr.heap.size wr);generalize wr.drew=fN at I aK ⊢;have iy:=cf ab I;clear I ab aj a5;refine hn 2 10 [0,1,2,3,4,5,6,7,8,9] aK ?_
           iterate 10 (refine hR rfl (by rintro W ⟨bU,s2,ec⟩;have t0:=bf bU;have u0:=ec 0 _ rfl;have u1:=ec 1 _ rfl;have u2:=ec 2 _ rfl;have u3:=ec 3 _ rfl;rw [Nat.add_zero] at u0;clear bU ec;go_simp;with_reducible rfl) ?_)
           refine bN ?_;refine fs 10 (some 65) (fun K au=> ?_);refine kW Tryz.func103 #[.agg #[.slice ek p.cells.length ey,.slice (some ⟨gp,cV,none⟩) p.an.length er],.int .i64 k,.agg #[.int .i64 a.kind,.slice eR a.bP.length ez,.slice eF a.kids.length eJ,.int .i64 a.eY]] ?_;refine (Sv p a _ _ (k:Int) _ (cN.bH iy.1 cR.1) (kAct.bH iy.1 cT.1) (by omega) (by omega) (by omega) (by omega) sy.1.1 sy.1.2).mono ?_;rw [ag.1];rintro e wn ⟨rfl,I⟩;refine ⟨_,rfl, ?_⟩;refine au.out _ _ ⟨fS aK.1 I,dD I aK.2.1,fun j u hu=>dD I (aK.2.2 j u hu)⟩ (fun aK=>e8 ?_);clear au K
           have ab:=cf iy I;refine hn 0 1 [11] aK ?_
           iterate 1 (refine hR rfl (by intro W fx;go_simp;with_reducible rfl) ?_)
           refine bN ?_;have aj:=am aK.1;clear aK iy I;have a5:=ae aj;refine xH (by kernel_rfl) ?_;go_wp2;go_roundw
           case rel=>exact ⟨m+1,by omega,by go_num,⟨fun i aa=>by rcases Nat.lt_or_ge i m with h | h;exact fo.1 i h;obtain rfl:i=m:=(by omega);rw [<-p2.1];exact ag.1⟩,aj,ab⟩
           case measure=>simp [intOf];omega
          | false=>
           have ag:=am G';clear G';go_wp2;clear Ca;refine kO (n:=12) (S:=fun W=>W.heap[de]? = some (.cells #[.slice ek p.cells.length ey,.slice (some ⟨gp,cV,none⟩) p.an.length er] 26 (0,0))/\W.cell? ⟨gp,cV+k,none⟩=some (.slice (some ⟨iL,ly,none⟩) (bo p.an k).length kf)/\∀ j u, [.int .i64 a.kind,.slice eR a.bP.length ez,.slice eF a.kids.length eJ,.int .i64 a.eY][j]? = some u->W.cell? ⟨iL,ly+m*4+j,none⟩=some u) (ds:= []) (by kernel_rfl) rfl ⟨gW aj.1,(show wr.cell? ⟨gp,cV+k,none⟩=_ from dD ab.1 ni.1),fun j u hu=>(show wr.cell? ⟨iL,ly+m*4+j,none⟩=_ from dD ab.1 (cl.1 j u hu))⟩ (fun aK=> ?_);have I:=ei (Below.refl wr.heap.size wr);generalize wr.drew=fN at I aK ⊢;have iy:=cf ab I;clear I ab aj a5;refine hn 2 10 [0,1,2,3,4,5,6,7,8,9] aK ?_
           iterate 10 (refine hR rfl (by rintro W ⟨bU,s2,ec⟩;have t0:=bf bU;have u0:=ec 0 _ rfl;have u1:=ec 1 _ rfl;have u2:=ec 2 _ rfl;have u3:=ec 3 _ rfl;rw [Nat.add_zero] at u0;clear bU ec;go_simp;with_reducible rfl) ?_)
           refine bN ?_;refine fs 10 (some 65) (fun K au=> ?_);refine kW Tryz.func103 #[.agg #[.slice ek p.cells.length ey,.slice (some ⟨gp,cV,none⟩) p.an.length er],.int .i64 k,.agg #[.int .i64 a.kind,.slice eR a.bP.length ez,.slice eF a.kids.length eJ,.int .i64 a.eY]] ?_;refine (Sv p a _ _ (k:Int) _ (cN.bH iy.1 cR.1) (kAct.bH iy.1 cT.1) (by omega) (by omega) (by omega) (by omega) sy.1.1 sy.1.2).mono ?_;rw [ag.1];rintro e wn ⟨rfl,I⟩;refine ⟨_,rfl, ?_⟩;refine au.out _ _ ⟨fS aK.1 I,dD I aK.2.1,fun j u hu=>dD I (aK.2.2 j u hu)⟩ (fun aK=>e8 ?_);clear au K
           have ab:=cf iy I;refine hn 0 1 [11] aK ?_
           iterate 1 (refine hR rfl (by intro W fx;go_simp;with_reducible rfl) ?_)
           refine bN ?_;have aj:=am aK.1;clear aK iy I;have a5:=ae aj;refine xH (by kernel_rfl) ?_;go_wp2;go_ret
           have ao:ia p=false:=by
            unfold ia;rw [hK (n:=p.an.length) aJ (by unfold qt;rw [hK r4 (by rw [<-p2.1];exact ag.1),Bool.and_false]),Bool.and_false]
           rw [ao];exact ⟨rfl,ab.1⟩
         ·obtain rfl:m=(bo p.an k).length:=by omega
          go_wp2;go_roundw
          case rel=>exact ⟨k+1,by omega,by go_num,⟨fun i aa=>by rcases Nat.lt_or_ge i k with h | h;exact du.1 i h;obtain rfl:i=k:=(by omega);unfold qt;rw [hv.2 fo.1,decide_eq_true l8];rfl⟩,aj,ab⟩
          case measure=>simp [intOf];omega
       ·have u4:decide (4 < (bo p.an k).length)=true:=decide_eq_true (by omega)
        have v4:decide ((4:Int) < ((bo p.an k).length:Int))=true:=decide_eq_true (by omega);have wM:=am l8;clear l8;go_wp2;go_ret
        have ao:ia p=false:=by
         unfold ia;rw [hK (n:=p.an.length) aJ (by unfold qt;rw [decide_eq_false wM.1,Bool.false_and]),Bool.and_false]
        rw [ao];exact ⟨rfl,ab.1⟩
      ·obtain rfl:k=p.an.length:=by omega
       go_wp2;go_ret
       have ao:ia p=true:=by
        unfold ia;rw [hv.2 du.1,NZ.1,show bF (p.an.length:Int) 1 4=true from eS.1,decide_eq_true oL.1];rfl
       rw [ao];exact ⟨rfl,ab.1⟩
 ·have u3:decide (3 < p.cells.length)=true:=decide_eq_true (by omega)
  have v3:decide ((3:Int) < (p.cells.length:Int))=true:=decide_eq_true (by omega);have oL:=am bO;clear bO
  go_wp2_with (first
  |((with_reducible refine aQ 1 ?_);refine b6 26 ?_;intro de U w1 ad I;have aj:=am ad;have ab:=am I;have a5:=ae aj;clear ad I U))
  go_ret
  have ao:ia p=false:=by
   unfold ia;rw [decide_eq_false oL.1,Bool.false_and,Bool.false_and,Bool.false_and]
  rw [ao];exact ⟨rfl,ab.1⟩
theorem QT {p:Prog} (bb:ia p=true) {b:Int} (aq:0<=b) (h1:b < p.an.length) (k:Nat):eP (fun a:Act=>eP (hz p) a.kids) ((bo p.an b.toNat).take k)<=37448:=by
 have bR:=Ga bb ⟨aq,h1⟩;refine Nat.le_trans (sumL_le (m:=9362) fun a ha=> ?_) ?_
 ·obtain ⟨ar,aA⟩:=kid_behind bb ⟨aq,h1⟩ (List.mem_of_mem_take ha)
  refine Nat.le_trans (sumL_le (m:=4681) fun x az=>treeOf_le bb (by have:=aA x az;omega) (aA x az).2) ?_;omega
 ·rw [List.length_take]
  have:min k (bo p.an b.toNat).length<=4:=by omega
  omega
theorem QU {p:Prog} (bb:ia p=true) {b:Int} (aq:0<=b) (h1:b < p.an.length) {a:Act} (ha:a ∈ bo p.an b.toNat) (m:Nat):eP (hz p) (a.kids.take m)<=9362:=by
 obtain ⟨ar,aA⟩:=kid_behind bb ⟨aq,h1⟩ ha;refine Nat.le_trans (sumL_le (m:=4681) fun x az=>treeOf_le bb (by have:=aA x (List.mem_of_mem_take az);omega) (aA x (List.mem_of_mem_take az)).2) ?_;rw [List.length_take];have:min m a.kids.length<=2:=by omega
 omega
theorem abB (p:Prog) (ju:List Value) (bb:ia p=true):∀ (n:Nat) (b:Int) (w:World),cN.K w p ju->0<=b->b < p.an.length->(p.an.length:Int) - b<=n->
  Calls Tryz.prog 67 #[.agg ju.toArray,.int .i64 b] w fun e af=>e= .returned (.int .i64 (hz p b))/\Below w.heap.size w af:=by
 intro n
 induction n with
 | zero=>intro b w _ aq h1 aS;omega
 | succ n fI=>
 intro b w aB aq h1 aS;have zw:=am fI;clear fI;obtain ⟨bl,rfl⟩:=Int.eq_ofNat_of_zero_le aq;have eu:bl < p.an.length:=by omega
 have vT:av (∀ k,eP (fun a:Act=>eP (hz p) a.kids) ((bo p.an bl).take k)<=37448):=⟨fun k=>QT bb aq h1 k⟩;have JR:av (hz p (bl:Int)=1+eP (fun a:Act=>eP (hz p) a.kids) (bo p.an bl)):=⟨treeOf_eq bb aq h1⟩;have cR:=am aB;have e3:=am bb;have z1:=(wE bb).2.2;have US:(bo p.an bl).length<=4:=Ga bb ⟨aq,h1⟩;obtain ⟨ek,ey,g0,er,rfl,-,gc,-,gb⟩:=jk aB;obtain ⟨gp,cV,nW,rfl,kt,hX,en,-⟩:=dd gb ([]:List Act) bl eu (by decide);obtain ⟨k5,kf,rfl,kL,jd⟩:=hX;have c3:=en 0 _ rfl;simp only [show (Kd.slice 55 kAct).bD=1 from rfl,Nat.mul_one,Nat.add_zero] at c3;have sW:=am (show kAct.C w k5 (bo p.an bl).length (bo p.an bl) from jd);rw [show (p.an.getD bl []).length=(bo p.an bl).length from rfl] at c3;have ni:=am c3;have bz:(0:Int)<=(bl:Int):=by omega
 have b7:(bl:Int) < (p.an.length:Int):=by omega
 clear aB bb gc gb en kt jd kL c3 aq h1;go_enter Tryz.func67,Tryz.ntmps67
 go_wp2_with (first
 |((with_reducible refine aQ 2 ?_);refine b6 26 ?_;intro de U w1 ad I;have aj:=am ad;have ab:=am I;have a5:=ae aj;clear ad I U))
 go_loopw [5,6] (fun v j af=>∃ k:Nat,k<=(bo p.an bl).length/\j= .int .i64 k/\v= .int .i64 ((1+eP (fun a:Act=>eP (hz p) a.kids) ((bo p.an bl).take k):Nat))/\av (af.heap[de]? = some (.cells #[.slice ek p.cells.length ey,.slice (some ⟨gp,cV,none⟩) p.an.length er] 26 (0,0)))/\av (Below w.heap.size w af)) (fun _ j _=>(bo p.an bl).length - (intOf j).toNat)
 case atStart=>exact ⟨0,Nat.zero_le _,rfl,by simp [eP],aj,ab⟩
 case round=>
  clear aj ab a5;obtain ⟨k,J,rfl,rfl,aj,ab⟩:=hrel;obtain ⟨acc,AZ⟩:∃ x:Nat,x=(1+eP (fun a:Act=>eP (hz p) a.kids) ((bo p.an bl).take k):Nat):=⟨_,rfl⟩;have Xc:acc<=37449:=by have:=vT.1 k;omega
  simp only [<-AZ];have Fc:=am AZ;clear AZ;have a5:=ae aj;have Ca:=dD ab.1 ni.1;by_cases r4:k < (bo p.an bl).length
  ·obtain ⟨iL,ly,yw,rfl,sc,ix,j8,-⟩:=dd sW.1 iK k r4 (by decide)
   obtain ⟨a,jS⟩:∃ x,x=actAt (bo p.an bl) k:=⟨_,rfl⟩;rw [show (bo p.an bl).getD k iK=a from jS.symm] at ix
   have se:a ∈ bo p.an bl:=by
    have eb:actAt (bo p.an bl) k=(bo p.an bl)[k]:=by simp [actAt,r4]
    rw [jS,eb];exact List.getElem_mem r4
   have p2:=am jS;have Dp:=am (kid_behind e3.1 (b:=(bl:Int)) ⟨bz,b7⟩ se);have IU:av (∀ m,eP (hz p) (a.kids.take m)<=9362):=⟨fun m=>QU e3.1 (b:=(bl:Int)) bz b7 se m⟩;have iI:a.kids.length<=2:=Dp.1.1;obtain ⟨eR,ez,eF,eJ,rfl,-,-,-,gk⟩:=m0 ix;have lf:=am gk;have Gx:=j8 2 _ rfl;simp only [show kAct.bD=4 from rfl] at Gx;have aco:=am Gx;have UT:=dD ab.1 Gx;have dZ:(0:Int)<=(k:Int):=by omega
   have jL:(k:Int) < ((bo p.an bl).length:Int):=by omega
   clear j8 ix sc jS se Gx gk;go_wp2;go_loopw [5,8] (fun v j af=>∃ m:Nat,m<=a.kids.length/\j= .int .i64 m/\v= .int .i64 ((acc+eP (hz p) (a.kids.take m):Nat):Int)/\av (af.heap[de]? = some (.cells #[.slice ek p.cells.length ey,.slice (some ⟨gp,cV,none⟩) p.an.length er] 26 (0,0)))/\av (Below w.heap.size w af)) (fun _ j _=>a.kids.length - (intOf j).toNat)
   case atStart=>exact ⟨0,Nat.zero_le _,rfl,by simp [eP],aj,ab⟩
   case round=>
    clear aj ab a5 Ca UT;obtain ⟨m,hm,rfl,rfl,aj,ab⟩:=hrel;obtain ⟨xl,A0⟩:∃ x:Nat,x=acc+eP (hz p) (a.kids.take m):=⟨_,rfl⟩;have XR:xl<=50000:=by have:=IU.1 m;omega
    simp only [<-A0];have Fe:=am A0;clear A0;have a5:=ae aj;by_cases aJ:m < a.kids.length
    ·have bU:(0:Int)<=(m:Int):=by omega
     have s1:(m:Int) < (a.kids.length:Int):=by omega
     obtain ⟨kS,pM⟩:∃ x,x=cC a.kids m:=⟨_,rfl⟩;have r2:=Dp.1.2 kS (by rw [pM];have eb:cC a.kids m=a.kids[m]:=(by simp [cC,aJ]);rw [eb];exact List.getElem_mem aJ);have zC:=am r2;obtain ⟨mQ,n1⟩:∃ x,x=hz p kS:=⟨_,rfl⟩;have mj:mQ<=4681:=by rw [n1];exact treeOf_le e3.1 (by omega) r2.2
     have jf:=am n1.symm;have g4:=am pM;obtain ⟨cy,JS,-⟩:=Kd.kG lf.1 (m:Int) bU s1;subst JS;clear pM n1 r2;go_wp2;refine kO (n:=9) (S:=fun W=>W.heap[de]? = some (.cells #[.slice ek p.cells.length ey,.slice (some ⟨gp,cV,none⟩) p.an.length er] 26 (0,0))/\(Kd.int .i64).C W (some cy) a.kids.length a.kids) (ds:= []) (by kernel_rfl) rfl ⟨gW aj.1,Kd.bW (Kd.bW lf.1 ab.1) (ei (Below.refl _ _))⟩ (fun aK=> ?_);have I:=ei (Below.refl wr.heap.size wr);generalize wr.drew=fN at I aK ⊢;have iy:=cf ab I;clear I ab aj a5;refine hn 3 6 [0,1,2,3,4,5] aK ?_
     iterate 6 (refine hR rfl (by rintro W ⟨N0,s2⟩;have t0:=bf N0;obtain ⟨JH,c0,cL⟩:=Kd.kG s2 (m:Int) bU s1;cases c0;simp only [Int.toNat_natCast] at cL;rw [show rd a.kids (m:Int)=kS from g4.1.symm] at cL;clear N0 s2;go_simp;with_reducible rfl) ?_)
     refine bN ?_;refine fs 6 (some 40) (fun K au=> ?_);refine kW Tryz.func67 #[.agg #[.slice ek p.cells.length ey,.slice (some ⟨gp,cV,none⟩) p.an.length er],.int .i64 kS] ?_;refine (zw.1 kS _ (cN.bH iy.1 cR.1) (by have:=zC.1;omega) zC.1.2 (by have:=zC.1;omega)).mono ?_;rw [jf.1];rintro e wn ⟨rfl,I⟩;refine ⟨_,rfl, ?_⟩;refine au.out _ _ ⟨fS aK.1 I,Kd.bW aK.2 I⟩ (fun aK=>e8 ?_);clear au K
     have ab:=cf iy I;refine hn 0 2 [7,8] aK ?_
     iterate 2 (refine hR rfl (by intro W fx;go_simp;with_reducible rfl) ?_)
     refine bN ?_;have aj:=am aK.1;clear aK iy I;have a5:=ae aj;refine xH (by kernel_rfl) ?_;go_wp2;go_roundw
     case rel=>exact ⟨m+1,by omega,by go_num,by rw [show ((acc+eP (hz p) (a.kids.take (m+1)):Nat):Int)=(xl:Int)+(mQ:Int) by rw [sumL_take (hz p) 0 a.kids aJ,show a.kids.getD m 0=kS from g4.1.symm,jf.1,Fe.1];omega,show wrap64 ((xl:Int)+(mQ:Int))=(xl:Int)+(mQ:Int) from (by unfold wrap64;omega)],aj,ab⟩
     case measure=>simp [intOf];omega
    ·obtain rfl:m=a.kids.length:=by omega
     have pK:xl=(1+eP (fun a:Act=>eP (hz p) a.kids) ((bo p.an bl).take (k+1)):Nat):=by
      rw [Fe.1,List.take_length,Fc.1,sumL_take (fun a:Act=>eP (hz p) a.kids) iK (bo p.an bl) r4,show (bo p.an bl).getD k iK=a from p2.1.symm];omega
     have K6:=am pK;clear pK;go_wp2;go_roundw
     case rel=>exact ⟨k+1,by omega,by go_num,by rw [K6.1],aj,ab⟩
     case measure=>simp [intOf];omega
  ·obtain rfl:k=(bo p.an bl).length:=by omega
   go_wp2;go_ret;have ao:hz p (bl:Int)=acc:=by rw [JR.1,Fc.1,List.take_length]
   rw [ao];exact ⟨rfl,ab.1⟩
theorem sv (p:Prog) (ju:List Value) (w:World) (aB:cN.K w p ju) (aX:jI p):
  Calls Tryz.prog 47 #[.agg ju.toArray] w fun e af=>e= .returned (.bool (k2 p))/\Below w.heap.size w af:=by
 have cR:=am aB;obtain ⟨ek,ey,g0,er,rfl,-⟩:=jk aB;have fY:=am aX;clear aB aX;go_enter Tryz.func47,Tryz.ntmps47
 cases bb:ia p with
 | false=>
  have e3:=am bb;clear bb
  go_wp2_with (first
  |((with_reducible refine aQ 1 ?_);refine b6 26 ?_;intro de U w1 ad I;have aj:=am ad;have ab:=am I;have a5:=ae aj;clear ad I U)
  |(go_at_call 66;refine (SN p _ _ (cN.bH ab.1 cR.1) fY.1).mono ?_;rw [e3.1];rintro e b9 ⟨rfl,I⟩;replace ab:=cf ab I;replace aj:=aV aj I;clear I a5;have a5:=ae aj))
  go_ret;have ao:k2 p=false:=by unfold k2;rw [e3.1,Bool.false_and]
  rw [ao]
  exact ⟨rfl,ab.1⟩
 | true=>
  have e3:=am bb;have bZ:=(wE bb).2.1;have gH:=am bZ;obtain ⟨n,aS⟩:∃ x,x=hz p 0:=⟨_,rfl⟩;have eD:=am aS.symm;clear bb aS bZ
  go_wp2_with (first
  |((with_reducible refine aQ 1 ?_);refine b6 26 ?_;intro de U w1 ad I;have aj:=am ad;have ab:=am I;have a5:=ae aj;clear ad I U)
  |(go_at_call 66;refine (SN p _ _ (cN.bH ab.1 cR.1) fY.1).mono ?_;rw [e3.1];rintro e b9 ⟨rfl,I⟩;replace ab:=cf ab I;replace aj:=aV aj I;clear I a5;have a5:=ae aj)
  |(go_at_call 67;refine (abB p _ e3.1 p.an.length 0 _ (cN.bH ab.1 cR.1) (by omega) (by have:=gH.1;omega) (by omega)).mono ?_;rw [eD.1];rintro e b9 ⟨rfl,I⟩;replace ab:=cf ab I;clear I aj a5))
  go_ret
  have ao:k2 p=decide ((n:Int)<=7):=by
   unfold k2;rw [e3.1,eD.1,Bool.true_and];exact decide_eq_decide.2 (by omega)
  rw [ao];exact ⟨rfl,ab.1⟩
inductive kk
 | b (g:Nat) (cs:Array Value) (t:TypeId)
 | dI (g:Nat) (cs:Array Value) (t:TypeId)
 | f (cy:Addr) (v:Value)
 | r (ok:Nat->Prop) (F:World->Prop)
 | oP (ok:Nat->Prop) (F:World->Prop)
abbrev eM:=List kk
def UU (_:World):Prop:=True
def xC (ok:Nat->Prop) (F:World->Prop):Prop:=∀ W bM:World,W.heap.size<=bM.heap.size->(∀ k,ok k->k < W.heap.size->bM.heap[k]? = W.heap[k]?)->F W->F bM
def fQ (W:World):eM->Prop
 | []=>True
 | .b g cs t :: l=>W.heap[g]? = some (.cells cs t (0,0))/\fQ W l
 | .dI g cs t :: l=>W.heap[g]? = some (.cells cs t (0,0))/\fQ W l
 | .f cy v :: l=>W.cell? cy=some v/\fQ W l
 | .r ok F :: l=>((∀ k,ok k->k < W.heap.size)/\xC ok F/\F W)/\fQ W l
 | .oP ok F :: l=>((∀ k,ok k->k < W.heap.size)/\xC ok F/\F W)/\fQ W l
def ah (W:World):eM->Prop
 | []=>UU W
 | .b g cs _ :: l=>(∀ i,W.cell? ⟨g,i,none⟩=cs[i]?)/\ah W l
 | .dI g cs _ :: l=>(∀ i,W.cell? ⟨g,i,none⟩=cs[i]?)/\ah W l
 | .f cy v :: l=>W.cell? cy=some v/\ah W l
 | .r _ _ :: l=>ah W l
 | .oP _ _ :: l=>ah W l
def kk.ok (w:World):kk->Prop
 | .b g _ _=>w.heap.size<=g
 | .dI g _ _=>g < w.heap.size
 | .f cy _=>cy.block < w.heap.size
 | .r ok _=>∀ k,ok k->w.heap.size<=k
 | .oP ok _=>∀ k,ok k->k < w.heap.size
def kk.key:kk->Nat->Prop
 | .b g _ _,k=>k=g
 | .r ok _,k=>ok k
 | _,_=>False
def HV (a b:kk):Prop:=∀ k,a.key k->¬ b.key k
structure ba (w W:World) (l:eM):Prop where
 below:Below w.heap.size w W
 eU:fQ W l
 fresh:∀ e ∈ l,e.ok w
 apart:l.Pairwise HV
inductive gF:eM->Nat->Array Value->TypeId->Prop
 | here {g cs t l}:gF (.b g cs t :: l) g cs t
 | kept {g cs t l}:gF (.dI g cs t :: l) g cs t
 | there {g cs t l e}:gF l g cs t->gF (e :: l) g cs t
inductive lX:eM->Nat->Array Value->Array Value->TypeId->eM->Prop
 | here {g cs gN t l}:lX (.b g cs t :: l) g cs gN t (.b g gN t :: l)
 | there {g cs gN t l l' e}:lX l g cs gN t l'->lX (e :: l) g cs gN t (e :: l')
theorem fQ.aw {W:World}:∀ {l:eM},fQ W l->ah W l
 | [],_=>trivial
 | .b _ _ _ :: _,h=>⟨fun i=>bf h.1 i,h.2.aw⟩
 | .dI _ _ _ :: _,h=>⟨fun i=>bf h.1 i,h.2.aw⟩
 | .f _ _ :: _,h=>⟨h.1,h.2.aw⟩
 | .r _ _ :: _,h=>h.2.aw
 | .oP _ _ :: _,h=>h.2.aw
theorem ba.aw {w W:World} {l:eM} (h:ba w W l):ah W l:=h.eU.aw
theorem ba.nil (w:World):ba w w []:=⟨Below.refl _ _,trivial,fun e h=>(by cases h),List.Pairwise.nil⟩
theorem ba.cB {w W:World} {l:eM} (h:ba w W l) {cy:Addr} {v:Value} (ay:w.cell? cy=some v):ba w W (.f cy v :: l):=
 ⟨h.below,⟨j2 h.below ay,h.eU⟩,fun e he=>by
  rcases List.mem_cons.1 he with rfl | he
  ·exact World.block_lt_of_cell? _ _ ay
  ·exact h.fresh e he,List.Pairwise.cons (fun e he k J=>by cases J) h.apart⟩
theorem fQ.below {W bM:World} (I:Below W.heap.size W bM):∀ {l:eM},fQ W l->fQ bM l
 | [],_=>trivial
 | .b _ _ _ :: _,h=>⟨fS h.1 I,h.2.below I⟩
 | .dI _ _ _ :: _,h=>⟨fS h.1 I,h.2.below I⟩
 | .f _ _ :: _,h=>⟨j2 I h.1,h.2.below I⟩
 | .r _ _ :: _,h=>⟨⟨fun k J=>Nat.lt_of_lt_of_le (h.1.1 k J) I.size,h.1.2.1,h.1.2.1 _ _ I.size (fun k _ J=>I.block k J) h.1.2.2⟩,h.2.below I⟩
 | .oP _ _ :: _,h=>⟨⟨fun k J=>Nat.lt_of_lt_of_le (h.1.1 k J) I.size,h.1.2.1,h.1.2.1 _ _ I.size (fun k _ J=>I.block k J) h.1.2.2⟩,h.2.below I⟩
theorem fQ.grown {w W bM:World} {g:Nat} (U:W.grownBy bM (some g)) (hw:w.heap.size<=g) (fx:w.heap.size<=W.heap.size):∀ {l:eM},fQ W l->(∀ e ∈ l,e.ok w)->(∀ e ∈ l,¬ e.key g)->fQ bM l
 | [],_,_,_=>trivial
 | .b _ _ _ :: _,h,bb,aS=>⟨eQ h.1 U (fun he=>aS _ List.mem_cons_self (by injection he with he;exact he.symm)),fQ.grown U hw fx h.2 (fun e he=>bb e (List.mem_cons_of_mem _ he)) (fun e he=>aS e (List.mem_cons_of_mem _ he))⟩
 | .dI k _ _ :: _,h,bb,aS=>by
  have aJ:k < w.heap.size:=bb _ List.mem_cons_self
  exact ⟨eQ h.1 U (fun he=>by injection he with he;omega),fQ.grown U hw fx h.2 (fun e he=>bb e (List.mem_cons_of_mem _ he)) (fun e he=>aS e (List.mem_cons_of_mem _ he))⟩
 | .f cy _ :: _,h,bb,aS=>by
  have aJ:cy.block < w.heap.size:=bb _ List.mem_cons_self
  exact ⟨(U.cell h.1 (fun he=>by injection he with he;omega)),fQ.grown U hw fx h.2 (fun e he=>bb e (List.mem_cons_of_mem _ he)) (fun e he=>aS e (List.mem_cons_of_mem _ he))⟩
 | .r ok _ :: _,h,bb,aS=>⟨⟨fun k J=>Nat.lt_of_lt_of_le (h.1.1 k J) U.size,h.1.2.1,h.1.2.1 _ _ U.size (fun k h1 ar=>U.block k ar (fun he=>aS _ List.mem_cons_self (by injection he with he;subst he;exact h1))) h.1.2.2⟩,fQ.grown U hw fx h.2 (fun e he=>bb e (List.mem_cons_of_mem _ he)) (fun e he=>aS e (List.mem_cons_of_mem _ he))⟩
 | .oP ok _ :: _,h,bb,aS=>by
  have aJ:∀ k,ok k->k < w.heap.size:=bb _ List.mem_cons_self;exact ⟨⟨fun k J=>Nat.lt_of_lt_of_le (h.1.1 k J) U.size,h.1.2.1,h.1.2.1 _ _ U.size (fun k h1 ar=>U.block k ar (fun he=>by injection he with he;have:=aJ k h1;omega)) h.1.2.2⟩,fQ.grown U hw fx h.2 (fun e he=>bb e (List.mem_cons_of_mem _ he)) (fun e he=>aS e (List.mem_cons_of_mem _ he))⟩
theorem fQ.at_ {W:World} {g:Nat} {cs:Array Value} {t:TypeId}:∀ {l:eM},fQ W l->gF l g cs t->W.heap[g]? = some (.cells cs t (0,0))
 | _,h,.here=>h.1
 | _,h,.kept=>h.1
 | .b _ _ _ :: _,h,.there ct=>fQ.at_ h.2 ct
 | .dI _ _ _ :: _,h,.there ct=>fQ.at_ h.2 ct
 | .f _ _ :: _,h,.there ct=>fQ.at_ h.2 ct
 | .r _ _ :: _,h,.there ct=>fQ.at_ h.2 ct
 | .oP _ _ :: _,h,.there ct=>fQ.at_ h.2 ct
theorem fQ.lt {W:World} {k:Nat}:∀ {l:eM},fQ W l->∀ e ∈ l,e.key k->k < W.heap.size
 | .b _ _ _ :: _,h,e,he,J=>by
  rcases List.mem_cons.1 he with rfl | he
  ·cases J;exact dK h.1
  ·exact fQ.lt h.2 e he J
 | .dI _ _ _ :: _,h,e,he,J=>by
  rcases List.mem_cons.1 he with rfl | he
  ·cases J
  ·exact fQ.lt h.2 e he J
 | .f _ _ :: _,h,e,he,J=>by
  rcases List.mem_cons.1 he with rfl | he
  ·cases J
  ·exact fQ.lt h.2 e he J
 | .r _ _ :: _,h,e,he,J=>by
  rcases List.mem_cons.1 he with rfl | he
  ·exact h.1.1 _ J
  ·exact fQ.lt h.2 e he J
 | .oP _ _ :: _,h,e,he,J=>by
  rcases List.mem_cons.1 he with rfl | he
  ·cases J
  ·exact fQ.lt h.2 e he J
theorem ba.step {w W bM:World} {l:eM} (h:ba w W l) (I:Below W.heap.size W bM):ba w bM l:=⟨fb h.below I,h.eU.below I,h.fresh,h.apart⟩
theorem ba.push {w W bM:World} {l:eM} (h:ba w W l) (I:Below W.heap.size W bM) {cs:Array Value} {t:TypeId} (U:bM.heap[W.heap.size]? = some (.cells cs t (0,0))):ba w bM (.b W.heap.size cs t :: l):=
 ⟨fb h.below I,⟨U,h.eU.below I⟩,fun e he=>by
  rcases List.mem_cons.1 he with rfl | he
  ·exact h.below.size
  ·exact h.fresh e he,List.Pairwise.cons (fun e he k J iI=>by cases J;exact Nat.lt_irrefl _ (h.eU.lt e he iI)) h.apart⟩
theorem lX.at_ {g:Nat} {cs gN:Array Value} {t:TypeId}:∀ {l l':eM},lX l g cs gN t l'->gF l g cs t
 | _,_,.here=> .here
 | _,_,.there h=> .there h.at_
theorem lX.Ha {g:Nat} {cs gN:Array Value} {t:TypeId}:∀ {l l':eM},lX l g cs gN t l'-> .b g cs t ∈ l
 | _,_,.here=>List.mem_cons_self
 | _,_,.there h=>List.mem_cons_of_mem _ h.Ha
theorem lX.mem {w:World} {g:Nat} {cs gN:Array Value} {t:TypeId}:∀ {l l':eM},lX l g cs gN t l'->∀ e ∈ l',∃ m2 ∈ l,(∀ k,e.key k->m2.key k)/\(m2.ok w->e.ok w)
 | _,_,.here,e,he=>by
  rcases List.mem_cons.1 he with rfl | he
  ·exact ⟨_,List.mem_cons_self,fun _ h=>h,fun h=>h⟩
  ·exact ⟨e,List.mem_cons_of_mem _ he,fun _ h=>h,fun h=>h⟩
 | _,_,.there h,e,he=>by
  rcases List.mem_cons.1 he with rfl | he
  ·exact ⟨_,List.mem_cons_self,fun _ h=>h,fun h=>h⟩
  ·obtain ⟨m2,h1,ar⟩:=h.mem e he
   exact ⟨m2,List.mem_cons_of_mem _ h1,ar⟩
theorem lX.eU {w W bM:World} {g:Nat} {cs gN:Array Value} {t:TypeId} (U:W.grownBy bM (some g)) (hw:w.heap.size<=g) (fx:w.heap.size<=W.heap.size) (ay:bM.heap[g]? = some (.cells gN t (0,0))):∀ {l l':eM},lX l g cs gN t l'->fQ W l->(∀ e ∈ l,e.ok w)->l.Pairwise HV->fQ bM l'
 | _,_,.here,h,bb,aB=>⟨ay,h.2.grown U hw fx (fun e he=>bb e (List.mem_cons_of_mem _ he)) (fun e he J=>(List.pairwise_cons.1 aB).1 e he g rfl J)⟩
 | .b _ _ _ :: _,_,.there ct,h,bb,aB=>⟨eQ h.1 U (fun he=>(List.pairwise_cons.1 aB).1 _ ct.Ha g (by injection he with he;exact he.symm) rfl),ct.eU U hw fx ay h.2 (fun e he=>bb e (List.mem_cons_of_mem _ he)) (List.pairwise_cons.1 aB).2⟩
 | .dI k _ _ :: _,_,.there ct,h,bb,aB=>by
  have aJ:k < w.heap.size:=bb _ List.mem_cons_self
  exact ⟨eQ h.1 U (fun he=>by injection he with he;omega),ct.eU U hw fx ay h.2 (fun e he=>bb e (List.mem_cons_of_mem _ he)) (List.pairwise_cons.1 aB).2⟩
 | .f cy _ :: _,_,.there ct,h,bb,aB=>by
  have aJ:cy.block < w.heap.size:=bb _ List.mem_cons_self
  exact ⟨(U.cell h.1 (fun he=>by injection he with he;omega)),ct.eU U hw fx ay h.2 (fun e he=>bb e (List.mem_cons_of_mem _ he)) (List.pairwise_cons.1 aB).2⟩
 | .r ok _ :: _,_,.there ct,h,bb,aB=>⟨⟨fun k J=>Nat.lt_of_lt_of_le (h.1.1 k J) U.size,h.1.2.1,h.1.2.1 _ _ U.size (fun k h1 ar=>U.block k ar (fun he=>(List.pairwise_cons.1 aB).1 _ ct.Ha k h1 (by injection he))) h.1.2.2⟩,ct.eU U hw fx ay h.2 (fun e he=>bb e (List.mem_cons_of_mem _ he)) (List.pairwise_cons.1 aB).2⟩
 | .oP ok _ :: _,_,.there ct,h,bb,aB=>by
  have aJ:∀ k,ok k->k < w.heap.size:=bb _ List.mem_cons_self;exact ⟨⟨fun k J=>Nat.lt_of_lt_of_le (h.1.1 k J) U.size,h.1.2.1,h.1.2.1 _ _ U.size (fun k h1 ar=>U.block k ar (fun he=>by injection he with he;have:=aJ k h1;omega)) h.1.2.2⟩,ct.eU U hw fx ay h.2 (fun e he=>bb e (List.mem_cons_of_mem _ he)) (List.pairwise_cons.1 aB).2⟩
theorem lX.apart {g:Nat} {cs gN:Array Value} {t:TypeId} (w:World):∀ {l l':eM},lX l g cs gN t l'->l.Pairwise HV->l'.Pairwise HV
 | _,_,.here,aB=>List.pairwise_cons.2 ⟨fun e he k J=>(List.pairwise_cons.1 aB).1 e he k J,(List.pairwise_cons.1 aB).2⟩
 | _,_,.there ct,aB=>List.pairwise_cons.2 ⟨fun e he k J iI=>by obtain ⟨m2,h1,ar,-⟩:=ct.mem (w:=w) e he;exact (List.pairwise_cons.1 aB).1 m2 h1 k J (ar k iI),ct.apart w (List.pairwise_cons.1 aB).2⟩
theorem ba.xb {w W bM:World} {l l':eM} {g:Nat} {cs gN:Array Value} {t:TypeId} (h:ba w W l) (U:W.grownBy bM (some g)) (ay:bM.heap[g]? = some (.cells gN t (0,0))) (hu:lX l g cs gN t l'):ba w bM l':=
 have hw:w.heap.size<=g:=h.fresh _ hu.Ha
 ⟨mA h.below _ h.below.size U (fun z aX=>by cases aX;exact hw),hu.eU U hw h.below.size ay h.eU h.fresh h.apart,fun e he=>by obtain ⟨m2,h1,-,ar⟩:=hu.mem (w:=w) e he;exact ar (h.fresh m2 h1),hu.apart w h.apart⟩
theorem ba.pop {w W:World} {e:kk} {l:eM} (h:ba w W (e :: l)):ba w W l:=
 ⟨h.below,by cases e <;> exact h.eU.2,fun e he=>h.fresh e (List.mem_cons_of_mem _ he),(List.pairwise_cons.1 h.apart).2⟩
def kk.bE:kk->kk
 | .b g cs t=> .dI g cs t
 | .dI g cs t=> .dI g cs t
 | .f cy v=> .f cy v
 | .r ok F=> .oP ok F
 | .oP ok F=> .oP ok F
theorem fQ.bE {W:World}:∀ {l:eM},fQ W l->fQ W (l.map kk.bE)
 | [],_=>trivial
 | .b _ _ _ :: _,h=>⟨h.1,h.2.bE⟩
 | .dI _ _ _ :: _,h=>⟨h.1,h.2.bE⟩
 | .f _ _ :: _,h=>⟨h.1,h.2.bE⟩
 | .r _ _ :: _,h=>⟨h.1,h.2.bE⟩
 | .oP _ _ :: _,h=>⟨h.1,h.2.bE⟩
theorem fQ.CM {W:World}:∀ {l:eM},fQ W l->∀ e ∈ l.map kk.bE,e.ok W
 | .b _ _ _ :: _,h,e,he=>by
  rcases List.mem_cons.1 he with rfl | he
  ·exact dK h.1
  ·exact fQ.CM h.2 e he
 | .dI _ _ _ :: _,h,e,he=>by
  rcases List.mem_cons.1 he with rfl | he
  ·exact dK h.1
  ·exact fQ.CM h.2 e he
 | .f _ _ :: _,h,e,he=>by
  rcases List.mem_cons.1 he with rfl | he
  ·exact World.block_lt_of_cell? _ _ h.1
  ·exact fQ.CM h.2 e he
 | .r _ _ :: _,h,e,he=>by
  rcases List.mem_cons.1 he with rfl | he
  ·exact h.1.1
  ·exact fQ.CM h.2 e he
 | .oP _ _ :: _,h,e,he=>by
  rcases List.mem_cons.1 he with rfl | he
  ·exact h.1.1
  ·exact fQ.CM h.2 e he
theorem YX (e:kk) (k:Nat):¬ e.bE.key k:=by cases e <;> exact fun h=>h
theorem ba.Bj {w W:World} {l:eM} (h:ba w W l):ba W W (l.map kk.bE):=
 ⟨Below.refl _ _,h.eU.bE,h.eU.CM,List.pairwise_iff_forall_sublist.2 fun {a b} hs k J=>by
  have hm:a ∈ l.map kk.bE:=hs.subset List.mem_cons_self;obtain ⟨e,-,rfl⟩:=List.mem_map.1 hm;exact absurd J (YX e k)⟩
theorem ba.row {w W bM:World} {l:eM} {ok:Nat->Prop} {F:World->Prop} (h:ba w W l) (I:Below W.heap.size W bM) (J:∀ k,ok k->W.heap.size<=k/\k < bM.heap.size) (hs:xC ok F) (hF:F bM):ba w bM (.r ok F :: l):=
 ⟨fb h.below I,⟨⟨fun k h=>(J k h).2,hs,hF⟩,h.eU.below I⟩,fun e he=>by
  rcases List.mem_cons.1 he with rfl | he
  ·exact fun k ar=>Nat.le_trans h.below.size (J k ar).1
  ·exact h.fresh e he,List.Pairwise.cons (fun e he k h1 ar=>Nat.lt_irrefl _ (Nat.lt_of_lt_of_le (h.eU.lt e he ar) (J k h1).1)) h.apart⟩
def n3 (hC aa:Nat):Nat->Prop:=fun k=>hC<=k/\k < aa
def oQ {α:Type} (d:Kd α) (e hC:Nat) (ok:Nat->Prop) (v:Value) (xs:List α):World->Prop:=fun V=>d.aC e V hC ok v xs
theorem ba.made {α:Type} {d:Kd α} {e:Nat} {v:Value} {xs:List α} {w W bM:World} {l:eM} (h:ba w W l) (I:Below W.heap.size W bM) (ao:d.aC e bM W.heap.size (fun _=>True) v xs):ba w bM (.r (n3 W.heap.size bM.heap.size) (oQ d e w.heap.size (n3 W.heap.size bM.heap.size) v xs) :: l):=
 h.row I (fun k J=>J) (fun V rG hs J dB=>Kd.eI dB (fun k h1 ar=>J k h1 ar)) (Kd.ft (Kd.cG (Kd.fW ao) (fun k J=>⟨J.2.1,J.2.2.1⟩)) h.below.size)
theorem ba.lK {w W bM:World} {l:eM} {ok ok':Nat->Prop} {F IV:World->Prop} {row:Option Nat} (h:ba w W (.r ok F :: l)) (U:W.grownBy bM row) (jw:∀ k,row=some k->ok k) (J:∀ k,ok' k->(ok k\/W.heap.size<=k)/\k < bM.heap.size) (hs:xC ok' IV) (hF:IV bM):ba w bM (.r ok' IV :: l):=by
 have m':∀ k,ok k->w.heap.size<=k:=h.fresh (.r ok F) List.mem_cons_self;have JT:=List.pairwise_cons.1 h.apart;have A1:Below w.heap.size w bM:=mA h.below _ h.below.size U (fun z aX=>m' z (jw z aX));refine ⟨A1,⟨⟨fun k h1=>(J k h1).2,hs,hF⟩, ?_⟩,fun e he=> ?_,List.Pairwise.cons (fun e he k h1 ar=> ?_) JT.2⟩
 ·cases row with
  | none=>exact h.eU.2.below ⟨U.os,U.tape,U.output,U.size,fun k J=>U.block k J (by simp)⟩
  | some g=>exact h.eU.2.grown U (m' g (jw g rfl)) h.below.size (fun e he=>h.fresh e (List.mem_cons_of_mem _ he)) (fun e he J=>JT.1 e he g (jw g rfl) J)
 ·rcases List.mem_cons.1 he with rfl | he
  ·intro k ar
   rcases (J k ar).1 with aA | aA
   ·exact m' k aA
   ·exact Nat.le_trans h.below.size aA
  ·exact h.fresh e (List.mem_cons_of_mem _ he)
 ·rcases (J k h1).1 with aA | aA
  ·exact JT.1 e he k aA ar
  ·exact Nat.lt_irrefl _ (Nat.lt_of_lt_of_le (h.eU.2.lt e he ar) aA)
theorem ba.perm {w W:World} {l l':eM} (h:ba w W l) (aB:l.Perm l'):ba w W l':=by
 have key:∀ {l l':eM},l.Perm l'->fQ W l->fQ W l':=by
  intro l l' aB
  induction aB with
  | nil=>exact id
  | cons x _ fI=>intro h;cases x <;> exact ⟨h.1,fI h.2⟩
  | swap x y l=>intro h;cases x <;> cases y <;> exact ⟨h.2.1,h.1,h.2.2⟩
  | trans _ _ h1 ar=>exact fun h=>ar (h1 h)
 exact ⟨h.below,key aB h.eU,fun e he=>h.fresh e (aB.mem_iff.2 he),h.apart.perm aB (fun h k h1 ar=>h k ar h1)⟩
inductive Has:eM->(World->Prop)->Prop
 | here {ok F l}:Has (.r ok F :: l) F
 | kept {ok F l}:Has (.oP ok F :: l) F
 | there {F e l}:Has l F->Has (e :: l) F
theorem fQ.get {W:World} {F:World->Prop}:∀ {l:eM},fQ W l->Has l F->F W
 | _,h,.here=>h.1.2.2
 | _,h,.kept=>h.1.2.2
 | .b _ _ _ :: _,h,.there ct=>fQ.get h.2 ct
 | .dI _ _ _ :: _,h,.there ct=>fQ.get h.2 ct
 | .f _ _ :: _,h,.there ct=>fQ.get h.2 ct
 | .r _ _ :: _,h,.there ct=>fQ.get h.2 ct
 | .oP _ _ :: _,h,.there ct=>fQ.get h.2 ct
theorem ba.get {w W:World} {l:eM} {F:World->Prop} (h:ba w W l) (c0:Has l F:=by repeat (first|exact .here | exact .kept | apply Has.there)):F W:=h.eU.get c0
theorem ba.so {w W:World} {l:eM} {α:Type} {d:Kd α} {e hC:Nat} {ok:Nat->Prop} {v:Value} {xs:List α} (h:ba w W l) (c0:Has l (oQ d e hC ok v xs):=by repeat (first|exact .here | exact .kept | apply Has.there)):d.aC e W hC ok v xs:=h.eU.get c0
theorem ba.named {w W:World} {l:eM} (h:av (ba w W l)):∃ L,av (l=L)/\av (ba w W L):=⟨l,⟨rfl⟩,h⟩
theorem ba.H2 {w W:World} {e:kk} {l:eM} (h:av (ba w W (e :: l))):∃ L,av (l=L)/\av (ba w W (e :: L)):=⟨l,⟨rfl⟩,h⟩
theorem ba.Yq {w W:World} {e b:kk} {l:eM} (h:av (ba w W (e :: b :: l))):∃ E L,av (e=E)/\av (l=L)/\av (ba w W (E :: b :: L)):=⟨e,l,⟨rfl⟩,⟨rfl⟩,h⟩
theorem ba.drew {w W:World} {l:eM} (h:ba w W l):ba w W.drew l:=h.step (ei (Below.refl _ _))
def XS:Op->Bool
 | .alloc _=>true
 | .box _ _=>true
 | _=>false
section
variable {P:Program} {ops:Array Oper} {rest:List Oper} {o:Oper} {a:Go.Act} {Q:Exit->Go.Act->World->Prop} {w W:World} {l:eM}
theorem gB {t:TypeId} {x:Operand} {N:Tmp} {ty:TypeId} {bK:String} {e2:Array Edge} (h:wpList P ops Q ({dst:=some N,op:=.box t x,type:=ty,pos:=bK,after:=e2,guard:=none} :: rest) a W):wpList P ops Q ({dst:=some N,op:=.box t x,type:=ty,pos:=bK,after:=e2,guard:=none} :: rest) a W:=h
theorem gA {t:TypeId} {N:Tmp} {ty:TypeId} {bK:String} {e2:Array Edge} (h:wpList P ops Q ({dst:=some N,op:=.alloc t,type:=ty,pos:=bK,after:=e2,guard:=none} :: rest) a W):wpList P ops Q ({dst:=some N,op:=.alloc t,type:=ty,pos:=bK,after:=e2,guard:=none} :: rest) a W:=h
theorem cv {t:TypeId} {x:Operand} {N:Tmp} {ty:TypeId} {bK:String} {e2:Array Edge} (h:wpList P ops Q ({dst:=some N,op:=.load t x,type:=ty,pos:=bK,after:=e2,guard:=none} :: rest) a W):wpList P ops Q ({dst:=some N,op:=.load t x,type:=ty,pos:=bK,after:=e2,guard:=none} :: rest) a W:=h
theorem da {t:TypeId} {p x:Operand} {ty:TypeId} {bK:String} {e2:Array Edge} (h:wpList P ops Q ({dst:=none,op:=.store t p x,type:=ty,pos:=bK,after:=e2,guard:=none} :: rest) a W):wpList P ops Q ({dst:=none,op:=.store t p x,type:=ty,pos:=bK,after:=e2,guard:=none} :: rest) a W:=h
theorem cx {cs:Array Value} {t:TypeId} {N:Tmp} (I:XS o.op=true) (M:ba w W l) (h:∀ g bM,av (ba w bM (.b g cs t :: l))->ah bM (.b g cs t :: l)->wpList P ops Q rest (a.put (some N) (.pointer (some ⟨g,0,none⟩))) bM)
  (aO:o.dst=some N:=by rfl) (eO:o.guard=none:=by rfl)
  (iT:(execOp a.eval o).run P W= .ok (.value (.pointer (some ⟨W.heap.size,0,none⟩))) (W.alloc (.cells cs t (0,0))):=by go_simp <;> rfl):wpList P ops Q (o :: rest) a W:=
 Kd.C1 eO iT (by rw [aO];exact h _ _ ⟨M.push (mz (Below.refl _ _) _) (y9 W _)⟩ (M.push (mz (Below.refl _ _) _) (y9 W _)).aw)
theorem dV {t:TypeId} {x:Operand} {g:Nat} {cs:Array Value} {N:Tmp} (aT:o.op= .load t x) (az:a.eval x= .pointer (some ⟨g,0,none⟩)) (M:ba w W l) (h:wpList P ops Q rest (a.put (some N) (.agg cs)) W)
  (iQ:gF l g cs t:=by repeat (first|exact .here | exact .kept | apply gF.there)) (aO:o.dst=some N:=by rfl) (eO:o.guard=none:=by rfl)
  (hu:(match P.underlying t with | some d=>d.isRow && ((P.info? t).map (·.size) == some cs.size)|none=>false)=true:=by kernel_rfl):wpList P ops Q (o :: rest) a W:=by
 cases aB:P.underlying t with
 | none=>rw [aB] at hu;cases hu
 | some d=>
  rw [aB] at hu;simp only [Bool.and_eq_true,beq_iff_eq] at hu;refine aaF (cs:=cs.toList) eO t x aT d az (by simpa using M.eU.at_ iQ) aB hu.1 (by simpa using hu.2) ?_;rw [aO];simpa using h
theorem dv {t:TypeId} {p x:Operand} {g:Nat} {cs gN:Array Value} {l':eM} (aT:o.op= .store t p x) (aB:a.eval p= .pointer (some ⟨g,0,none⟩)) (az:a.eval x= .agg gN) (M:ba w W l)
  (h:∀ bM,av (ba w bM l')->ah bM l'->wpList P ops Q rest a bM) (iQ:lX l g cs gN t l':=by repeat (first|exact .here | apply lX.there)) (hs:((gN.size == cs.size) && ((P.info? t).map (·.size) == some gN.size) && gN.all (·.oneCell'))=true:=by kernel_rfl)
  (cz:o.dst=none:=by rfl) (eO:o.guard=none:=by rfl):wpList P ops Q (o :: rest) a W:=by
 simp only [Bool.and_eq_true,beq_iff_eq,Array.all_eq_true_iff_forall_mem] at hs;refine C7 (cs:=gN.toList) eO cz t p x aT aB (by simpa using az) (M.eU.at_ iQ.at_) (by simpa using hs.1.1) (by simpa using hs.1.2) (fun v bp=>hs.2 v (by simpa using bp)) ?_;intro w1 h1 U;have hm:=M.xb U (by simpa using h1) iQ;exact h _ ⟨hm⟩ hm.aw
theorem N1 {t e:TypeId} {p x:Operand} {g j:Nat} {v:Value} {cs:Array Value} {l':eM} (aT:o.op= .store t p x) (aB:a.eval p= .pointer (some ⟨g,j,none⟩)) (az:a.eval x=v) (M:ba w W l) (iQ:lX l g cs (cs.setIfInBounds j v) e l')
  (h:∀ bM,av (ba w bM l')->ah bM l'->wpList P ops Q rest a bM) (aI:j < cs.size) (aa:(P.info? t).map (·.size)=some 1) (bp:v.cells= #[v]) (h1:v.oneCell'=true) (cz:o.dst=none) (eO:o.guard=none):wpList P ops Q (o :: rest) a W:=by
 have c0:=M.eU.at_ iQ.at_;refine wpList_plain eO fun K au=> ?_
 obtain ⟨info,ng,cP⟩:=Option.map_eq_some_iff.1 aa;unfold Oper.wp execOp
 have iT:(Instr.storeAt t (.pointer (some ⟨g,j,none⟩)) v).run P W= .ok () (W.setCell ⟨g,j,none⟩ v):=by
  have:=run_storeCells_cells (P:=P) g j [v] 0 W (fun k J=>by
   have:k=0:=by simpa using J
   subst this;simp [bf c0 j,Array.getElem?_eq_getElem aI]) (fun k J=>by
   have:k=0:=by simpa using J
   subst this;exact iX c0 j) (fun q aF=>by rw [List.mem_singleton.1 aF];exact h1)
  simp only [Nat.add_zero] at this;simp [Instr.storeAt,Instr.sureAddr,storeVar,sizeOf,typeInfo,ng,cP,bp,this,World.setCells]
 simp only [aT,aB,az,Sem.run_bind,iT,Result.andThen_ok,Sem.run_pure,Oper.upon_skip];rw [cz];obtain ⟨s1,s2,ec,gx⟩:=pV g [v] j W;have U:W.grownBy (W.setCell ⟨g,j,none⟩ v) (some g):=⟨s1,s2,ec,Nat.le_of_eq gx.symm,fun i aa cm=>Below.heap_setCell W ⟨g,j,none⟩ v i (fun he=>cm (by rw [he]))⟩;have hm:=M.xb U (ku c0 j v) iQ;exact au _ _ (h _ ⟨hm⟩ hm.aw)
theorem yd {t e:TypeId} {p x:Operand} {g j:Nat} {v:Value} {cs gN:Array Value} {l':eM} (aT:o.op= .store t p x) (aB:a.eval p= .pointer (some ⟨g,j,none⟩)) (az:a.eval x=v) (M:ba w W l)
  (h:∀ bM,av (ba w bM l')->ah bM l'->wpList P ops Q rest a bM) (dy:gF l g cs e:=by repeat (first|exact .here | apply gF.there)) (ay:gN=cs.setIfInBounds j v:=by simp only [List.setIfInBounds_toArray,List.set_cons_zero,List.set_cons_succ];rfl) (iQ:lX l g cs gN e l':=by repeat (first|exact .here | apply lX.there))
  (bp:v.cells= #[v]:=by rfl) (hs:(decide (j < cs.size) && ((P.info? t).map (·.size) == some 1) && v.oneCell')=true:=by kernel_rfl)
  (cz:o.dst=none:=by rfl) (eO:o.guard=none:=by rfl):wpList P ops Q (o :: rest) a W:=by
 subst ay;simp only [Bool.and_eq_true,beq_iff_eq,decide_eq_true_eq] at hs;exact N1 aT aB az M iQ h hs.1.1 hs.1.2 bp hs.2 cz eO
theorem ZB (hs:List Int) (j:Nat) (v:Int):(nums .i64 hs).toArray.setIfInBounds j (.int .i64 v)=(nums .i64 (hs.set j v)).toArray:=by
 rw [List.setIfInBounds_toArray];unfold nums;rw [List.map_set]
theorem RC {hs:List Int} {j:Nat} (h:j < hs.length):(nums .i64 hs).toArray[j]? = some (.int .i64 (hs.getD j 0)):=by
 rw [List.getElem?_toArray];unfold nums;simp [h]
theorem Dq {t e:TypeId} {x y:Operand} {N:Tmp} {m:Nat} (aT:o.op= .makeSlice t x y) (az:a.eval x= .int .i64 (m:Int)) (aW:a.eval y= .int .i64 (m:Int)) (a6:P.underlying t=some (.slice e)) (ng:(P.info? e).map (fun i=>(i.zero,i.size,i.bytes))=some (some (.int .i64 0),1,8)) (M:ba w W l) (hm:m<=1048576)
  (h:∀ g bM,av (ba w bM (.b g (nums .i64 (List.replicate m 0)).toArray e :: l))->ah bM (.b g (nums .i64 (List.replicate m 0)).toArray e :: l)->wpList P ops Q rest (a.put (some N) (.slice (some ⟨g,0,none⟩) m m)) bM)
  (aO:o.dst=some N:=by rfl) (eO:o.guard=none:=by rfl):wpList P ops Q (o :: rest) a W:=by
 have ak:madeCells #[Value.int .i64 0] m=(nums .i64 (List.replicate m 0)).toArray:=by
  apply Array.toList_inj.1;apply List.ext_getElem
  ·simp [nums,madeCells]
  ·intro i h1 ar
   simp [nums,madeCells,Nat.mod_one]
 have ao:=aaC t e .i64 8 a6 ng (by decide) m (by omega) W;rw [ak] at ao;have pG:=M.push (cs:=(nums .i64 (List.replicate m 0)).toArray) (t:=e) (mz (Below.refl _ _) (.cells (nums .i64 (List.replicate m 0)).toArray e)) (y9 W _);refine Kd.C1 eO (v:=.slice (some ⟨W.heap.size,0,none⟩) m m) (w1:=W.alloc (.cells (nums .i64 (List.replicate m 0)).toArray e)) ?_ (by rw [aO];exact h _ _ ⟨pG⟩ pG.aw);unfold execOp;simp only [aT,az,aW,Sem.run_bind,ao,Result.andThen_ok,Sem.run_pure]
theorem M0 {t e:TypeId} {p x:Operand} {g j:Nat} {v:Int} {hs:List Int} {l':eM} (aT:o.op= .store t p x) (aB:a.eval p= .pointer (some ⟨g,j,none⟩)) (az:a.eval x= .int .i64 v) (M:ba w W l) (iQ:lX l g (nums .i64 hs).toArray (nums .i64 (hs.set j v)).toArray e l') (aI:j < hs.length)
  (h:∀ bM,av (ba w bM l')->ah bM l'->wpList P ops Q rest a bM) (hs:(P.info? t).map (·.size)=some 1:=by kernel_rfl)
  (cz:o.dst=none:=by rfl) (eO:o.guard=none:=by rfl):wpList P ops Q (o :: rest) a W:=
 N1 aT aB az M (by rw [ZB];exact iQ) h (by simpa [nums] using aI) hs rfl rfl cz eO
theorem fZ {t:TypeId} {x:Operand} {b off:Nat} {cs:List Value} {N:Tmp} (aT:o.op= .load t x) (az:a.eval x= .pointer (some ⟨b,off,none⟩)) (M:ba w W l) (ay:∀ j u,cs[j]? = some u->w.cell? ⟨b,off+j,none⟩=some u) (h:wpList P ops Q rest (a.put (some N) (.agg cs.toArray)) W)
  (aO:o.dst=some N:=by rfl) (eO:o.guard=none:=by rfl)
  (hu:(match P.underlying t with | some d=>d.isRow && ((P.info? t).map (·.size) == some cs.length)|none=>false)=true:=by kernel_rfl):wpList P ops Q (o :: rest) a W:=by
 cases aB:P.underlying t with
 | none=>rw [aB] at hu;cases hu
 | some d=>
  rw [aB] at hu;simp only [Bool.and_eq_true,beq_iff_eq] at hu;refine wpList_load_mid eO t x aT b off az cs d (fun j u aI=>j2 M.below (ay j u aI)) aB hu.1 hu.2 ?_;rw [aO];exact h
end
theorem Dr {P:Program} {f:FuncId} {args:Array Value} {w W:World} {l:eM} {r:Ending} {Q:Ending->World->Prop} (M:ba w W l) (ay:Calls P f args W fun e bM=>e=r/\Below W.heap.size W bM) (h:∀ bM,av (ba w bM l)->ah bM l->Q r bM):Calls P f args W Q:=
 ay.mono fun e bM ⟨he,I⟩=>by subst he;exact h _ ⟨M.step I⟩ (M.step I).aw
theorem To {P:Program} {f:FuncId} {args:Array Value} {W:World} {r:Ending} {Q:Ending->World->Prop} (ay:Calls P f args W fun e bM=>e=r/\W=bM) (h:Q r W):Calls P f args W Q:=
 ay.mono fun e bM ⟨he,I⟩=>by subst he;subst I;exact h
theorem hQ {P:Program} {f:FuncId} {args:Array Value} {W:World} {x b:Bool} {Q:Ending->World->Prop} (ay:Calls P f args W fun e bM=>e= .returned (.bool x)/\W=bM) (az:x=b) (h:Q (.returned (.bool b)) W):Calls P f args W Q:=
 by subst az;exact To ay h
theorem hd {P:Program} {f:FuncId} {args:Array Value} {w W:World} {l:eM} {x b:Bool} {Q:Ending->World->Prop} (M:ba w W l) (ay:Calls P f args W fun e bM=>e= .returned (.bool x)/\Below W.heap.size W bM) (az:x=b) (h:∀ bM,av (ba w bM l)->ah bM l->Q (.returned (.bool b)) bM):Calls P f args W Q:=
 by subst az;exact Dr M ay h
def pw (P:Program) (ops:Array Oper) (Q:Exit->Go.Act->World->Prop) (w:World) (l:eM) (n:Nat) (is:List Nat) (a:Go.Act) (W:World):Prop:=
 fM P .any ops Q (fun V=>ba w V l) [] (n - is.length) (lu (Array.replicate n false) is) a W
theorem tp:∀ (is dQ:List Nat) (x:Array Bool),lu x (is ++ dQ)=lu (lu x is) dQ
 | [],_,_=>rfl
 | i :: is,dQ,x=>tp is dQ _
section
variable {P:Program} {ops:Array Oper} {o:Oper} {a:Go.Act} {Q:Exit->Go.Act->World->Prop} {w W:World} {l:eM} {n:Nat}
theorem gL {id:Nat} (M:ba w W l) (h:∀ bM,av (ba w bM l)->pw P ops Q w l n [] a bM) (hm:P.follows .mixedOrders=true:=by kernel_rfl) (aS:ops.size=n:=by rfl):(Code.region id ops true).wp P Q a W:=
 HY (S:=fun V=>ba w V l) (ds:= []) _ hm aS rfl M.drew (fun c0=>h _ ⟨c0⟩)
theorem dx {dQ:List Nat} (is:List Nat) (M:ba w W l) (h:jx P ops (fun V=>ah V l) is (fun a'=>pw P ops Q w l n (dQ ++ is) a' W) a)
  (ay:(xM .any ops [] (lu (Array.replicate n false) dQ) is && (n - dQ.length == n - (dQ ++ is).length+is.length))=true:=by kernel_rfl)
  (mC:∀ N v c a w,Q (.panic c) (Go.Act.put a N v) w->Q (.panic c) a w:=by (intro N _ _ _ _ h;cases N <;> exact h)):pw P ops Q w l n dQ a W:=by
 simp only [Bool.and_eq_true,beq_iff_eq] at ay;unfold pw;rw [ay.2];refine F3 (S:=fun V=>ba w V l) mC M is _ a ay.1 rfl ?_
 have key:∀ (is:List Nat) (K j3:Go.Act->Prop) (a:Go.Act),(∀ a,K a->j3 a)->jx P ops (fun V=>ah V l) is K a->jx P ops (fun V=>ba w V l) is j3 a:=by
  intro is
  induction is with
  | nil=>exact fun K j3 a J h=>J _ h
  | cons i is fI=>
   rintro K j3 a J ⟨c2,v,h1,ar,aA⟩;exact ⟨c2,v,h1,ar.imp (fun h=>⟨h.1,fun V dB=>h.2 V dB.aw⟩) id,fI _ _ _ J aA⟩
 exact key _ _ _ _ (fun a' h=>by unfold pw at h;rw [tp] at h;exact h) h
theorem Gp {o:Oper} {y:Nat->Option Bool} (h:o.guard=none):Region.wanted o y=true:=by simp [Region.wanted,h]
theorem Gq {o:Oper} {y:Nat->Option Bool} {j:Nat} {b mB:Bool} (h:o.guard=some (j,b)) (aW:y j=some mB):Region.wanted o y=(mB == b):=by cases b <;> cases mB <;> simp [Region.wanted,h,aW]
theorem cc {i:Nat} {is:List Nat} {K:Go.Act->Prop} {N:Option Tmp} {op:Op} {ty:TypeId} {bK:String} {e2:Array Edge} {cQ:Option (Nat × Bool)} {a':Go.Act} {v:Value} (aa:ops[i]? = some {dst:=N,op:=op,type:=ty,pos:=bK,after:=e2,guard:=cQ}) (h:jx P ops (fun V=>ah V l) is K a') (U:cQ=none:=by rfl)
  (ao:∀ V,ah V l->(execOp a.eval {dst:=N,op:=op,type:=ty,pos:=bK,after:=e2,guard:=cQ}).run P V= .ok (.value v) V:=by intro V C;simp only [ah] at C;go_simp;with_reducible rfl)
  (ha:a.put N v=a':=by simp only [Act.put,nL,nM,nN,k0];rfl):jx P ops (fun V=>ah V l) (i :: is) K a:=
 ⟨_,v,aa,Or.inl ⟨Gp U,ao⟩,ha ▸ h⟩
theorem ch {i:Nat} {is:List Nat} {K:Go.Act->Prop} {N:Option Tmp} {op:Op} {ty:TypeId} {bK:String} {e2:Array Edge} {cQ:Option (Nat × Bool)} {a':Go.Act} {v:Value} {j:Nat} {b mB:Bool} (aa:ops[i]? = some {dst:=N,op:=op,type:=ty,pos:=bK,after:=e2,guard:=cQ}) (h:jx P ops (fun V=>ah V l) is K a') (U:cQ=some (j,b):=by rfl) (aW:yielded ops a.tmps j=some mB:=by rfl) (I:mB=b:=by rfl)
  (ao:∀ V,ah V l->(execOp a.eval {dst:=N,op:=op,type:=ty,pos:=bK,after:=e2,guard:=cQ}).run P V= .ok (.value v) V:=by intro V C;simp only [ah] at C;go_simp;with_reducible rfl)
  (ha:a.put N v=a':=by simp only [Act.put,nL,nM,nN,k0];rfl):jx P ops (fun V=>ah V l) (i :: is) K a:=
 ⟨_,v,aa,Or.inl ⟨by rw [Gq U aW,I,beq_self_eq_true],ao⟩,ha ▸ h⟩
theorem cj {i:Nat} {is:List Nat} {K:Go.Act->Prop} {N:Option Tmp} {op:Op} {ty:TypeId} {bK:String} {e2:Array Edge} {cQ:Option (Nat × Bool)} {a':Go.Act} {j:Nat} {b mB:Bool} (aa:ops[i]? = some {dst:=N,op:=op,type:=ty,pos:=bK,after:=e2,guard:=cQ}) (h:jx P ops (fun V=>ah V l) is K a') (U:cQ=some (j,b):=by rfl) (aW:yielded ops a.tmps j=some mB:=by rfl) (I:mB= !b:=by rfl)
  (ha:a.put N undef=a':=by simp only [Act.put,nL,nM,nN];rfl):jx P ops (fun V=>ah V l) (i :: is) K a:=
 ⟨_,undef,aa,Or.inr ⟨by rw [Gq U aW,I];cases b <;> rfl,rfl⟩,ha ▸ h⟩
theorem cE {i:Nat} {is:List Nat} {K:Go.Act->Prop} {N:Option Tmp} {op:Op} {ty:TypeId} {bK:String} {e2:Array Edge} {cQ:Option (Nat × Bool)} {a':Go.Act} {j:Nat} {b:Bool} (aa:ops[i]? = some {dst:=N,op:=op,type:=ty,pos:=bK,after:=e2,guard:=cQ}) (h:jx P ops (fun V=>ah V l) is K a') (U:cQ=some (j,b):=by rfl) (aW:yielded ops a.tmps j=none:=by rfl)
  (ha:a.put N undef=a':=by simp only [Act.put,nL,nM,nN];rfl):jx P ops (fun V=>ah V l) (i :: is) K a:=
 ⟨_,undef,aa,Or.inr ⟨by simp [Region.wanted,U,aW],rfl⟩,ha ▸ h⟩
theorem ah.at_ {W:World} {g:Nat} {cs:Array Value} {t:TypeId}:∀ {l:eM},ah W l->gF l g cs t->∀ i,W.cell? ⟨g,i,none⟩=cs[i]?
 | _,h,.here=>h.1
 | _,h,.kept=>h.1
 | .b _ _ _ :: _,h,.there ct=>ah.at_ h.2 ct
 | .dI _ _ _ :: _,h,.there ct=>ah.at_ h.2 ct
 | .f _ _ :: _,h,.there ct=>ah.at_ h.2 ct
 | .r _ _ :: l,h,.there ct=>ah.at_ (l:=l) h ct
 | .oP _ _ :: l,h,.there ct=>ah.at_ (l:=l) h ct
theorem sE {i:Nat} {is:List Nat} {K:Go.Act->Prop} {N:Option Tmp} {t:TypeId} {x:Operand} {ty:TypeId} {bK:String} {e2:Array Edge} {a':Go.Act} {g:Nat} {cs:Array Value} (aa:ops[i]? = some {dst:=N,op:=.load t x,type:=ty,pos:=bK,after:=e2,guard:=none}) (az:a.eval x= .pointer (some ⟨g,0,none⟩)) (h:jx P ops (fun V=>ah V l) is K a')
  (iQ:gF l g cs t:=by repeat (first|exact .here | exact .kept | apply gF.there)) (hu:(match P.underlying t with | some d=>d.isRow && ((P.info? t).map (·.size) == some cs.size)|none=>false)=true:=by kernel_rfl)
  (ha:a.put N (.agg cs)=a':=by simp only [Act.put,nL,nM,nN];rfl):jx P ops (fun V=>ah V l) (i :: is) K a:=by
 cases aB:P.underlying t with
 | none=>rw [aB] at hu;cases hu
 | some d=>
  rw [aB] at hu;simp only [Bool.and_eq_true,beq_iff_eq] at hu;refine ⟨_,.agg cs,aa, ?_,ha ▸ h⟩;have:=yieldsIf_load_mid (ops:=ops) (S:=fun V=>ah V l) (op:={dst:=N,op:=.load t x,type:=ty,pos:=bK,after:=e2,guard:=none}) (a:=a) (Gp rfl) t x rfl g 0 az cs.toList d (fun V dB j u aI=>by rw [Nat.zero_add,ah.at_ dB iQ j];simpa using aI) aB hu.1 (by simpa using hu.2);simpa using this
theorem UW {i:Nat} {is:List Nat} {K:Go.Act->Prop} {N:Option Tmp} {t:TypeId} {x:Operand} {ty:TypeId} {bK:String} {e2:Array Edge} {a':Go.Act} {g:Nat} {cs:Array Value} {j:Nat} {b mB:Bool} (aa:ops[i]? = some {dst:=N,op:=.load t x,type:=ty,pos:=bK,after:=e2,guard:=some (j,b)}) (az:a.eval x= .pointer (some ⟨g,0,none⟩)) (h:jx P ops (fun V=>ah V l) is K a')
  (aW:yielded ops a.tmps j=some mB:=by rfl) (I:mB=b:=by rfl) (iQ:gF l g cs t:=by repeat (first|exact .here | exact .kept | apply gF.there)) (hu:(match P.underlying t with | some d=>d.isRow && ((P.info? t).map (·.size) == some cs.size)|none=>false)=true:=by kernel_rfl)
  (ha:a.put N (.agg cs)=a':=by simp only [Act.put,nL,nM,nN];rfl):jx P ops (fun V=>ah V l) (i :: is) K a:=by
 cases aB:P.underlying t with
 | none=>rw [aB] at hu;cases hu
 | some d=>
  rw [aB] at hu;simp only [Bool.and_eq_true,beq_iff_eq] at hu;refine ⟨_,.agg cs,aa, ?_,ha ▸ h⟩;have:=yieldsIf_load_mid (ops:=ops) (S:=fun V=>ah V l) (op:={dst:=N,op:=.load t x,type:=ty,pos:=bK,after:=e2,guard:=some (j,b)}) (a:=a) (by rw [Gq rfl aW,I,beq_self_eq_true]) t x rfl g 0 az cs.toList d (fun V dB j u aI=>by rw [Nat.zero_add,ah.at_ dB iQ j];simpa using aI) aB hu.1 (by simpa using hu.2);simpa using this
theorem jn {dQ:List Nat} (i:Nat) {N:Option Tmp} {f:FuncId} {IW:Array Operand} {dn:Array TypeId} {args:Array Value} {ty:TypeId} {bK:String} {e2:Array Edge} {cQ:Option (Nat × Bool)} (aa:ops[i]? = some {dst:=N,op:=.call {callee:=.value (.func f),args:=IW,argTypes:=dn},type:=ty,pos:=bK,after:=e2,guard:=cQ})
  (h:Calls P f args W fun e bM=>∃ v,e= .returned v/\av (ba w bM l)/\pw P ops Q w l n (dQ ++ [i]) (a.put N v) bM)
  (hw:Region.wanted {dst:=N,op:=.call {callee:=.value (.func f),args:=IW,argTypes:=dn},type:=ty,pos:=bK,after:=e2,guard:=cQ} (yielded ops a.tmps)=true:=by rfl)
  (vm:IW.map a.eval=args:=by (try simp only [List.map_toArray,List.map_cons,List.map_nil]);first | done | rfl)
  (ay:((Region.ready .any ops (lu (Array.replicate n false) dQ) == [i]) && (n - dQ.length == n - (dQ ++ [i]).length+1) && (match P.funcs[f]? with | some fn=> !(fn.name == "runtime.NumGoroutine") && fn.body.isSome | none=>false))=true:=by kernel_rfl):pw P ops Q w l n dQ a W:=by
 simp only [Bool.and_eq_true,beq_iff_eq] at ay;unfold pw;rw [ay.1.2]
 cases bb:P.funcs[f]? with
 | none=>rw [bb] at ay;cases ay.2
 | some fn=>
  rw [bb] at ay;simp only [Bool.and_eq_true,Bool.not_eq_true'] at ay;refine KY (N:=N) ((lu (Array.replicate n false) dQ).setIfInBounds i true) aa rfl (by simp [qp,ay.1.1]) (by simp) (fun K au=> ?_);refine QA (fn:=fn) bb ay.2.1 ay.2.2 args hw rfl rfl vm ?_;refine h.mono ?_;rintro e bM ⟨v,rfl,hm,aO⟩;refine ⟨v,rfl, ?_⟩;refine au.out _ _ hm.out (fun _=> ?_);unfold pw at aO;rw [tp] at aO;exact aO
theorem sF {dQ:List Nat} (i:Nat) {N:Option Tmp} {op:Op} {ty:TypeId} {bK:String} {e2:Array Edge} {cQ:Option (Nat × Bool)} (aa:ops[i]? = some {dst:=N,op:=op,type:=ty,pos:=bK,after:=e2,guard:=cQ}) (hw:Region.wanted {dst:=N,op:=op,type:=ty,pos:=bK,after:=e2,guard:=cQ} (yielded ops a.tmps)=false) (M:ba w W l)
  (h:pw P ops Q w l n (dQ ++ [i]) (a.put N undef) W)
  (ay:((Region.ready .any ops (lu (Array.replicate n false) dQ) == [i]) && (n - dQ.length == n - (dQ ++ [i]).length+1))=true:=by kernel_rfl):pw P ops Q w l n dQ a W:=by
 simp only [Bool.and_eq_true,beq_iff_eq] at ay;unfold pw;rw [ay.2];refine KY (N:=N) ((lu (Array.replicate n false) dQ).setIfInBounds i true) aa rfl (by simp [qp,ay.1]) (by simp) (fun K au=> ?_);rw [if_neg (by rw [hw];exact Bool.false_ne_true)];refine au.out _ _ M (fun _=> ?_);unfold pw at h;rw [tp] at h;exact h
theorem f' {dQ:List Nat} (h:Q .normal a W) (ao:(Region.ready .any ops (lu (Array.replicate n false) dQ) == [])=true:=by kernel_rfl):pw P ops Q w l n dQ a W:=xH ao h
theorem hb {dQ:List Nat} {a':Go.Act} (h:pw P ops Q w l n dQ a' W) (ha:a=a':=by simp only [Act.put,nL,nM,nN,k0];rfl):pw P ops Q w l n dQ a W:=by
 subst ha;exact h
end
theorem RX {w:World} {A:Option Addr} {xs:List cI} (h:cn.C w A xs.length xs):∃ b o,(0 < xs.length->A=some ⟨b,o,none⟩)/\∀ k,k < xs.length->w.cell? ⟨b,o+k*2,none⟩=some (.int .i64 (putAt xs k).cell)/\w.cell? ⟨b,o+k*2+1,none⟩=some (.int .i64 (putAt xs k).num):=by
 by_cases aq:0 < xs.length
 ·obtain ⟨b,o,cs,rfl,-⟩:=dd h gU 0 aq (by decide)
  refine ⟨b,o,fun _=>rfl,fun k J=> ?_⟩;obtain ⟨mB,tt,cs,he,bQ,au,aM,-⟩:=dd h gU k J (by decide);cases he;have e:=mZ au;subst e;have eT:=aM 0 _ rfl;have iq:=aM 1 _ rfl;simp only [show cn.bD=2 from rfl,Nat.add_zero] at eT iq;exact ⟨eT,iq⟩
 ·exact ⟨0,0,fun h=>absurd h aq,fun k J=>by omega⟩
theorem MM (A:Option Addr) (c:Nat) (xs:List cI) (cells:Int) (w:World) (az:cn.C w A xs.length xs) (aS:xs.length<=1048576) (aq:0<=cells) (h1:cells<=1048576):
  Calls Tryz.prog 69 #[.slice A xs.length c,.int .i64 cells] w fun e af=>e= .returned (.bool (hJ xs cells))/\Below w.heap.size w af:=by
 obtain ⟨b,o,jo,j'⟩:=RX az;have cl:=am j';have M:=am (ba.nil w);have C:=M.1.aw;clear az j';go_enter Tryz.func69,Tryz.ntmps69;go_wp2;go_loopw [5] (fun j af=>∃ k:Nat,k<=xs.length/\j= .int .i64 k/\av (∀ i,i < k->(bF (putAt xs i).cell 0 (cells - 1) && bF (putAt xs i).num 0 99 && (decide (i=0) || decide ((putAt xs (i - 1)).cell < (putAt xs i).cell)))=true)/\av (ba w af [])) (fun j _=>xs.length - (intOf j).toNat)
 case atStart=>exact ⟨0,Nat.zero_le _,rfl,⟨fun i aa=>by omega⟩,M⟩
 case round=>
  obtain ⟨k,J,rfl,du,M2⟩:=hrel;clear M C;have M:=M2;clear M2;by_cases aJ:k < xs.length
  ·obtain rfl:=jo (by omega)
   have bz:(0:Int)<=(k:Int):=by omega
   have b7:(k:Int) < (xs.length:Int):=by omega
   obtain ⟨x,hG⟩:∃ x,x=putAt xs k:=⟨_,rfl⟩;have eT:=(cl.1 k aJ).1;have iq:=(cl.1 k aJ).2;rw [<-hG] at eT iq;have h7:=am hG;have w1:wrap64 (cells - 1)=cells - 1:=by unfold wrap64;omega
   obtain ⟨ej,cg⟩:∃ b,bF x.cell 0 (cells - 1)=b:=⟨_,rfl⟩;obtain ⟨b2,cO⟩:∃ b,bF x.num 0 99=b:=⟨_,rfl⟩;have H1:=am cg;have bn:=am cO;have gM:av ((decide (0<=x.cell) && decide (x.cell<=wrap64 (cells - 1)))=ej):=⟨by rw [w1];exact cg⟩;have jA:av ((decide (0<=x.num) && decide (x.num<=99))=b2):=⟨cO⟩;replace M:=am ((M.1.cB eT).cB iq);have C:=M.1.aw;simp only [ah] at C;clear hG cg cO eT iq;go_wp2;cases ej
   case false=>
    refine gL M.1 ?_;clear M C;intro W M;refine dx [0,1,2,3,4,5,6] M.1 ?_;iterate 7 (first|refine cc rfl ?_|refine ch rfl ?_|refine cj rfl ?_|refine cE rfl ?_)
    refine bN ?_;refine jn 7 rfl ?_;refine hQ (fm _ _ _ _) gM.1 ?_;refine ⟨_,rfl,M,hb ?_⟩;refine dx [8,9,10,11,12,13,14] M.1 ?_;iterate 7 (first|refine cc rfl ?_|refine ch rfl ?_|refine cj rfl ?_|refine cE rfl ?_)
    refine bN ?_;refine sF 15 rfl rfl M.1 (hb ?_);refine dx [16,17,18,19,20,21,22,23,24,25,26,27,28,29,30,31,32,33,34,35] M.1 ?_;iterate 20 (first|refine cc rfl ?_|refine ch rfl ?_|refine cj rfl ?_|refine cE rfl ?_)
    refine bN ?_;refine f' ?_;have C:=M.1.aw;simp only [ah] at C;go_wp2;go_ret;rw [show hJ xs cells=false from hK aJ (by rw [<-h7.1,H1.1,Bool.false_and,Bool.false_and])];exact ⟨rfl,M.1.below⟩
   cases b2
   case false=>
    refine gL M.1 ?_;clear M C;intro W M;refine dx [0,1,2,3,4,5,6] M.1 ?_;iterate 7 (first|refine cc rfl ?_|refine ch rfl ?_|refine cj rfl ?_|refine cE rfl ?_)
    refine bN ?_;refine jn 7 rfl ?_;refine hQ (fm _ _ _ _) gM.1 ?_;refine ⟨_,rfl,M,hb ?_⟩;refine dx [8,9,10,11,12,13,14] M.1 ?_;iterate 7 (first|refine cc rfl ?_|refine ch rfl ?_|refine cj rfl ?_|refine cE rfl ?_)
    refine bN ?_;refine jn 15 rfl ?_;refine hQ (fm _ _ _ _) jA.1 ?_;refine ⟨_,rfl,M,hb ?_⟩;refine dx [16,17,18,19,20,21,22,23,24,25,26,27,28,29,30,31,32,33,34,35] M.1 ?_;iterate 20 (first|refine cc rfl ?_|refine ch rfl ?_|refine cj rfl ?_|refine cE rfl ?_)
    refine bN ?_;refine f' ?_;have C:=M.1.aw;simp only [ah] at C;go_wp2;go_ret;rw [show hJ xs cells=false from hK aJ (by rw [<-h7.1,bn.1,Bool.and_false,Bool.false_and])];exact ⟨rfl,M.1.below⟩
   by_cases nv:k=0
   ·have ed:decide ((0:Int) < (k:Int))=false:=decide_eq_false (by omega)
    have yA:decide (0 < k)=false:=decide_eq_false (by omega);have UX:=am nv;clear nv;refine gL M.1 ?_;clear M C;intro W M;refine dx [0,1,2,3,4,5,6] M.1 ?_;iterate 7 (first|refine cc rfl ?_|refine ch rfl ?_|refine cj rfl ?_|refine cE rfl ?_)
    refine bN ?_;refine jn 7 rfl ?_;refine hQ (fm _ _ _ _) gM.1 ?_;refine ⟨_,rfl,M,hb ?_⟩;refine dx [8,9,10,11,12,13,14] M.1 ?_;iterate 7 (first|refine cc rfl ?_|refine ch rfl ?_|refine cj rfl ?_|refine cE rfl ?_)
    refine bN ?_;refine jn 15 rfl ?_;refine hQ (fm _ _ _ _) jA.1 ?_;refine ⟨_,rfl,M,hb ?_⟩;refine dx [16,17,18,19,20,21,22,23,24,25,26,27,28,29,30,31,32,33,34,35] M.1 ?_;iterate 20 (first|refine cc rfl ?_|refine ch rfl ?_|refine cj rfl ?_|refine cE rfl ?_)
    refine bN ?_;refine f' ?_;have C:=M.1.aw;simp only [ah] at C;go_wp2;go_roundw
    case rel=>exact ⟨k+1,by omega,by go_num,⟨fun i aa=>by rcases Nat.lt_or_ge i k with h | h;exact du.1 i h;obtain rfl:i=k:=(by omega);rw [<-h7.1,H1.1,bn.1,decide_eq_true UX.1,Bool.true_or];rfl⟩,⟨M.1.pop.pop⟩⟩
    case measure=>simp [intOf];omega
   ·have ed:decide ((0:Int) < (k:Int))=true:=decide_eq_true (by omega)
    have yA:decide (0 < k)=true:=decide_eq_true (by omega);obtain ⟨zD,Ag⟩:∃ x,x=putAt xs (k - 1):=⟨_,rfl⟩;have eT:=(cl.1 (k - 1) (by omega)).1;rw [<-Ag] at eT;have Ef:=am Ag;have bU:(0:Int)<=(k:Int) - 1:=by omega
    have s1:(k:Int) - 1 < (xs.length:Int):=by omega
    have s2:((k:Int) - 1).toNat=k - 1:=by omega
    have ec:(1:Int)<=(k:Int):=by omega
    have gx:1<=k:=by omega
    have b':wrap64 ((k:Int) - 1)=(k:Int) - 1:=by unfold wrap64;omega
    replace M:=am (M.1.cB eT);clear C;have C:=M.1.aw;simp only [ah] at C;clear eT Ag;obtain ⟨b3,dh⟩:∃ b,decide (x.cell<=zD.cell)=b:=⟨_,rfl⟩;have kz:=am dh;cases b3
    ·refine gL M.1 ?_
     clear M C;intro W M;refine dx [0,1,2,3,4,5,6] M.1 ?_;iterate 7 (first|refine cc rfl ?_|refine ch rfl ?_|refine cj rfl ?_|refine cE rfl ?_)
     refine bN ?_;refine jn 7 rfl ?_;refine hQ (fm _ _ _ _) gM.1 ?_;refine ⟨_,rfl,M,hb ?_⟩;refine dx [8,9,10,11,12,13,14] M.1 ?_;iterate 7 (first|refine cc rfl ?_|refine ch rfl ?_|refine cj rfl ?_|refine cE rfl ?_)
     refine bN ?_;refine jn 15 rfl ?_;refine hQ (fm _ _ _ _) jA.1 ?_;refine ⟨_,rfl,M,hb ?_⟩;refine dx [16,17,18,19,20,21,22,23,24,25,26,27,28,29,30,31,32,33,34,35] M.1 ?_;iterate 20 (first|refine cc rfl ?_|refine ch rfl ?_|refine cj rfl ?_|refine cE rfl ?_)
     refine bN ?_;refine f' ?_;have C:=M.1.aw;simp only [ah] at C;go_wp2;go_roundw
     case rel=>exact ⟨k+1,by omega,by go_num,⟨fun i aa=>by rcases Nat.lt_or_ge i k with h | h;exact du.1 i h;obtain rfl:i=k:=(by omega);rw [<-h7.1,H1.1,bn.1,<-Ef.1,decide_eq_true (show zD.cell < x.cell from Int.not_le.1 (of_decide_eq_false kz.1)),Bool.or_true];rfl⟩,⟨M.1.pop.pop.pop⟩⟩
     case measure=>simp [intOf];omega
    ·refine gL M.1 ?_
     clear M C;intro W M;refine dx [0,1,2,3,4,5,6] M.1 ?_;iterate 7 (first|refine cc rfl ?_|refine ch rfl ?_|refine cj rfl ?_|refine cE rfl ?_)
     refine bN ?_;refine jn 7 rfl ?_;refine hQ (fm _ _ _ _) gM.1 ?_;refine ⟨_,rfl,M,hb ?_⟩;refine dx [8,9,10,11,12,13,14] M.1 ?_;iterate 7 (first|refine cc rfl ?_|refine ch rfl ?_|refine cj rfl ?_|refine cE rfl ?_)
     refine bN ?_;refine jn 15 rfl ?_;refine hQ (fm _ _ _ _) jA.1 ?_;refine ⟨_,rfl,M,hb ?_⟩;refine dx [16,17,18,19,20,21,22,23,24,25,26,27,28,29,30,31,32,33,34,35] M.1 ?_;iterate 20 (first|refine cc rfl ?_|refine ch rfl ?_|refine cj rfl ?_|refine cE rfl ?_)
     refine bN ?_;refine f' ?_;have C:=M.1.aw;simp only [ah] at C;go_wp2;go_ret;rw [show hJ xs cells=false from hK aJ (by rw [<-h7.1,<-Ef.1,decide_eq_false nv,decide_eq_false (show ¬ zD.cell < x.cell from Int.not_lt.2 (of_decide_eq_true kz.1)),Bool.false_or,Bool.and_false])];exact ⟨rfl,M.1.below⟩
  ·obtain rfl:k=xs.length:=by omega
   have b7:¬ (xs.length:Int) < (xs.length:Int):=by omega
   go_wp2;go_ret;rw [show hJ xs cells=true from hv.2 du.1];exact ⟨rfl,M.1.below⟩
end Go.Proofs.YteajdhhmkjblnaaGreatDoor.Eq
