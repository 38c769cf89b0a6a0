import Derived.Test.YteajdhhmkjblnaaGreatDoorV6
set_option maxHeartbeats 8000000
set_option maxRecDepth 100000
set_option linter.unusedVariables false
set_option linter.unusedSimpArgs false
namespace Go.Proofs.YteajdhhmkjblnaaGreatDoor.Eq
open Go.RowKit Go.Proofs.YteajdhhmkjblnaaGreatDoorW.PrintWords Go.Proofs.YteajdhhmkjblnaaGreatDoorW.PrintLast Go.Proofs.YteajdhhmkjblnaaGreatDoorW.PrintMore
def begun (s:Sys) (i:Nat) (aY:List Int) (k:Nat):Sys:={ib s i 1 with tasks:=(ib s i 1).tasks ++ (aY.take k).map fun b=>g8 b i}
theorem aa7 (s:Sys) (i:Nat) (aY:List Int):begun s i aY 0=ib s i 1:=by unfold begun;simp
theorem aaz (s:Sys) (i:Nat) (aY:List Int) (k:Nat):(begun s i aY k).tasks.length=s.tasks.length+min k aY.length:=by unfold begun;simp [ib,b0]
theorem aa8 {s:Sys} {i:Nat} {aY:List Int} {k:Nat} (h:k < aY.length):begun s i aY (k+1)= {begun s i aY k with tasks:=(begun s i aY k).tasks ++ [g8 (cC aY k) i]}:=by
 unfold begun;rw [List.take_succ_eq_append_getElem h,List.map_append,<-List.append_assoc];have h1:aY[k]=cC aY k:=by simp [cC,h]
 rw [h1];rfl
theorem aaA {s:Sys} {i:Nat} (aa:i < s.tasks.length) (aY:List Int):begun s i aY aY.length=fork s i aY:=by
 unfold begun fork;rw [List.take_length];have h1:R {s with tasks:=s.tasks ++ aY.map fun b=>g8 b i} i=R s i:=FJ s _ aa;unfold ib;rw [h1];unfold b0;simp [List.set_append,aa]
section
variable {w0:World} {g:Nat} {own:Nat->Nat} {bh a8:Value} {p:Prog} {s:Sys} {aG aZ aP:Value}
theorem abr {N:Nat} (i:Nat) (w:World) (h:bI 81 w0 g own bh a8 p s aG aZ aP w) (hinv:Inv p s N) (cz:N<=1048576) (aX:jI p) (aa:i < s.tasks.length) (eN:∀ k,k < s.cells.length-> -1<=(cellAt s.cells k).lock) (nc:(R s i).aE=1->(R s i).at_<=(actAt (bo p.an (R s i).body.toNat) (R s i).aR.toNat).bP.length) (vb:(R s i).aE=4->(R s i).at_<=(R s i).reads.length) (iw:ready s i=true) (la:(R s i).a7=0) (Qr:(R s i).aR < (bo p.an (R s i).body.toNat).length) (D5:(actAt (bo p.an (R s i).body.toNat) (R s i).aR.toNat).kind=1\/(actAt (bo p.an (R s i).body.toNat) (R s i).aR.toNat).kind=2\/(actAt (bo p.an (R s i).body.toNat) (R s i).aR.toNat).kind=3\/(actAt (bo p.an (R s i).body.toNat) (R s i).aR.toNat).kind=4):
  Calls Tryz.prog 53 #[.pointer (some ⟨g,0,none⟩),.int .i64 i] w fun e af=>Mj 81 w0 g own bh a8 p (step p s i) aG w e af:=by
 have hp:(R s i).aE=0\/(R s i).aE=1\/(R s i).aE=2\/(R s i).aE=3\/(R s i).aE=4\/(R s i).aE=5:=by have:=(hinv.task i aa).qx;omega
 have AM:=am hp;clear hp;have CE:=am (show jY s (i:Int)=true by unfold jY;rw [Int.toNat_natCast,iw,Bool.and_true,e0];omega);have t:=hinv.task i aa;have aS:s.tasks.length<=1048576:=Nat.le_trans hinv.many cz;have hm:s.cells.length<=1048576:=Nat.le_trans hinv.sz (by decide);have aT:(R s i).bE.length<=1048576:=by rw [t.bE.len];decide
 have HE:(R s i).aL.length<=1048576:=by rw [t.aL.len];decide
 have nX:(R s i).reads.length<=1048576:=Nat.le_trans (hinv.reads aa) (by decide);have je:(R s i).ai.length<=1048576:=Nat.le_trans (hinv.ai aa) (by decide);have nb:=am t.aL.len;have ox:s.log.length<=1073741824:=by have:=hinv.room;omega
 have lL:=t.iv;have o7:(R s i).aR<=1048576:=Int.le_trans (hinv.aR aa) (by decide);have om:=am t;have iS:=am eN;have Qo:=am nc;have Qp:=am vb;have Qq:=hinv.qy;have XG:=hinv.sn;obtain ⟨bl,eu⟩:=Int.eq_ofNat_of_zero_le t.jF;obtain ⟨dI,kV⟩:=Int.eq_ofNat_of_zero_le t.iv;have mT:bl < p.an.length:=by have:=t.jZ;omega
 obtain ⟨cq,ho⟩:∃ x,x=bo p.an bl:=⟨_,rfl⟩;have rl:=am ho;have pJ:=am eu;have AA:=am kV;have uq:dI<=cq.length:=by have:=t.oW;rw [eu,kV,Int.toNat_natCast,<-ho] at this;omega
 obtain ⟨ek,ey,g0,er,yP,-,-,-,gb⟩:=jk h.prog;simp only [List.cons.injEq,and_true] at yP;obtain ⟨rfl,rfl⟩:=yP;obtain ⟨gp,cV,nW,rfl,kt,hX,en,-⟩:=dd gb ([]:List Act) bl mT (by decide);obtain ⟨k5,kf,rfl,kL,jd⟩:=hX;have c3:=en 0 _ rfl;simp only [show (Kd.slice 55 kAct).bD=1 from rfl,Nat.mul_one,Nat.add_zero] at c3;rw [show p.an.getD bl []=cq from ho.symm] at c3 jd;have ni:=am c3;have sW:=am jd;obtain ⟨b,cap,rfl,cY,jb⟩:=h.iV (by omega);obtain ⟨cX,bL,rfl⟩:=h.kI;obtain ⟨cW,aw,rfl⟩:=h.hV;obtain ⟨cU,bO,gy,e1,ev,dp,e6,dL,aM,bb,Cs⟩:=h.LI aa;have v':=aM 4 _ rfl;simp only [eK] at aM;rw [eu,kV] at aM;have H:=am h;have M:=am ((ba.cB ((ba.nil w).Lo [.int .i64 (bl:Int),.int .i64 (dI:Int),.int .i64 (R s i).up,.slice cU (R s i).aL.length bO,.int .i64 (R s i).a7,.int .i64 (R s i).aE,.int .i64 (R s i).at_,.int .i64 (R s i).since,.slice gy (R s i).bE.length e1,.slice ev (R s i).reads.length dp,.slice e6 (R s i).ai.length dL,.int .i64 (R s i).bw,.int .i64 (R s i).from_] (i*13) aM) v').known h.bB);have C:=M.1.aw;simp only [ah] at C;clear t eN nc vb eu kV ho gb kt en kL jd c3 h aM bb Cs v' cY;have bz:(0:Int)<=(i:Int):=by omega
 have b7:(i:Int) < (s.tasks.length:Int):=by omega
 have Ct:=am (show ¬ (R s i).a7=1 by omega);have cg:((R s i).a7 == 1)=false:=by simp [la]
 have qk:dI < cq.length:=by rw [pJ.1,AA.1,Int.toNat_natCast,<-rl.1] at Qr;omega
 obtain ⟨iL,ly,Wr,rfl,Ll,Az,CC,-⟩:=dd sW.1 iK dI qk (by decide);obtain ⟨ac,lY⟩:∃ x,x=actAt cq dI:=⟨_,rfl⟩;rw [show cq.getD dI iK=ac from lY.symm] at Az;obtain ⟨eR,ez,eF,eJ,rfl,Jc,cQ,eo,gk⟩:=m0 Az;simp only [show kAct.bD=4 from rfl] at CC;have PE:=am CC;have T1:=am gk;have vT:=am lY;have c7:=wz hinv.form (b:=(R s i).body) ⟨by have:=pJ.1;omega,by have:=pJ.1;omega⟩ (k:=dI) (by rw [pJ.1,Int.toNat_natCast,<-rl.1];exact qk);rw [pJ.1,Int.toNat_natCast,<-rl.1,<-lY] at c7;have rY:=am c7;have Lq:av (actAt (bo p.an (R s i).body.toNat) (R s i).aR.toNat=ac):=⟨by rw [pJ.1,AA.1,Int.toNat_natCast,Int.toNat_natCast,<-rl.1];exact lY.symm⟩
 have wh:av (step p s i=if ac.kind=1 then jT s i ac.bP else if ac.kind=2 then fork s i ac.kids else if ac.kind=3\/cC (R s i).aL ac.eY.toNat ≠ 0 then ib s i 3 else b0 s i {R s i with aR:=(R s i).aR+1}):=⟨by
  unfold step;rw [if_neg Ct.1,if_neg (by rw [pJ.1,AA.1,Int.toNat_natCast,<-rl.1];omega),Lq.1]⟩
 clear Ll Az CC lY cQ gk Jc eo c7;rw [Lq.1] at D5;have g4:=am D5;clear iw la Qr D5;go_enter Tryz.func53,Tryz.ntmps53
 go_upto_region 7 with (first
 |(go_at_call 63;refine hd M.1 (IG p s g (i:Int) _ (H.1.DL.below M.1.below) hinv aS) CE.1 ?_;clear M C;intro W M C;simp only [ah] at C))
 refine ot [] (fun _ h=>h) M.1 ?_;clear M C;intro W M;refine jO [0,1,2,3,4,5,6] M.1 ?_;iterate 3 (first|refine cc rfl ?_|refine ch rfl ?_|refine cj rfl ?_|refine cE rfl ?_)
 refine w4 (cs:= [.slice ek p.cells.length ey,.slice (some ⟨gp,cV,none⟩) p.an.length er]) rfl rfl (fun V dB=>Mt (by simpa using dB.1 0) (by simpa using dB.1 1)) ?_;iterate 2 (first|refine cc rfl ?_|refine ch rfl ?_|refine cj rfl ?_|refine cE rfl ?_)
 refine w4 (cs:= [.int .i64 (bl:Int),.int .i64 (dI:Int),.int .i64 (R s i).up,.slice cU (R s i).aL.length bO,.int .i64 (R s i).a7,.int .i64 (R s i).aE,.int .i64 (R s i).at_,.int .i64 (R s i).since,.slice gy (R s i).bE.length e1,.slice ev (R s i).reads.length dp,.slice e6 (R s i).ai.length dL,.int .i64 (R s i).bw,.int .i64 (R s i).from_]) rfl rfl (fun V dB=>Mz dB.2.2) ?_;refine bN ?_;have C:=M.1.aw;simp only [ah] at C;refine Hs 7 11 rfl rfl ?ga ?gb
 case' ga=>
  go_wp2_with (first
  |(go_at_call 76;refine (SS ek cU gy ev e6 p.cells.length ey p.an.length er (R s i).aL.length bO (R s i).bE.length e1 (R s i).reads.length dp (R s i).ai.length dL gp cV iL ly cq.length kf bl dI (R s i).up (R s i).a7 (R s i).aE (R s i).at_ (R s i).since (R s i).bw (R s i).from_ ac.kind ac.eY eR eF ac.bP.length ez ac.kids.length eJ _ mT qk (j2 (fb H.1.below M.1.below) ni.1) (fun j u aI=>j2 (fb H.1.below M.1.below) (PE.1 j u aI))).mono ?_;rintro e W1 ⟨rfl,fA⟩;replace M:=am (M.1.step fA);clear C;have C:=M.1.aw;simp only [ah] at C;clear fA))
  refine g3 M.1 ?_
  try refine fF ?_
  refine jO [8,9,10] M.1 ?_;iterate 3 (first|refine cc rfl ?_|refine ch rfl ?_|refine cj rfl ?_|refine cE rfl ?_)
  refine bN ?_;refine ir 11 rfl ?_
  go_wp2_with (first
  |((first|with_reducible refine gB ?_ | with_reducible refine gA ?_);refine cx rfl M.1 ?_;clear M C;intro ga W M C;simp only [ah] at C))
  refine g3 M.1.pop ?_
  try refine fF ?_
  refine ir 12 rfl ?_
  go_wp2_with (first
  |((with_reducible refine da ?_);refine dv rfl rfl rfl M.1 ?_;clear M C;intro W M C;simp only [ah] at C))
  refine g3 M.1.pop ?_
  try refine fF ?_
  refine ir 13 rfl ?_
  go_wp2_with (first
   | fail)
  refine g3 M.1.pop ?_
  try refine fF ?_
  refine mf ?_
 case' gb=>
  go_wp2_with (first
  |((first|with_reducible refine gB ?_ | with_reducible refine gA ?_);refine cx rfl M.1 ?_;clear M C;intro ga W M C;simp only [ah] at C))
  refine g3 M.1.pop ?_
  try refine fF ?_
  refine ir 7 rfl ?_
  go_wp2_with (first
  |(go_at_call 76;refine (SS ek cU gy ev e6 p.cells.length ey p.an.length er (R s i).aL.length bO (R s i).bE.length e1 (R s i).reads.length dp (R s i).ai.length dL gp cV iL ly cq.length kf bl dI (R s i).up (R s i).a7 (R s i).aE (R s i).at_ (R s i).since (R s i).bw (R s i).from_ ac.kind ac.eY eR eF ac.bP.length ez ac.kids.length eJ _ mT qk (j2 (fb H.1.below M.1.below) ni.1) (fun j u aI=>j2 (fb H.1.below M.1.below) (PE.1 j u aI))).mono ?_;rintro e W1 ⟨rfl,fA⟩;replace M:=am (M.1.step fA);clear C;have C:=M.1.aw;simp only [ah] at C;clear fA))
  refine g3 M.1.pop ?_
  try refine fF ?_
  refine jO [8,9,10] M.1.pop ?_;iterate 3 (first|refine cc rfl ?_|refine ch rfl ?_|refine cj rfl ?_|refine cE rfl ?_)
  refine bN ?_
  try refine fF ?_
  refine ir 12 rfl ?_
  go_wp2_with (first
  |((with_reducible refine da ?_);refine dv rfl rfl rfl M.1 ?_;clear M C;intro W M C;simp only [ah] at C))
  refine g3 M.1.pop ?_
  try refine fF ?_
  refine ir 13 rfl ?_
  go_wp2_with (first
   | fail)
  refine g3 M.1.pop ?_
  try refine fF ?_
  refine mf ?_
 all_goals
  have r9:=g4.1;clear g4;rcases r9 with r9 | r9 | r9 | r9
  ·have g4:=am r9
   clear r9;have cO:(ac.kind == 1)=true:=by simp [g4.1]
   obtain ⟨v3,bC,v9,v10,aM,bb,h5⟩:=H.1.fe aa;have yn:=am (aM 5 _ rfl);clear aM bb h5
   go_upto_region 14 with (first
   |((first|with_reducible refine gB ?_ | with_reducible refine gA ?_);refine cx rfl M.1 ?_;clear M C;intro acG W M C;simp only [ah] at C)
   |((with_reducible refine cv ?_);refine dV rfl rfl M.1 ?_)
   |((with_reducible refine da ?_);refine dv rfl rfl rfl M.1 ?_;clear M C;intro W M C;simp only [ah] at C))
   have H1:=am (H.1.grow M.1.below);have hp:=AM.1;clear AM;rcases hp with hp | hp | hp | hp | hp | hp
   ·have gm:=am hp
    clear hp;have jP:=yn.1;rw [gm.1] at jP;replace M:=am (M.1.cB jP);clear C;have C:=M.1.aw;simp only [ah] at C;clear jP
    go_wp2_with (first
    |(go_at_call 77;refine (abK i _ H1.1 aa aS HE ox).mono ?_;rintro e b9 ⟨rfl,pa,eG,f9⟩))
    refine bodyPost_ret (results_tmp rfl _ _ _) rfl ?_;refine ⟨rfl,pa,Value.slice (some ⟨b,0,none⟩) s.tasks.length cap,Value.slice cW s.log.length aw, ?_,(Fr.below M.1.below).trans (f9.less M.1.below.size)⟩;rw [wh.1,if_pos g4.1];unfold jT;rw [if_pos gm.1];exact eG
   ·have gm:=am hp
    clear hp;have jP:=yn.1;rw [gm.1] at jP;replace M:=am (M.1.cB jP);clear C;have C:=M.1.aw;simp only [ah] at C;clear jP
    go_wp2_with (first
    |(go_at_call 78;refine (abp i _ H1.1 hinv cz aX aa gm.1 (Qo.1 gm.1) iS.1).mono ?_;rintro e b9 ⟨rfl,pa,xx,eG,f9⟩))
    refine bodyPost_ret (results_tmp rfl _ _ _) rfl ?_;refine ⟨rfl,pa,Value.slice (some ⟨b,0,none⟩) s.tasks.length cap,xx, ?_,(Fr.below M.1.below).trans (f9.less M.1.below.size)⟩;rw [wh.1,if_pos g4.1];unfold jT;rw [if_neg (by rw [gm.1];decide)];rw [if_pos gm.1];rw [Lq.1] at eG;exact eG
   ·have gm:=am hp
    clear hp;have jP:=yn.1;rw [gm.1] at jP;replace M:=am (M.1.cB jP);clear C;have C:=M.1.aw;simp only [ah] at C;clear jP
    go_wp2_with (first
    |(go_at_call 79;refine (abn i _ H1.1 aa aS hm aT je om.1.hE (om.1.kQ (.inl gm.1)) (fun k J=>by rw [hinv.cells];exact (om.1.ai.at J).1) iS.1).mono ?_;rintro e b9 ⟨rfl,pa,eG,f9⟩))
    refine bodyPost_ret (results_tmp rfl _ _ _) rfl ?_;refine ⟨rfl,pa,Value.slice (some ⟨b,0,none⟩) s.tasks.length cap,Value.slice cW s.log.length aw, ?_,(Fr.below M.1.below).trans (f9.less M.1.below.size)⟩;rw [wh.1,if_pos g4.1];unfold jT;rw [if_neg (by rw [gm.1];decide)];rw [if_neg (by rw [gm.1];decide)];rw [if_pos gm.1];exact eG
   ·have gm:=am hp
    clear hp;have jP:=yn.1;rw [gm.1] at jP;replace M:=am (M.1.cB jP);clear C;have C:=M.1.aw;simp only [ah] at C;clear jP
    go_wp2_with (first
    |(go_at_call 80;refine (abm i _ H1.1 aa aS Qq (by omega)).mono ?_;rintro e b9 ⟨rfl,eG,f9⟩))
    refine bodyPost_ret (results_tmp rfl _ _ _) rfl ?_;refine ⟨rfl,own,Value.slice (some ⟨b,0,none⟩) s.tasks.length cap,Value.slice cW s.log.length aw, ?_,(Fr.below M.1.below).trans (f9.less M.1.below.size)⟩;rw [wh.1,if_pos g4.1];unfold jT;rw [if_neg (by rw [gm.1];decide)];rw [if_neg (by rw [gm.1];decide)];rw [if_neg (by rw [gm.1];decide)];rw [if_pos gm.1];exact eG
   ·have gm:=am hp
    clear hp;have jP:=yn.1;rw [gm.1] at jP;replace M:=am (M.1.cB jP);clear C;have C:=M.1.aw;simp only [ah] at C;clear jP
    go_wp2_with (first
    |(go_at_call 81;refine (abL i _ H1.1 aa aS hm aT nX om.1.hE (Qp.1 gm.1) (fun k J=>by rw [hinv.cells];exact (om.1.reads.at J).1) iS.1).mono ?_;rintro e b9 ⟨rfl,pa,eG,f9⟩))
    refine bodyPost_ret (results_tmp rfl _ _ _) rfl ?_;refine ⟨rfl,pa,Value.slice (some ⟨b,0,none⟩) s.tasks.length cap,Value.slice cW s.log.length aw, ?_,(Fr.below M.1.below).trans (f9.less M.1.below.size)⟩;rw [wh.1,if_pos g4.1];unfold jT;rw [if_neg (by rw [gm.1];decide)];rw [if_neg (by rw [gm.1];decide)];rw [if_neg (by rw [gm.1];decide)];rw [if_neg (by rw [gm.1];decide)];rw [if_pos gm.1];exact eG
   ·have gm:=am hp
    clear hp;have jP:=yn.1;rw [gm.1] at jP;replace M:=am (M.1.cB jP);clear C;have C:=M.1.aw;simp only [ah] at C;clear jP
    go_wp2_with (first
    |(go_at_call 82;refine (SR i _ H1.1 aa aS hm je ox lL o7 om.1.hE (om.1.kQ (.inr gm.1)) (by rw [hinv.cells];exact (om.1.ai.at (by have h1:=om.1.kQ (.inr gm.1);have ar:=om.1.hE;omega)).1)).mono ?_;rintro e b9 ⟨rfl,pa,xx,eG,f9⟩))
    refine bodyPost_ret (results_tmp rfl _ _ _) rfl ?_;refine ⟨rfl,pa,Value.slice (some ⟨b,0,none⟩) s.tasks.length cap,xx, ?_,(Fr.below M.1.below).trans (f9.less M.1.below.size)⟩;rw [wh.1,if_pos g4.1];unfold jT;rw [if_neg (by rw [gm.1];decide)];rw [if_neg (by rw [gm.1];decide)];rw [if_neg (by rw [gm.1];decide)];rw [if_neg (by rw [gm.1];decide)];rw [if_neg (by rw [gm.1];decide)];exact eG
  ·have g4:=am r9
   clear r9;have cO:(ac.kind == 1)=false:=by simp [g4.1]
   have dh:(ac.kind == 2)=true:=by simp [g4.1]
   have H1:=am (H.1.grow M.1.below);obtain ⟨_,_,_,_,gS,g5,-⟩:=H1.1.fe aa;have a4:=gS 4 _ rfl;have oq:=g5 4;clear gS g5;obtain ⟨adZ,-,-⟩:=F5 rY.1 g4.1;obtain ⟨eG,f9⟩:=H1.1.setInt (B:=w.heap.size) (i:=i) aa 4 (by decide) 1 {R s i with a7:=1} (fun _ _ _ _=>rfl) ⟨rfl,rfl,rfl,rfl⟩;have gl:=am ((Fr.below M.1.below).trans f9);have wQ:=am eG;clear eG f9
   go_wp2_with (first
    | fail)
   go_loopw [10,69] (fun _ j af=>∃ (k:Nat) (own':Nat->Nat) (xi:Value),k<=ac.kids.length/\j= .int .i64 k/\av (bI 81 w0 g own' (.slice ek p.cells.length ey) (.slice (some ⟨gp,cV,none⟩) p.an.length er) p (begun s i ac.kids k) (.slice cX s.cells.length bL) xi (.slice cW s.log.length aw) af)/\av (Fr w.heap.size own own' w af)) (fun _ j _=>ac.kids.length - (intOf j).toNat)
   case atStart=>exact ⟨0,own,_,Nat.zero_le _,rfl,⟨by rw [aa7];exact wQ.1⟩,gl⟩
   case round=>
    clear wQ gl H1 a4 oq M C;obtain ⟨k,jW,NN,J,rfl,cT,hD⟩:=hrel;have hlen:=aaz s i ac.kids k;by_cases aJ:k < ac.kids.length
    ·have fC:=am (aa8 (s:=s) (i:=i) aJ)
     obtain ⟨cA,gP⟩:∃ x,begun s i ac.kids k=x:=⟨_,rfl⟩;rw [gP] at cT fC hlen;have c8:=am gP;obtain ⟨kS,pM⟩:∃ x,cC ac.kids k=x:=⟨_,rfl⟩;rw [pM] at fC;obtain ⟨wX,GQ,rfl⟩:=cT.1.FI;have bY:(0:Int)<=(k:Int):=by omega
     have l5:(k:Int) < (ac.kids.length:Int):=by omega
     obtain ⟨cy,mb,az⟩:=Kd.kG (Kd.bW T1.1 cT.1.below) (k:Int) bY l5;cases mb;simp only [Int.toNat_natCast] at az;rw [show rd ac.kids (k:Int)=cC ac.kids k from rfl,pM] at az;have ad0:cA.tasks.length<=1048580:=by omega
     clear gP hlen pM;go_upto_region 20 with (first|fail);have ag:=am (cT.1.grow (ei (Below.refl _ _)));have tO:=am (hD.1.trans (Fr.less (Fr.below (ei (Below.refl wr.heap.size wr))) hD.1.size));clear az;refine rP (fun V=>V.heap[g]? = some (.cells #[.slice ek p.cells.length ey,.slice (some ⟨gp,cV,none⟩) p.an.length er,.slice cX s.cells.length bL,.slice wX cA.tasks.length GQ,.int .i64 cA.clock,.slice cW s.log.length aw] 81 (0,0))) [11,12,13,14] (gW cT.1.bB) (fun dm=> ?_);have bd:=am dm;clear dm;refine vN [0,1,2,3,4,5,6,7] [.dI g #[.slice ek p.cells.length ey,.slice (some ⟨gp,cV,none⟩) p.an.length er,.slice cX s.cells.length bL,.slice wX cA.tasks.length GQ,.int .i64 cA.clock,.slice cW s.log.length aw] 81] (fun V dB=>⟨fun q=>bf dB q,trivial⟩) bd.1 ?_;iterate 8 (first|refine cc rfl ?_|refine ch rfl ?_|refine cj rfl ?_|refine cE rfl ?_)
     refine bN ?_;refine nU 8 rfl ?_
     go_wp2_with (first
     |(go_at_call 83;refine (ab6 kS (i:Int) _).mono ?_;rintro e qS ⟨v3,bC,rfl,s5,I⟩;have KO:=am s5;have rX:=am I;clear s5 I))
     have AM:=aV bd rX.1;have iG:=am (ag.1.grow rX.1);have l6:=am (tO.1.trans (Fr.less (Fr.below rX.1) tO.1.size));obtain ⟨ps,zy⟩:=iG.1.Z7 (B:=w.heap.size) (L:=cA.tasks.length) KO.1 (fun q aF=>ag.1.dk q aF) ag.1.below.size tO.1.size;have jw:=o9.row (own:=jW) (L:=cA.tasks.length) (B:=w0.heap.size) KO.1 ag.1.below.size;obtain ⟨c1,FB⟩:∃ o,jV jW v3 bC (.slice none 0 0) (.slice none 0 0) cA.tasks.length=o:=⟨_,rfl⟩;rw [FB] at ps zy jw;have gj:=am ps;have gl:=am (l6.1.trans zy);have Qs:=am jw;clear ps zy jw FB ag tO iG l6 KO bd rX cT hD;refine nT AM.1 ?_;(try refine gG ?_);refine nU 9 rfl ?_
     go_wp2_with (first
      | fail)
     refine nT (ss AM.1 _) ?_
     try refine gG ?_
     refine nU 10 rfl ?_
     go_wp2_with (first
     |((with_reducible refine jJ (b:=.append) (xs:=#[.tmp 78,.tmp 82]) rfl ?_);refine Kd.mY (gg c1) (w0:=w0) w0.heap.size rfl (.tmp 78) (.tmp 82) 28 38 (.agg #[.int .i64 0,.int .i64 0,.int .i64 0,.slice none 0 0,.int .i64 0,.int .i64 0,.int .i64 0,.int .i64 0,.slice none 0 0,.slice none 0 0,.slice none 0 0,.int .i64 0,.int .i64 0]) 168 rfl Tryz.underlying28 (by kernel_rfl) rfl (by rw [Iq];decide) (by decide) (.slice wX cA.tasks.length GQ) cA.tasks.zipIdx (g8 kS (i:Int),cA.tasks.length) [.int .i64 kS,.int .i64 0,.int .i64 (i:Int),v3,.int .i64 0,.int .i64 0,.int .i64 0,.int .i64 0,bC,.slice none 0 0,.slice none 0 0,.int .i64 0,.int .i64 0] (fun q=>(c1 q=3\/8<=c1 q)\/(c1 q=0/\w.heap.size<=q)) (fun q=>8<=c1 q) rfl rfl Qs.1 (fun q aF=>⟨.inl (.inr aF),fun he=>by have:=gj.1.fj q he.symm;omega⟩) (fun q aF=> .inr ⟨gj.1.dk q aF,Nat.le_trans gl.1.size aF⟩) (Kd.cG gj.1.tasks (fun q aF=> .inl aF)) gj.1.below gj.1.below.size (by rw [fH];omega) ?_;intro v1 wn bG bZ fO nc;have h3:=am bG;have gH:=am bZ;have KP:=am fO;have Cq:=am nc;clear bG bZ fO nc))
     have yy:some g ≠ (Value.slice wX cA.tasks.length GQ).ownBlock:=fun he=>by have br:c1 g=3:=gj.1.fj g he.symm;rw [gj.1.hI] at br;cases br
     have HF:wn.heap[g]? = _:=eQ AM.1 KP.1 yy;obtain ⟨j9,aU,a1⟩:=gj.1.Rw (B:=w.heap.size) gH.1 gl.1.size KP.1 (ts':=cA.tasks ++ [g8 kS (i:Int)]) (by rw [Ik];exact h3.1) Cq.1
     obtain ⟨GL,GM,mI,rfl⟩:∃ A n c,v1= .slice A n c:=by
      obtain ⟨A,c,he⟩:=Kd.bt h3.1;exact ⟨A,_,c,he⟩
     have G4:=am aU;have G5:=am (gl.1.trans a1);have T2:=am HF;have aN:=bf HF;have Pb:=iX HF 3;clear gj gl Qs h3 gH KP Cq aU a1 HF yy AM;refine nT T2.1 ?_;(try refine gG ?_);refine qY 11 rfl ?_
     go_wp2_with (first
      | fail)
     try refine gG ?_
     refine qY 12 rfl ?_
     go_wp2_with (first
      | fail)
     try refine gG ?_
     refine qY 13 rfl ?_
     go_wp2_with (first
      | fail)
     try refine gG ?_
     refine qY 14 rfl ?_
     go_wp2_with (first
      | fail)
     try refine gG ?_
     refine zU ?_
     go_wp2_with (first
      | fail)
     go_roundw
     case rel=>exact ⟨k+1,j9,_,by omega,by go_num,⟨by rw [fC.1];exact G4.1⟩,G5⟩
     case measure=>simp [intOf];omega
    ·obtain rfl:k=ac.kids.length:=by omega
     have jM:¬ (ac.kids.length:Int) < (ac.kids.length:Int):=by omega
     go_wp2_with (first
      | fail)
     refine bodyPost_ret (results_tmp rfl _ _ _) rfl ?_;refine ⟨rfl,jW,NN,Value.slice cW s.log.length aw, ?_,hD.1⟩;rw [wh.1,if_neg (by rw [g4.1];decide),if_pos g4.1,<-aaA aa];exact cT.1
  ·have g4:=am r9
   clear r9;have cO:(ac.kind == 1)=false:=by simp [g4.1]
   have dh:(ac.kind == 2)=false:=by simp [g4.1]
   have fu:(ac.kind == 3)=true:=by simp [g4.1]
   have H1:=am (H.1.grow M.1.below);obtain ⟨_,_,_,_,gS,g5,-⟩:=H1.1.fe aa;have a4:=gS 4 _ rfl;have oq:=g5 4;clear gS g5
   go_wp2_with (first
    | fail)
   refine bodyPost_ret (results_tmp rfl _ _ _) rfl ?_;obtain ⟨eG,f9⟩:=H1.1.setInt (B:=w.heap.size) (i:=i) aa 4 (by decide) 3 {R s i with a7:=3} (fun _ _ _ _=>rfl) ⟨rfl,rfl,rfl,rfl⟩;refine ⟨rfl,own,Value.slice (some ⟨b,0,none⟩) s.tasks.length cap,Value.slice cW s.log.length aw, ?_,(Fr.below M.1.below).trans f9⟩;rw [wh.1,if_neg (by rw [g4.1];decide),if_neg (by rw [g4.1];decide),if_pos (.inl g4.1)];exact eG
  ·have g4:=am r9
   clear r9;have cO:(ac.kind == 1)=false:=by simp [g4.1]
   have dh:(ac.kind == 2)=false:=by simp [g4.1]
   have fu:(ac.kind == 3)=false:=by simp [g4.1]
   have iH:(ac.kind == 4)=true:=by simp [g4.1]
   obtain ⟨-,e5,fO⟩:=L0 rY.1 (by rw [g4.1];decide) (by rw [g4.1];decide) (by rw [g4.1];decide);obtain ⟨j5,ux⟩:=Int.eq_ofNat_of_zero_le e5;have EU:j5 < 3:=by omega
   obtain ⟨v3,bC,v9,v10,aM,bb,h5⟩:=H.1.fe aa;obtain ⟨u3,u8,u9,u10,he,hN,-,-,-⟩:=hA h5;simp only [eK,List.cons.injEq,true_and] at he;obtain ⟨rfl,rfl,rfl,rfl,-⟩:=he;obtain ⟨gr,xu,rfl,-,-⟩:=oa hN (show 0 < (R s i).aL.length by rw [nb.1];decide);have I2:=aM 3 _ rfl;obtain ⟨KG,-,AH,AI,-⟩:=Kd.ob hN 0 (j5:Int) (by omega) (by rw [nb.1];omega);rw [Int.toNat_natCast] at AH AI;obtain ⟨gG,AJ⟩:∃ x,cC (R s i).aL j5=x:=⟨_,rfl⟩;have fF:KG= [Value.int .i64 gG]:=by rw [<-AJ];exact AH
   subst fF;have ym:=AI 0 _ rfl;simp only [show (Kd.int .i64).bD=1 from rfl,Nat.mul_one,Nat.add_zero] at ym;have AK:=am AJ;have Wv:(0:Int)<=(j5:Int):=by omega
   have Ww:(j5:Int) < ((R s i).aL.length:Int):=by rw [nb.1];omega
   rw [ux] at M;have js:=am ux;replace M:=am ((M.1.cB I2).cB ym);clear C;have C:=M.1.aw;simp only [ah] at C;clear AH AI AJ ux e5 fO aM bb h5 hN I2 ym;go_upto_region 25 with (first|fail);refine gL M.1 ?_;clear M C;intro W M;refine dx [0,1,2,3,4,5,6,7,8] M.1 ?_;iterate 9 (first|refine cc rfl ?_|refine ch rfl ?_|refine cj rfl ?_|refine cE rfl ?_)
   refine bN ?_;refine f' ?_;have C:=M.1.aw;simp only [ah] at C;have H1:=am (H.1.grow M.1.below);obtain ⟨_,_,_,_,gS,g5,-⟩:=H1.1.fe aa;have a4:=gS 4 _ rfl;have oq:=g5 4;have jN:=gS 1 _ rfl;have fU:=g5 1;clear gS g5;by_cases rQ:gG=0
   ·have Dm:(gG != 0)=false:=by simp [rQ]
    have zX:=am rQ;clear rQ
    go_wp2_with (first
     | fail)
    refine bodyPost_ret (results_tmp rfl _ _ _) rfl ?_;obtain ⟨eG,f9⟩:=H1.1.setInt (B:=w.heap.size) (i:=i) aa 1 (by decide) ((R s i).aR+1) {R s i with aR:=(R s i).aR+1} (fun _ _ _ _=>rfl) ⟨rfl,rfl,rfl,rfl⟩;refine ⟨rfl,own,Value.slice (some ⟨b,0,none⟩) s.tasks.length cap,Value.slice cW s.log.length aw, ?_,(Fr.below M.1.below).trans f9⟩;rw [wh.1,if_neg (by rw [g4.1];decide),if_neg (by rw [g4.1];decide),if_neg (fun c0=>by rcases c0 with c0 | c0;rw [g4.1] at c0;cases c0;exact c0 (by rw [js.1,Int.toNat_natCast,AK.1];exact zX.1))];exact eG
   ·have Dm:(gG != 0)=true:=by simp [rQ]
    have zX:=am rQ;clear rQ
    go_wp2_with (first
     | fail)
    refine bodyPost_ret (results_tmp rfl _ _ _) rfl ?_;obtain ⟨eG,f9⟩:=H1.1.setInt (B:=w.heap.size) (i:=i) aa 4 (by decide) 3 {R s i with a7:=3} (fun _ _ _ _=>rfl) ⟨rfl,rfl,rfl,rfl⟩;refine ⟨rfl,own,Value.slice (some ⟨b,0,none⟩) s.tasks.length cap,Value.slice cW s.log.length aw, ?_,(Fr.below M.1.below).trans f9⟩;rw [wh.1,if_neg (by rw [g4.1];decide),if_neg (by rw [g4.1];decide),if_pos (.inr (by rw [js.1,Int.toNat_natCast,AK.1];exact zX.1))];exact eG
end
section
variable {w0:World} {g:Nat} {own:Nat->Nat} {bh a8:Value} {p:Prog} {s:Sys} {aG aZ aP:Value}
theorem abt {N:Nat} (w:World) (h:bI 81 w0 g own bh a8 p s aG aZ aP w) (hinv:Inv p s N) (cz:N<=1048576) (aX:jI p) (eN:∀ k,k < s.cells.length-> -1<=(cellAt s.cells k).lock) (i:Nat) (aa:i < s.tasks.length) (nc:(R s i).aE=1->(R s i).at_<=(actAt (bo p.an (R s i).body.toNat) (R s i).aR.toNat).bP.length) (vb:(R s i).aE=4->(R s i).at_<=(R s i).reads.length) (iw:ready s i=true):
  Calls Tryz.prog 53 #[.pointer (some ⟨g,0,none⟩),.int .i64 i] w fun e af=>Mj 81 w0 g own bh a8 p (step p s i) aG w e af:=by
 have t:=hinv.task i aa;have lD:=t.iv;rcases (Gb iw).1 with hw | hw
 ·by_cases mh:(R s i).aR < (bo p.an (R s i).body.toNat).length
  ·have c7:=wz hinv.form ⟨t.jF,t.jZ⟩ (k:=(R s i).aR.toNat) (by omega)
   refine abr i w h hinv cz aX aa eN nc vb iw hw mh ?_;by_cases h1:(actAt (bo p.an (R s i).body.toNat) (R s i).aR.toNat).kind=1
   ·exact .inl h1
   ·by_cases ar:(actAt (bo p.an (R s i).body.toNat) (R s i).aR.toNat).kind=2
    ·exact .inr (.inl ar)
    ·by_cases aA:(actAt (bo p.an (R s i).body.toNat) (R s i).aR.toNat).kind=3
     ·exact .inr (.inr (.inl aA))
     ·exact .inr (.inr (.inr (L0 c7 h1 ar aA).1))
  ·exact SI i w h hinv cz aX aa eN nc vb iw (.inr (by have:=t.oW;omega))
 ·exact SI i w h hinv cz aX aa eN nc vb iw (.inl hw)
theorem abO {N:Nat} (w:World) (h:bI 81 w0 g own bh a8 p s aG aZ aP w) (hinv:Inv p s N) (cz:N<=1048576) (aX:jI p) (eN:∀ k,k < s.cells.length-> -1<=(cellAt s.cells k).lock) (k:Int) (a:Addr) (he:w.cell? ⟨1,0,none⟩=some (.iface 187 (.pointer (some a)))) (GW:jY s k=false):
  Calls Tryz.prog 53 #[.pointer (some ⟨g,0,none⟩),.int .i64 k] w fun e af=>e= .returned (.iface 187 (.pointer (some a)))/\Below w.heap.size w af:=by
 have aS:s.tasks.length<=1048576:=Nat.le_trans hinv.many cz;have CE:=am GW;have H:=am h;have M:=am ((ba.nil w).cB he);have C:=M.1.aw;simp only [ah] at C;clear h he GW eN aX;go_enter Tryz.func53,Tryz.ntmps53
 go_wp2_with (first
 |((first|with_reducible refine gB ?_ | with_reducible refine gA ?_);refine cx rfl M.1 ?_;clear M C;intro g W M C;simp only [ah] at C)
 |((with_reducible refine cv ?_);refine dV rfl rfl M.1 ?_)
 |(go_at_call 63;refine hd M.1 (IG p s g k _ (H.1.DL.below M.1.below) hinv aS) CE.1 ?_;clear M C;intro W M C;simp only [ah] at C))
 go_ret;exact ⟨rfl,M.1.below⟩
end
end Go.Proofs.YteajdhhmkjblnaaGreatDoor.Eq
namespace Go.Proofs.YteajdhhmkjblnaaGreatDoor.Eq
def Nr (cs:List Cell) (dn:List Task):Prop:=∀ c,c < cs.length-> -1<=(cellAt cs c).lock/\(cellAt cs c).lock < dn.length/\∀ k,k < dn.length->(holds (aD dn k) c=true ↔ (cellAt cs c).lock=k)
section
variable {p:Prog} {s fX:Sys} {i N:Nat}
theorem QK (h:jh p s=true):Nr s.cells s.tasks:=by
 simp only [jh,nI,Bool.and_eq_true,hv,e0,decide_eq_true_eq] at h;intro c ay;have:=h.1.2 c ay;refine ⟨this.1.2.1,by omega,fun k J=> ?_⟩;have:=this.2 k J;rw [this];simp
end
structure PF (p:Prog) (clock:Int) (T3:Nat) (t:Task):Prop where
 a7:0<=t.a7/\t.a7<=4
 idle:t.aE=0->t.at_=0/\t.reads= []/\t.ai= []
 from_:0<=t.from_/\t.from_<=T3
 ad6:t.aE=0->0<=t.bw/\t.bw<=clock+1
 ad7:t.aE=1\/t.aE=2\/t.aE=3->t.bw=0
 ad8:t.aE=4\/t.aE=5->t.since < t.bw/\t.bw<=clock
 kQ:t.aE=1->t.at_<=(ji p t).bP.length
 adL:t.aE=3->t.at_=0
 Wy:t.aE=4->t.at_<=t.reads.length
 ended:t.a7=2->t.aR=(lv p t).length
structure T4 (p:Prog) (s:Sys):Prop where
 eo:Nr s.cells s.tasks
 clock:0<=s.clock
 p6:∀ c,c < s.cells.length->0<=(cellAt s.cells c).time/\(cellAt s.cells c).time<=s.clock
 task:∀ i,i < s.tasks.length->PF p s.clock s.log.length (R s i)
section
variable {p:Prog} {s fX:Sys} {i N:Nat}
theorem LK (h:jh p s=true):T4 p s:=by
 have ct:=h;simp only [jh,Bool.and_eq_true,hv,e0,decide_eq_true_eq] at h;obtain ⟨⟨⟨⟨⟨⟨aB,ay⟩,aS⟩,J⟩,BK⟩,gw⟩,ke⟩:=h;refine ⟨QK ct,J.1,fun c ay=> ?_,fun i aa=> ?_⟩
 ·simp only [nI,hv,Bool.and_eq_true,e0] at gw
  exact (gw c ay).1.1.2
 ·have:=BK i aa
  unfold qu at this;simp only [Bool.and_eq_true] at this;show PF p s.clock s.log.length (aD s.tasks i);obtain ⟨⟨⟨⟨⟨⟨⟨⟨⟨⟨⟨⟨tv,ej⟩,b2⟩,b3⟩,b4⟩,b5⟩,sJ⟩,oU⟩,yi⟩,eW⟩,ud⟩,adM⟩,qi⟩:=this;rw [e0] at ej b2 b3;simp only [Bool.or_eq_true,decide_eq_true_eq,Bool.not_eq_true',decide_eq_false_iff_not,Bool.and_eq_true] at b4 eW;simp only [oc,Bool.and_eq_true,e0] at ud;unfold we at qi;simp only [] at qi;have b1:bo p.an (aD s.tasks i).body.toNat=lv p (aD s.tasks i):=rfl;rw [b1] at qi;have eg:actAt (lv p (aD s.tasks i)) (aD s.tasks i).aR.toNat=ji p (aD s.tasks i):=rfl;rw [eg] at qi;generalize jo:lv p (aD s.tasks i)=A at qi;generalize dt:ji p (aD s.tasks i)=B at qi
  have X7:(aD s.tasks i).aE=0->(aD s.tasks i).at_=0/\(aD s.tasks i).reads= []/\(aD s.tasks i).ai= []:=fun aq=>by
   rcases eW with eW | eW
   ·exact absurd aq eW
   ·exact ⟨eW.1,List.eq_nil_of_length_eq_zero (by omega),List.eq_nil_of_length_eq_zero (by omega)⟩
  have ja:(aD s.tasks i).aE ≠ 0->ln (aD s.tasks i) B.bP.length=true:=fun aq=>by
   have h1:(aD s.tasks i).a7=0:=by omega
   rw [if_pos h1] at qi;simp only [Bool.or_eq_true,Bool.and_eq_true,decide_eq_true_eq] at qi;rcases qi with qi | qi
   ·exact absurd qi aq
   ·exact qi.2
  have ad1:=ja;unfold ln at ja;refine ⟨b2,X7,ud.1.2,fun aq=> ?_,fun aq=> ?_,fun aq=> ?_,fun aq=> ?_,fun aq=> ?_,fun aq=> ?_,fun aq=> ?_⟩
  ·have:=ud.2
   rw [if_pos aq,e0] at this;exact this
  ·have:=ud.2
   rw [if_neg (by omega),if_neg (by omega)] at this;simpa using this
  ·have:=ud.2
   rw [if_neg (by omega),if_pos aq,e0] at this;omega
  ·have:=ja (by omega)
   rw [if_neg (by omega),if_pos aq,e0] at this;rw [dt];exact this.2
  ·have:=ja (by omega)
   rw [if_neg (by omega),if_neg (by omega),if_pos aq] at this;simp only [Bool.and_eq_true,decide_eq_true_eq] at this;exact this.1
  ·have:=ja (by omega)
   rw [if_neg (by omega),if_neg (by omega),if_neg (by omega),if_pos aq] at this;simp only [Bool.and_eq_true,e0] at this;exact this.1.2
  ·rw [if_neg (by omega),if_neg (by omega),if_pos aq] at qi
   rw [jo];simpa using qi
end
end Go.Proofs.YteajdhhmkjblnaaGreatDoor.Eq
namespace Go.Proofs.YteajdhhmkjblnaaGreatDoor.Eq
open Go.RowKit Go.Proofs.YteajdhhmkjblnaaGreatDoorW.PrintWords Go.Proofs.YteajdhhmkjblnaaGreatDoorW.PrintLast Go.Proofs.YteajdhhmkjblnaaGreatDoorW.PrintMore
def CK:Sys:=⟨[], [],0, []⟩
def jG (p:Prog) (s:Sys) (k:Int):Sys × Bool:=if jh p s && jY s k then (step p s k.toNat,true) else (CK,false)
def Q5 (r:Sys × Bool) (w:World) (e:Ending) (af:World):Prop:=∃ own aG aZ aP,e= .returned (.tuple #[.agg #[aG,aZ,.int .i64 r.1.clock,aP],.bool r.2])/\b8 w.heap.size own r.1 aG aZ aP af/\Below w.heap.size w af
theorem Ie (B:Nat) (W:World):b8 B (fun _=>0) CK (.slice none 0 0) (.slice none 0 0) (.slice none 0 0) W:=
 ⟨fun _ _=>rfl,fun _ _=>rfl,Kd.ht _ _ _ _ _,Kd.ht _ _ _ _ _,fun _ h=>(by cases h),Kd.ht _ _ _ _ _⟩
structure sf (a b:Addr) (w:World):Prop where
 one:w.cell? ⟨0,0,none⟩=some (.iface 187 (.pointer (some a)))
 two:w.cell? ⟨1,0,none⟩=some (.iface 187 (.pointer (some b)))
 ne:b ≠ a
 ha:∃ c t,w.heap[a.block]? = some (.cells c t (0,0))
 I:∃ c t,w.heap[b.block]? = some (.cells c t (0,0))
theorem sf.below {a b:Addr} {w af:World} (h:sf a b w) (k:Below w.heap.size w af):sf a b af:=
 ⟨j2 k h.one,j2 k h.two,h.ne,let ⟨c,t,q⟩:=h.ha;⟨c,t,fS q k⟩,let ⟨c,t,q⟩:=h.I;⟨c,t,fS q k⟩⟩
theorem sf.is {a b:Addr} {w:World} (h:sf a b w):Calls Tryz.prog 46 #[.iface 187 (.pointer (some b)),.iface 187 (.pointer (some a))] w fun e af=>e= .returned (.bool false)/\w=af:=by
 obtain ⟨c,t,q⟩:=h.ha;obtain ⟨d,u,r⟩:=h.I;exact ZP b a d c u t w h.ne r q
theorem Lc.st {w af:World} {p:Prog} {s:Sys} {g:Nat} (h:Lc w p s g af):∃ own bh a8 aG aZ aP,bI 81 w g own bh a8 p s aG aZ aP af:=by
 obtain ⟨own,bh,a8,aG,aZ,aP,aB,M⟩:=h;have dm:b8 w.heap.size own s aG aZ aP af:=M.get (F:=fL _ _ _ _ _ _);have U:own g=0:=Classical.byContradiction fun cm=>(List.pairwise_cons.1 M.apart).1 _ List.mem_cons_self g rfl cm
 have ak:w.heap.size<=g:=M.fresh _ List.mem_cons_self;have iC:=M.eU.1;have lk:∀ k,k ≠ g->ef own (some g) 1 k=own k:=fun k J=>gv (fun he=>J (by injection he with he;exact he.symm))
 have h1:=dm.rn (own':=ef own (some g) 1) (fun k J=>(lk k (by omega)).trans (dm.low k J)) (fun k J=>(lk k (by have:=dK iC;omega)).trans (dm.dk k J)) (fun k J=>lk k (fun he=>J (by rw [he];exact U)));exact ⟨ef own (some g) 1,bh,a8,aG,aZ,aP,M.below,h1.low,h1.dk,aB,iW rfl,iC,h1.cells,h1.tasks,h1.fj,h1.log⟩
theorem bI.Wz {w0:World} {g:Nat} {own:Nat->Nat} {bh a8:Value} {p:Prog} {s:Sys} {aG aZ aP:Value} {W:World} (h:bI 81 w0 g own bh a8 p s aG aZ aP W):b8 w0.heap.size own s aG aZ aP W:=⟨h.jU,h.dk,h.cells,h.tasks,h.fj,h.log⟩
theorem tr (p:Prog) (bK:List Value) (s:Sys) (c6:List Value) (k:Int) (w:World) (aB:cN.K w p bK) (hs:cS.K w s c6) (iz:jI p) (cP:oC s) (EX:s.log.length+s.tasks.length<=1000) (a b:Addr) (he:sf a b w):
  Calls Tryz.prog 29 #[.agg bK.toArray,.agg c6.toArray,.int .i64 k] w fun e af=>Q5 (jG p s k) w e af:=by
 have bS:=am he;have cR:=am aB;have c8:=am hs;obtain ⟨ek,ey,g0,er,rfl,-⟩:=jk aB;obtain ⟨cX,bL,dX,cu,cU,bO,rfl,-⟩:=gX hs;have ea:=am iz;have cK:=am cP;have KQ:=am EX;clear EX;obtain ⟨ok,yj⟩:∃ b,jh p s=b:=⟨_,rfl⟩;have jr:=am yj;obtain ⟨ez,zT⟩:∃ b,jY s k=b:=⟨_,rfl⟩;have tQ:=am zT;have b1:=X5;have eg:=X6;have M:=am (ba.nil w);have C:=M.1.aw;replace M:=am (M.1.cB he.one);clear C;have C:=M.1.aw;simp only [ah] at C;replace M:=am (M.1.cB he.two);clear C;have C:=M.1.aw;simp only [ah] at C;clear aB hs iz cP he yj zT;go_enter Tryz.func29,Tryz.ntmps29;cases ok
 ·have bX:=am (show jG p s k=(CK,false) by unfold jG;rw [jr.1];rfl)
  go_wp2_with (first
  |((first|with_reducible refine gB ?_ | with_reducible refine gA ?_);refine cx rfl M.1 ?_;clear M C;intro g W M C;simp only [ah] at C)
  |((with_reducible refine cv ?_);refine dV rfl rfl M.1 ?_)
  |(go_at_call 43;refine (abl p _ s _ a _ (cN.bH M.1.below cR.1) (cS.bH M.1.below c8.1) ea.1 cK.1 (bS.1.below M.1.below).one jr.1).mono ?_;rintro e W ⟨rfl,I⟩;replace M:=am (M.1.step I);clear C;have C:=M.1.aw;simp only [ah] at C;clear I)
  |(go_at_call 46;with_reducible refine Calls.mono (Rh _ _) ?_;rintro e W ⟨rfl,rfl⟩)
  |((with_reducible refine da ?_);refine dv rfl rfl rfl M.1 ?_;clear M C;intro W M C;simp only [ah] at C))
  refine bodyPost_ret (nK Tryz.results29 _ _ _ 31 _ (0,0) _ rfl (M.1.eU.at_ (by repeat (first|exact .here | exact .kept | apply gF.there))) Tryz.underlying31 rfl (by kernel_rfl)) rfl ?_;rw [bX.1];exact ⟨_,_,_,_,rfl,Ie _ _,M.1.below⟩
 ·have eS:=am (Inv.tb jr.1)
  have iS:=am (show ∀ k,k < s.cells.length-> -1<=(cellAt s.cells k).lock from fun q aF=>(QK jr.1 q aF).1);have Av:=am (show s.log.length+s.tasks.length<=1048576 from by have:=KQ.1;omega);cases ez
  ·have bX:=am (show jG p s k=(CK,false) by unfold jG;rw [jr.1,tQ.1];rfl)
   go_wp2_with (first
   |((first|with_reducible refine gB ?_ | with_reducible refine gA ?_);refine cx rfl M.1 ?_;clear M C;intro g W M C;simp only [ah] at C)
   |((with_reducible refine cv ?_);refine dV rfl rfl M.1 ?_)
   |(go_at_call 43;refine (SB p _ s _ a _ (cN.bH M.1.below cR.1) (cS.bH M.1.below c8.1) ea.1 cK.1 (bS.1.below M.1.below).one jr.1).mono ?_;rintro e dY ⟨g,rfl,ao⟩;obtain ⟨own,bh,a8,aG,aZ,aP,ja⟩:=ao.st;have gm:=am ja;have WA:=am M.1.below.size;replace M:=am (M.1.step ja.below);clear C;have C:=M.1.aw;simp only [ah] at C;clear ao ja)
   |(go_at_call 53;refine (abO _ gm.1 eS.1 Av.1 ea.1 iS.1 k b (bS.1.below M.1.below).two tQ.1).mono ?_;rintro e W ⟨rfl,I⟩;replace M:=am (M.1.step I);clear C;have C:=M.1.aw;simp only [ah] at C;clear I)
   |(go_at_call 46;with_reducible refine Calls.mono (sf.is (bS.1.below M.1.below)) ?_;rintro e W ⟨rfl,rfl⟩)
   |(go_at_call 46;with_reducible refine Calls.mono (Rh _ _) ?_;rintro e W ⟨rfl,rfl⟩)
   |((with_reducible refine da ?_);refine dv rfl rfl rfl M.1 ?_;clear M C;intro W M C;simp only [ah] at C))
   refine bodyPost_ret (nK Tryz.results29 _ _ _ 31 _ (0,0) _ rfl (M.1.eU.at_ (by repeat (first|exact .here | exact .kept | apply gF.there))) Tryz.underlying31 rfl (by kernel_rfl)) rfl ?_;rw [bX.1];exact ⟨_,_,_,_,rfl,Ie _ _,M.1.below⟩
  ·obtain ⟨yK,GV,iw⟩:=BB tQ.1
   obtain ⟨i,Qt⟩:∃ i,k.toNat=i:=⟨_,rfl⟩;rw [Qt] at yK GV iw;subst GV;have WB:=am yK;have WC:=am iw;have bX:=am (show jG p s (i:Int)=(step p s i,true) by unfold jG;rw [jr.1,tQ.1];rfl);have Kh:=am ((LK jr.1).task i yK).kQ;have WD:=am ((LK jr.1).task i yK).Wy;clear yK iw Qt
   go_wp2_with (first
   |((first|with_reducible refine gB ?_ | with_reducible refine gA ?_);refine cx rfl M.1 ?_;clear M C;intro g W M C;simp only [ah] at C)
   |((with_reducible refine cv ?_);refine dV rfl rfl M.1 ?_)
   |(go_at_call 43;refine (SB p _ s _ a _ (cN.bH M.1.below cR.1) (cS.bH M.1.below c8.1) ea.1 cK.1 (bS.1.below M.1.below).one jr.1).mono ?_;rintro e dY ⟨g,rfl,ao⟩;obtain ⟨own,bh,a8,aG,aZ,aP,ja⟩:=ao.st;have gm:=am ja;have WA:=am M.1.below.size;clear ao ja)
   |(go_at_call 53;refine (abt _ gm.1 eS.1 Av.1 ea.1 iS.1 i WB.1 Kh.1 WD.1 WC.1).mono ?_;rintro e W ⟨rfl,c1,Af,ui,ja,-⟩;clear gm;obtain ⟨MU,ed,rfl⟩:=ja.kI;obtain ⟨IK,cg,rfl⟩:=ja.FI;obtain ⟨qM,dh,rfl⟩:=ja.hV;have gm:=am ja;replace M:=am (M.1.copied ja.below ja.Wz);clear C;have C:=M.1.aw;simp only [ah] at C;clear ja)
   |(go_at_call 46;with_reducible refine Calls.mono (Yx _ _) ?_;rintro e W ⟨rfl,rfl⟩)
   |((with_reducible refine aQ 33 ?_);refine c4 g 2 (fun j u hu=>Fb gm.1.bB hu) ?_)
   |((with_reducible refine da ?_);refine dv rfl rfl rfl M.1 ?_;clear M C;intro W M C;simp only [ah] at C))
   refine bodyPost_ret (nK Tryz.results29 _ _ _ 31 _ (0,0) _ rfl (M.1.eU.at_ (by repeat (first|exact .here | exact .kept | apply gF.there))) Tryz.underlying31 rfl (by kernel_rfl)) rfl ?_;rw [bX.1];exact ⟨_,_,_,_,rfl,M.1.get (F:=fL _ _ _ _ _ _),M.1.below⟩
theorem ts (p:Prog) (bK:List Value) (s:Sys) (c6:List Value) (k:Int) (w:World) (aB:cN.K w p bK) (hs:cS.K w s c6) (iz:jI p) (cP:oC s) (EX:s.log.length+s.tasks.length<=1000):
  Calls Tryz.prog 28 #[.agg bK.toArray,.agg c6.toArray,.int .i64 k] w fun e af=>Q5 (jG p s k) w e af:=by
 have cR:=am aB;have c8:=am hs;obtain ⟨ek,ey,g0,er,rfl,-⟩:=jk aB;obtain ⟨cX,bL,dX,cu,cU,bO,rfl,-⟩:=gX hs;have ea:=am iz;have cK:=am cP;have KQ:=am EX;clear EX;obtain ⟨ok,yj⟩:∃ b,jh p s=b:=⟨_,rfl⟩;have jr:=am yj;obtain ⟨ez,zT⟩:∃ b,jY s k=b:=⟨_,rfl⟩;have tQ:=am zT;have M:=am (ba.nil w);have C:=M.1.aw;clear aB hs iz cP yj zT;go_enter Tryz.func28,Tryz.ntmps28;cases ok
 ·have bX:=am (show jG p s k=(CK,false) by unfold jG;rw [jr.1];rfl)
  go_wp2_with (first
  |((first|with_reducible refine gB ?_ | with_reducible refine gA ?_);refine cx rfl M.1 ?_;clear M C;intro g W M C;simp only [ah] at C)
  |((with_reducible refine cv ?_);refine dV rfl rfl M.1 ?_)
  |(go_at_call 25;refine hd M.1 (zl p _ s _ _ (cN.bH M.1.below cR.1) (cS.bH M.1.below c8.1) ea.1 cK.1) jr.1 ?_;clear M C;intro W M C;simp only [ah] at C)
  |((with_reducible refine da ?_);refine dv rfl rfl rfl M.1 ?_;clear M C;intro W M C;simp only [ah] at C))
  refine bodyPost_ret (nK Tryz.results28 _ _ _ 31 _ (0,0) _ rfl (M.1.eU.at_ (by repeat (first|exact .here | exact .kept | apply gF.there))) Tryz.underlying31 rfl (by kernel_rfl)) rfl ?_;rw [bX.1];exact ⟨_,_,_,_,rfl,Ie _ _,M.1.below⟩
 ·have eS:=am (Inv.tb jr.1)
  have Av:=am (show s.log.length+s.tasks.length<=1048576 from by have:=KQ.1;omega);cases ez
  ·have bX:=am (show jG p s k=(CK,false) by unfold jG;rw [jr.1,tQ.1];rfl)
   go_wp2_with (first
   |((first|with_reducible refine gB ?_ | with_reducible refine gA ?_);refine cx rfl M.1 ?_;clear M C;intro g W M C;simp only [ah] at C)
   |((with_reducible refine cv ?_);refine dV rfl rfl M.1 ?_)
   |(go_at_call 25;refine hd M.1 (zl p _ s _ _ (cN.bH M.1.below cR.1) (cS.bH M.1.below c8.1) ea.1 cK.1) jr.1 ?_;clear M C;intro W M C;simp only [ah] at C)
   |(go_at_call 52;refine (MD p s _ _ k _ (cN.bH M.1.below cR.1) (cS.bH M.1.below c8.1) eS.1 Av.1).mono ?_;rintro e W ⟨gN,rfl,I,aO⟩;rcases aO with ⟨-,rfl⟩ | ⟨aO,-⟩;rotate_left;(exact absurd aO (by rw [tQ.1];decide));rw [tQ.1];replace M:=am (M.1.step I);clear C;have C:=M.1.aw;simp only [ah] at C;clear I)
   |((with_reducible refine da ?_);refine dv rfl rfl rfl M.1 ?_;clear M C;intro W M C;simp only [ah] at C))
   refine bodyPost_ret (nK Tryz.results28 _ _ _ 31 _ (0,0) _ rfl (M.1.eU.at_ (by repeat (first|exact .here | exact .kept | apply gF.there))) Tryz.underlying31 rfl (by kernel_rfl)) rfl ?_;rw [bX.1];exact ⟨_,_,_,_,rfl,Ie _ _,M.1.below⟩
  ·have bX:=am (show jG p s k=(step p s k.toNat,true) by unfold jG;rw [jr.1,tQ.1];rfl)
   go_wp2_with (first
   |((first|with_reducible refine gB ?_ | with_reducible refine gA ?_);refine cx rfl M.1 ?_;clear M C;intro g W M C;simp only [ah] at C)
   |((with_reducible refine cv ?_);refine dV rfl rfl M.1 ?_)
   |(go_at_call 25;refine hd M.1 (zl p _ s _ _ (cN.bH M.1.below cR.1) (cS.bH M.1.below c8.1) ea.1 cK.1) jr.1 ?_;clear M C;intro W M C;simp only [ah] at C)
   |(go_at_call 52;refine (MD p s _ _ k _ (cN.bH M.1.below cR.1) (cS.bH M.1.below c8.1) eS.1 Av.1).mono ?_;rintro e W ⟨gN,rfl,I,aO⟩;rcases aO with ⟨aO,-⟩ | ⟨-,c1,v0,v1,v3,rfl,aW⟩;(exact absurd aO (by rw [tQ.1];decide));rw [tQ.1];obtain ⟨MU,ed,rfl⟩:=Kd.bt aW.cells;obtain ⟨IK,hq,cg,rfl⟩:=aW.slice3;obtain ⟨qM,dh,rfl⟩:=Kd.bt aW.log;replace M:=am (M.1.copied I aW);clear C;have C:=M.1.aw;simp only [ah] at C;clear I aW)
   |((with_reducible refine da ?_);refine dv rfl rfl rfl M.1 ?_;clear M C;intro W M C;simp only [ah] at C))
   refine bodyPost_ret (nK Tryz.results28 _ _ _ 31 _ (0,0) _ rfl (M.1.eU.at_ (by repeat (first|exact .here | exact .kept | apply gF.there))) Tryz.underlying31 rfl (by kernel_rfl)) rfl ?_;rw [bX.1];exact ⟨_,_,_,_,rfl,M.1.get (F:=fL _ _ _ _ _ _),M.1.below⟩
theorem pU (xs cH:List cI) (A B:Option Addr) (c d:Nat) (w:World) (az:cn.C w A xs.length xs) (aW:cn.C w B cH.length cH):
  Calls Tryz.prog 57 #[.slice A xs.length c,.slice B cH.length d] w fun e af=>e= .returned (.bool (decide (xs=cH)))/\Below w.heap.size w af:=by
 have ew:=am az;have fJ:=am aW;have hm:=Kd.Fx az;clear az aW;by_cases ak:xs.length=cH.length
 ·have h4:((xs.length:Int) != (cH.length:Int))=false:=by rw [ak];simp
  have dq:=am ak;clear ak;go_enter Tryz.func57,Tryz.ntmps57;go_wp2;have ov:=am h4;clear h4;go_loopw [5] (fun v af=>∃ k:Nat,k<=xs.length/\v= .int .i64 k/\av (∀ j,j < k->xs[j]? = cH[j]?)/\av (Below w.heap.size w af)) (fun v _=>xs.length - (intOf v).toNat)
  case atStart=>exact ⟨0,Nat.zero_le _,rfl,⟨fun j aI=>by omega⟩,⟨Below.refl _ _⟩⟩
  case round=>
   obtain ⟨k,J,rfl,du,ab⟩:=hrel;by_cases aJ:k < xs.length
   ·have n6:k < cH.length:=by rw [<-dq.1];exact aJ
    have aq:(0:Int)<=(k:Int):=by omega
    have h1:(k:Int) < (xs.length:Int):=by omega
    have ar:(k:Int) < (cH.length:Int):=by omega
    obtain ⟨qI,cs,rfl,bQ,au,aM⟩:=Kd.y2 (Kd.bW ew.1 ab.1) gU (k:Int) aq h1;obtain ⟨BI,ds,rfl,oZ,ke,uy⟩:=Kd.y2 (Kd.bW fJ.1 ab.1) gU (k:Int) aq ar;simp only [Int.toNat_natCast] at au aM ke uy;have cT:=am au;have cJ:=am aM;have rU:=am ke;have EY:=am uy;clear au aM ke uy;go_wp2;refine wp_region_still_tail 8 (by kernel_rfl) (by kernel_rfl) ?_;simp only [List.take_succ_cons,List.take_zero,List.drop_succ_cons,List.drop_zero];iterate 3 still_step
    refine Dd rfl 52 (.tmp 19) rfl qI (k*2) rfl cs _ cJ.1 (by rw [bQ];decide) Tryz.underlying52 rfl (by rw [bQ];kernel_rfl) ?_;iterate 3 still_step
    refine Dd rfl 52 (.tmp 23) rfl BI (k*2) rfl ds _ EY.1 (by rw [oZ];decide) Tryz.underlying52 rfl (by rw [oZ];kernel_rfl) ?_;refine wpStill_nil ?_;obtain rfl:=mZ cT.1;obtain rfl:=mZ rU.1;go_wp2
    all_goals first
    |(go_ret;refine ⟨hg (decide_eq_false (fun h=> ?_)).symm,ei ab.1⟩;subst h;simp_all;done)
    |(go_roundw
      case rel=>exact ⟨k+1,by omega,by go_num,⟨fun j aI=>Gg (z:=gU) du.1 aJ n6 (by rw [YM];simp_all) aI⟩,⟨ei ab.1⟩⟩
      case measure=>simp [intOf];omega)
   ·go_wp2
    go_ret;exact ⟨hg (decide_eq_true (F9 xs cH dq.1 (fun j aI=>du.1 j (by omega)))).symm,ab.1⟩
 ·have h4:((xs.length:Int) != (cH.length:Int))=true:=by simp;omega
  have Nw:(xs.length != cH.length)=true:=by simp;omega
  have Nx:(xs.length == cH.length)=false:=by simp;omega
  have dq:=am ak;clear ak;go_enter Tryz.func57,Tryz.ntmps57;go_wp2;go_ret;exact ⟨hg (decide_eq_false (fun h=>dq.1 (by rw [h]))).symm,Below.refl _ _⟩
theorem sw {w af:World} (h:vr w af):Below w.heap.size w af:=by obtain ⟨n,rfl⟩:=h;exact iY (Below.refl _ _) n
theorem S6 (x y:Entry) (cs ds:List Value) (w:World) (az:hf.K w x cs) (aW:hf.K w y ds):
  Calls Tryz.prog 84 #[.agg cs.toArray,.agg ds.toArray] w fun e af=>e= .returned (.bool (decide (x=y)))/\Below w.heap.size w af:=by
 obtain ⟨cU,bO,gy,e1,rfl,gz,dj,og,fy⟩:=Bz az;obtain ⟨hB,d3,iZ,d8,rfl,rN,aA,Jh,dU⟩:=Bz aW;have G:=am (And.intro dj fy);have H:=am (And.intro aA dU);clear dj fy aA dU gz og rN Jh az aW;obtain ⟨YG,aee⟩:∃ b,(x.task == y.task)=b:=⟨_,rfl⟩;obtain ⟨X8,ad9⟩:∃ b,(x.act == y.act)=b:=⟨_,rfl⟩;obtain ⟨L4,Zl⟩:∃ b,(x.bw == y.bw)=b:=⟨_,rfl⟩;obtain ⟨L5,Zm⟩:∃ b,(x.from_ == y.from_)=b:=⟨_,rfl⟩;obtain ⟨L6,F0⟩:∃ b,decide (x.reads=y.reads)=b:=⟨_,rfl⟩;have qE:=am F0;clear F0;obtain ⟨LS,FO⟩:∃ b,decide (x.ai=y.ai)=b:=⟨_,rfl⟩;have sq:=am FO;clear FO;have M:=am (ba.nil w);have C:=M.1.aw;cases YG
 ·go_enter Tryz.func84,Tryz.ntmps84
  go_wp2_with (first
  |((first|with_reducible refine gB ?_ | with_reducible refine gA ?_);refine cx rfl M.1 ?_;clear M C;intro g W M C;simp only [ah] at C))
  go_ret;refine ⟨hg ?_,M.1.below⟩;rw [eq_comm,decide_eq_false_iff_not,Bv];simp_all
 ·cases X8
  ·go_enter Tryz.func84,Tryz.ntmps84
   go_wp2_with (first
   |((first|with_reducible refine gB ?_ | with_reducible refine gA ?_);refine cx rfl M.1 ?_;clear M C;intro g W M C;simp only [ah] at C))
   go_ret;refine ⟨hg ?_,M.1.below⟩;rw [eq_comm,decide_eq_false_iff_not,Bv];simp_all
  ·cases L4
   ·go_enter Tryz.func84,Tryz.ntmps84
    go_wp2_with (first
    |((first|with_reducible refine gB ?_ | with_reducible refine gA ?_);refine cx rfl M.1 ?_;clear M C;intro g W M C;simp only [ah] at C))
    go_ret;refine ⟨hg ?_,M.1.below⟩;rw [eq_comm,decide_eq_false_iff_not,Bv];simp_all
   ·cases L5
    ·go_enter Tryz.func84,Tryz.ntmps84
     go_wp2_with (first
     |((first|with_reducible refine gB ?_ | with_reducible refine gA ?_);refine cx rfl M.1 ?_;clear M C;intro g W M C;simp only [ah] at C))
     go_ret;refine ⟨hg ?_,M.1.below⟩;rw [eq_comm,decide_eq_false_iff_not,Bv];simp_all
    ·cases L6
     ·go_enter Tryz.func84,Tryz.ntmps84
      go_wp2_with (first
      |((first|with_reducible refine gB ?_ | with_reducible refine gA ?_);refine cx rfl M.1 ?_;clear M C;intro g W M C;simp only [ah] at C)
      |(go_at_call 57;with_reducible refine Calls.mono (pU x.reads y.reads _ _ _ _ _ (Kd.bW (w:=w) G.1.1 M.1.below) (Kd.bW (w:=w) H.1.1 M.1.below)) ?_;rintro e w1 ⟨rfl,I⟩;rw [qE.1];replace M:=am (M.1.step I);clear C;have C:=M.1.aw;simp only [ah] at C;clear I)
      |(go_at_call 57;with_reducible refine Calls.mono (pU x.ai y.ai _ _ _ _ _ (Kd.bW (w:=w) G.1.2 M.1.below) (Kd.bW (w:=w) H.1.2 M.1.below)) ?_;rintro e w1 ⟨rfl,I⟩;rw [sq.1];replace M:=am (M.1.step I);clear C;have C:=M.1.aw;simp only [ah] at C;clear I))
      go_ret;refine ⟨hg ?_,M.1.below⟩;have F1:=of_decide_eq_false qE.1;rw [eq_comm,decide_eq_false_iff_not,Bv];simp_all
     ·cases LS
      ·go_enter Tryz.func84,Tryz.ntmps84
       go_wp2_with (first
       |((first|with_reducible refine gB ?_ | with_reducible refine gA ?_);refine cx rfl M.1 ?_;clear M C;intro g W M C;simp only [ah] at C)
       |(go_at_call 57;with_reducible refine Calls.mono (pU x.reads y.reads _ _ _ _ _ (Kd.bW (w:=w) G.1.1 M.1.below) (Kd.bW (w:=w) H.1.1 M.1.below)) ?_;rintro e w1 ⟨rfl,I⟩;rw [qE.1];replace M:=am (M.1.step I);clear C;have C:=M.1.aw;simp only [ah] at C;clear I)
       |(go_at_call 57;with_reducible refine Calls.mono (pU x.ai y.ai _ _ _ _ _ (Kd.bW (w:=w) G.1.2 M.1.below) (Kd.bW (w:=w) H.1.2 M.1.below)) ?_;rintro e w1 ⟨rfl,I⟩;rw [sq.1];replace M:=am (M.1.step I);clear C;have C:=M.1.aw;simp only [ah] at C;clear I))
       go_ret;refine ⟨hg ?_,M.1.below⟩;have F1:=of_decide_eq_true qE.1;have LU:=of_decide_eq_false sq.1;rw [eq_comm,decide_eq_false_iff_not,Bv];simp_all
      ·go_enter Tryz.func84,Tryz.ntmps84
       go_wp2_with (first
       |((first|with_reducible refine gB ?_ | with_reducible refine gA ?_);refine cx rfl M.1 ?_;clear M C;intro g W M C;simp only [ah] at C)
       |(go_at_call 57;with_reducible refine Calls.mono (pU x.reads y.reads _ _ _ _ _ (Kd.bW (w:=w) G.1.1 M.1.below) (Kd.bW (w:=w) H.1.1 M.1.below)) ?_;rintro e w1 ⟨rfl,I⟩;rw [qE.1];replace M:=am (M.1.step I);clear C;have C:=M.1.aw;simp only [ah] at C;clear I)
       |(go_at_call 57;with_reducible refine Calls.mono (pU x.ai y.ai _ _ _ _ _ (Kd.bW (w:=w) G.1.2 M.1.below) (Kd.bW (w:=w) H.1.2 M.1.below)) ?_;rintro e w1 ⟨rfl,I⟩;rw [sq.1];replace M:=am (M.1.step I);clear C;have C:=M.1.aw;simp only [ah] at C;clear I))
       go_ret;refine ⟨hg ?_,M.1.below⟩;have F1:=of_decide_eq_true qE.1;have LU:=of_decide_eq_true sq.1;rw [eq_comm,decide_eq_true_eq,Bv];simp_all
theorem Gr (xs cH:List Entry) (A B:Option Addr) (c d:Nat) (w:World) (az:hf.C w A xs.length xs) (aW:hf.C w B cH.length cH):
  Calls Tryz.prog 54 #[.slice A xs.length c,.slice B cH.length d] w fun e af=>e= .returned (.bool (decide (xs=cH)))/\Below w.heap.size w af:=by
 have ew:=am az;have fJ:=am aW;have hm:=Kd.Fx az;clear az aW;by_cases ak:xs.length=cH.length
 ·have h4:((xs.length:Int) != (cH.length:Int))=false:=by rw [ak];simp
  have dq:=am ak;clear ak;go_enter Tryz.func54,Tryz.ntmps54;go_wp2;have ov:=am h4;clear h4;go_loopw [5] (fun v af=>∃ k:Nat,k<=xs.length/\v= .int .i64 k/\av (∀ j,j < k->xs[j]? = cH[j]?)/\av (Below w.heap.size w af)) (fun v _=>xs.length - (intOf v).toNat)
  case atStart=>exact ⟨0,Nat.zero_le _,rfl,⟨fun j aI=>by omega⟩,⟨Below.refl _ _⟩⟩
  case round=>
   obtain ⟨k,J,rfl,du,ab⟩:=hrel;by_cases aJ:k < xs.length
   ·have n6:k < cH.length:=by rw [<-dq.1];exact aJ
    have aq:(0:Int)<=(k:Int):=by omega
    have h1:(k:Int) < (xs.length:Int):=by omega
    have ar:(k:Int) < (cH.length:Int):=by omega
    obtain ⟨qI,cs,rfl,bQ,au,aM⟩:=Kd.y2 (Kd.bW ew.1 ab.1) sl (k:Int) aq h1;obtain ⟨BI,ds,rfl,oZ,ke,uy⟩:=Kd.y2 (Kd.bW fJ.1 ab.1) sl (k:Int) aq ar;simp only [Int.toNat_natCast] at au aM ke uy;have cT:=am au;have cJ:=am aM;have rU:=am ke;have EY:=am uy;clear au aM ke uy;go_wp2;refine wp_region_still_tail 8 (by kernel_rfl) (by kernel_rfl) ?_;simp only [List.take_succ_cons,List.take_zero,List.drop_succ_cons,List.drop_zero];iterate 3 still_step
    refine Dd rfl 105 (.tmp 19) rfl qI (k*6) rfl cs _ cJ.1 (by rw [bQ];decide) Tryz.underlying105 rfl (by rw [bQ];kernel_rfl) ?_;iterate 3 still_step
    refine Dd rfl 105 (.tmp 23) rfl BI (k*6) rfl ds _ EY.1 (by rw [oZ];decide) Tryz.underlying105 rfl (by rw [oZ];kernel_rfl) ?_;refine wpStill_nil ?_;by_cases he:xs.getD k sl=cH.getD k sl
    ·have bS:=am he
     clear he;go_wp2_with (go_at_call 84;refine (S6 _ _ _ _ _ (hf.bH (ei (Below.refl _ _)) cT.1) (hf.bH (ei (Below.refl _ _)) rU.1)).mono ?_;rw [decide_eq_true bS.1];rintro e w1 ⟨rfl,I⟩;have gH:=am (fb (ei ab.1) I);clear I ab)
     go_roundw
     case rel=>exact ⟨k+1,by omega,by go_num,⟨fun j aI=>Gg du.1 aJ n6 bS.1 aI⟩,gH⟩
     case measure=>simp [intOf];omega
    ·have bS:=am he
     clear he;go_wp2_with (go_at_call 84;refine (S6 _ _ _ _ _ (hf.bH (ei (Below.refl _ _)) cT.1) (hf.bH (ei (Below.refl _ _)) rU.1)).mono ?_;rw [decide_eq_false bS.1];rintro e w1 ⟨rfl,I⟩;have gH:=am (fb (ei ab.1) I);clear I ab)
     go_ret;exact ⟨hg (decide_eq_false (fun h=>bS.1 (by rw [h]))).symm,gH.1⟩
   ·go_wp2
    go_ret;exact ⟨hg (decide_eq_true (F9 xs cH dq.1 (fun j aI=>du.1 j (by omega)))).symm,ab.1⟩
 ·have h4:((xs.length:Int) != (cH.length:Int))=true:=by simp;omega
  have Nw:(xs.length != cH.length)=true:=by simp;omega
  have Nx:(xs.length == cH.length)=false:=by simp;omega
  have dq:=am ak;clear ak;go_enter Tryz.func54,Tryz.ntmps54;go_wp2;go_ret;exact ⟨hg (decide_eq_false (fun h=>dq.1 (by rw [h]))).symm,Below.refl _ _⟩
theorem SV (x y:Task) (cs ds:List Value) (w:World) (az:eV.K w x cs) (aW:eV.K w y ds):
  Calls Tryz.prog 34 #[.agg cs.toArray,.agg ds.toArray] w fun e af=>e= .returned (.bool (decide (x=y)))/\Below w.heap.size w af:=by
 obtain ⟨cU,bO,gy,e1,ev,dp,e6,dL,rfl,gz,dj,og,fy,h0,hh,ko,fi⟩:=gh az;obtain ⟨hB,d3,iZ,d8,gY,d9,gd,d10,rfl,rN,aA,Jh,dU,T5,eb,WE,e7⟩:=gh aW;have G:=am (And.intro dj (And.intro fy (And.intro hh fi)));have H:=am (And.intro aA (And.intro dU (And.intro eb e7)));clear dj fy hh fi aA dU eb e7 gz og h0 ko rN Jh T5 WE az aW;obtain ⟨YH,aef⟩:∃ b,(x.body == y.body)=b:=⟨_,rfl⟩;obtain ⟨XH,ad2⟩:∃ b,(x.aR == y.aR)=b:=⟨_,rfl⟩;obtain ⟨XI,ad3⟩:∃ b,(x.up == y.up)=b:=⟨_,rfl⟩;obtain ⟨X9,aea⟩:∃ b,(x.a7 == y.a7)=b:=⟨_,rfl⟩;obtain ⟨Zn,aeg⟩:∃ b,(x.aE == y.aE)=b:=⟨_,rfl⟩;obtain ⟨X',aeb⟩:∃ b,(x.at_ == y.at_)=b:=⟨_,rfl⟩;obtain ⟨Zo,aeh⟩:∃ b,(x.since == y.since)=b:=⟨_,rfl⟩;obtain ⟨L4,Zl⟩:∃ b,(x.bw == y.bw)=b:=⟨_,rfl⟩;obtain ⟨L5,Zm⟩:∃ b,(x.from_ == y.from_)=b:=⟨_,rfl⟩;obtain ⟨YI,Q6⟩:∃ b,decide (x.aL=y.aL)=b:=⟨_,rfl⟩;have wq:=am Q6;clear Q6;obtain ⟨Ya,QL⟩:∃ b,decide (x.bE=y.bE)=b:=⟨_,rfl⟩;have xJ:=am QL;clear QL;obtain ⟨L6,F0⟩:∃ b,decide (x.reads=y.reads)=b:=⟨_,rfl⟩;have qE:=am F0;clear F0;obtain ⟨LS,FO⟩:∃ b,decide (x.ai=y.ai)=b:=⟨_,rfl⟩;have sq:=am FO;clear FO;have M:=am (ba.nil w);have C:=M.1.aw;cases YH
 ·go_enter Tryz.func34,Tryz.ntmps34
  go_wp2_with (first
  |((first|with_reducible refine gB ?_ | with_reducible refine gA ?_);refine cx rfl M.1 ?_;clear M C;intro g W M C;simp only [ah] at C))
  go_ret;refine ⟨hg ?_,M.1.below⟩;rw [eq_comm,decide_eq_false_iff_not,ry];simp_all
 ·cases XH
  ·go_enter Tryz.func34,Tryz.ntmps34
   go_wp2_with (first
   |((first|with_reducible refine gB ?_ | with_reducible refine gA ?_);refine cx rfl M.1 ?_;clear M C;intro g W M C;simp only [ah] at C))
   go_ret;refine ⟨hg ?_,M.1.below⟩;rw [eq_comm,decide_eq_false_iff_not,ry];simp_all
  ·cases XI
   ·go_enter Tryz.func34,Tryz.ntmps34
    go_wp2_with (first
    |((first|with_reducible refine gB ?_ | with_reducible refine gA ?_);refine cx rfl M.1 ?_;clear M C;intro g W M C;simp only [ah] at C))
    go_ret;refine ⟨hg ?_,M.1.below⟩;rw [eq_comm,decide_eq_false_iff_not,ry];simp_all
   ·cases X9
    ·go_enter Tryz.func34,Tryz.ntmps34
     go_wp2_with (first
     |((first|with_reducible refine gB ?_ | with_reducible refine gA ?_);refine cx rfl M.1 ?_;clear M C;intro g W M C;simp only [ah] at C))
     go_ret;refine ⟨hg ?_,M.1.below⟩;rw [eq_comm,decide_eq_false_iff_not,ry];simp_all
    ·cases Zn
     ·go_enter Tryz.func34,Tryz.ntmps34
      go_wp2_with (first
      |((first|with_reducible refine gB ?_ | with_reducible refine gA ?_);refine cx rfl M.1 ?_;clear M C;intro g W M C;simp only [ah] at C))
      go_ret;refine ⟨hg ?_,M.1.below⟩;rw [eq_comm,decide_eq_false_iff_not,ry];simp_all
     ·cases X'
      ·go_enter Tryz.func34,Tryz.ntmps34
       go_wp2_with (first
       |((first|with_reducible refine gB ?_ | with_reducible refine gA ?_);refine cx rfl M.1 ?_;clear M C;intro g W M C;simp only [ah] at C))
       go_ret;refine ⟨hg ?_,M.1.below⟩;rw [eq_comm,decide_eq_false_iff_not,ry];simp_all
      ·cases Zo
       ·go_enter Tryz.func34,Tryz.ntmps34
        go_wp2_with (first
        |((first|with_reducible refine gB ?_ | with_reducible refine gA ?_);refine cx rfl M.1 ?_;clear M C;intro g W M C;simp only [ah] at C))
        go_ret;refine ⟨hg ?_,M.1.below⟩;rw [eq_comm,decide_eq_false_iff_not,ry];simp_all
       ·cases L4
        ·go_enter Tryz.func34,Tryz.ntmps34
         go_wp2_with (first
         |((first|with_reducible refine gB ?_ | with_reducible refine gA ?_);refine cx rfl M.1 ?_;clear M C;intro g W M C;simp only [ah] at C))
         go_ret;refine ⟨hg ?_,M.1.below⟩;rw [eq_comm,decide_eq_false_iff_not,ry];simp_all
        ·cases L5
         ·go_enter Tryz.func34,Tryz.ntmps34
          go_wp2_with (first
          |((first|with_reducible refine gB ?_ | with_reducible refine gA ?_);refine cx rfl M.1 ?_;clear M C;intro g W M C;simp only [ah] at C))
          go_ret;refine ⟨hg ?_,M.1.below⟩;rw [eq_comm,decide_eq_false_iff_not,ry];simp_all
         ·cases YI
          ·go_enter Tryz.func34,Tryz.ntmps34
           go_wp2_with (first
           |((first|with_reducible refine gB ?_ | with_reducible refine gA ?_);refine cx rfl M.1 ?_;clear M C;intro g W M C;simp only [ah] at C)
           |(go_at_call 23;with_reducible refine Calls.mono (su x.aL y.aL _ _ _ _ _ (Kd.bW (w:=w) G.1.1 M.1.below) (Kd.bW (w:=w) H.1.1 M.1.below)) ?_;rintro e w1 ⟨rfl,aO⟩;have I:=sw aO;rw [wq.1];replace M:=am (M.1.step I);clear C;have C:=M.1.aw;simp only [ah] at C;clear I)
           |(go_at_call 23;with_reducible refine Calls.mono (su x.bE y.bE _ _ _ _ _ (Kd.bW (w:=w) G.1.2.1 M.1.below) (Kd.bW (w:=w) H.1.2.1 M.1.below)) ?_;rintro e w1 ⟨rfl,aO⟩;have I:=sw aO;rw [xJ.1];replace M:=am (M.1.step I);clear C;have C:=M.1.aw;simp only [ah] at C;clear I)
           |(go_at_call 57;with_reducible refine Calls.mono (pU x.reads y.reads _ _ _ _ _ (Kd.bW (w:=w) G.1.2.2.1 M.1.below) (Kd.bW (w:=w) H.1.2.2.1 M.1.below)) ?_;rintro e w1 ⟨rfl,I⟩;rw [qE.1];replace M:=am (M.1.step I);clear C;have C:=M.1.aw;simp only [ah] at C;clear I)
           |(go_at_call 57;with_reducible refine Calls.mono (pU x.ai y.ai _ _ _ _ _ (Kd.bW (w:=w) G.1.2.2.2 M.1.below) (Kd.bW (w:=w) H.1.2.2.2 M.1.below)) ?_;rintro e w1 ⟨rfl,I⟩;rw [sq.1];replace M:=am (M.1.step I);clear C;have C:=M.1.aw;simp only [ah] at C;clear I))
           go_ret;refine ⟨hg ?_,M.1.below⟩;have H5:=of_decide_eq_false wq.1;rw [eq_comm,decide_eq_false_iff_not,ry];simp_all
          ·cases Ya
           ·go_enter Tryz.func34,Tryz.ntmps34
            go_wp2_with (first
            |((first|with_reducible refine gB ?_ | with_reducible refine gA ?_);refine cx rfl M.1 ?_;clear M C;intro g W M C;simp only [ah] at C)
            |(go_at_call 23;with_reducible refine Calls.mono (su x.aL y.aL _ _ _ _ _ (Kd.bW (w:=w) G.1.1 M.1.below) (Kd.bW (w:=w) H.1.1 M.1.below)) ?_;rintro e w1 ⟨rfl,aO⟩;have I:=sw aO;rw [wq.1];replace M:=am (M.1.step I);clear C;have C:=M.1.aw;simp only [ah] at C;clear I)
            |(go_at_call 23;with_reducible refine Calls.mono (su x.bE y.bE _ _ _ _ _ (Kd.bW (w:=w) G.1.2.1 M.1.below) (Kd.bW (w:=w) H.1.2.1 M.1.below)) ?_;rintro e w1 ⟨rfl,aO⟩;have I:=sw aO;rw [xJ.1];replace M:=am (M.1.step I);clear C;have C:=M.1.aw;simp only [ah] at C;clear I)
            |(go_at_call 57;with_reducible refine Calls.mono (pU x.reads y.reads _ _ _ _ _ (Kd.bW (w:=w) G.1.2.2.1 M.1.below) (Kd.bW (w:=w) H.1.2.2.1 M.1.below)) ?_;rintro e w1 ⟨rfl,I⟩;rw [qE.1];replace M:=am (M.1.step I);clear C;have C:=M.1.aw;simp only [ah] at C;clear I)
            |(go_at_call 57;with_reducible refine Calls.mono (pU x.ai y.ai _ _ _ _ _ (Kd.bW (w:=w) G.1.2.2.2 M.1.below) (Kd.bW (w:=w) H.1.2.2.2 M.1.below)) ?_;rintro e w1 ⟨rfl,I⟩;rw [sq.1];replace M:=am (M.1.step I);clear C;have C:=M.1.aw;simp only [ah] at C;clear I))
            go_ret;refine ⟨hg ?_,M.1.below⟩;have H5:=of_decide_eq_true wq.1;have LL:=of_decide_eq_false xJ.1;rw [eq_comm,decide_eq_false_iff_not,ry];simp_all
           ·cases L6
            ·go_enter Tryz.func34,Tryz.ntmps34
             go_wp2_with (first
             |((first|with_reducible refine gB ?_ | with_reducible refine gA ?_);refine cx rfl M.1 ?_;clear M C;intro g W M C;simp only [ah] at C)
             |(go_at_call 23;with_reducible refine Calls.mono (su x.aL y.aL _ _ _ _ _ (Kd.bW (w:=w) G.1.1 M.1.below) (Kd.bW (w:=w) H.1.1 M.1.below)) ?_;rintro e w1 ⟨rfl,aO⟩;have I:=sw aO;rw [wq.1];replace M:=am (M.1.step I);clear C;have C:=M.1.aw;simp only [ah] at C;clear I)
             |(go_at_call 23;with_reducible refine Calls.mono (su x.bE y.bE _ _ _ _ _ (Kd.bW (w:=w) G.1.2.1 M.1.below) (Kd.bW (w:=w) H.1.2.1 M.1.below)) ?_;rintro e w1 ⟨rfl,aO⟩;have I:=sw aO;rw [xJ.1];replace M:=am (M.1.step I);clear C;have C:=M.1.aw;simp only [ah] at C;clear I)
             |(go_at_call 57;with_reducible refine Calls.mono (pU x.reads y.reads _ _ _ _ _ (Kd.bW (w:=w) G.1.2.2.1 M.1.below) (Kd.bW (w:=w) H.1.2.2.1 M.1.below)) ?_;rintro e w1 ⟨rfl,I⟩;rw [qE.1];replace M:=am (M.1.step I);clear C;have C:=M.1.aw;simp only [ah] at C;clear I)
             |(go_at_call 57;with_reducible refine Calls.mono (pU x.ai y.ai _ _ _ _ _ (Kd.bW (w:=w) G.1.2.2.2 M.1.below) (Kd.bW (w:=w) H.1.2.2.2 M.1.below)) ?_;rintro e w1 ⟨rfl,I⟩;rw [sq.1];replace M:=am (M.1.step I);clear C;have C:=M.1.aw;simp only [ah] at C;clear I))
             go_ret;refine ⟨hg ?_,M.1.below⟩;have H5:=of_decide_eq_true wq.1;have LL:=of_decide_eq_true xJ.1;have F1:=of_decide_eq_false qE.1;rw [eq_comm,decide_eq_false_iff_not,ry];simp_all
            ·cases LS
             ·go_enter Tryz.func34,Tryz.ntmps34
              go_wp2_with (first
              |((first|with_reducible refine gB ?_ | with_reducible refine gA ?_);refine cx rfl M.1 ?_;clear M C;intro g W M C;simp only [ah] at C)
              |(go_at_call 23;with_reducible refine Calls.mono (su x.aL y.aL _ _ _ _ _ (Kd.bW (w:=w) G.1.1 M.1.below) (Kd.bW (w:=w) H.1.1 M.1.below)) ?_;rintro e w1 ⟨rfl,aO⟩;have I:=sw aO;rw [wq.1];replace M:=am (M.1.step I);clear C;have C:=M.1.aw;simp only [ah] at C;clear I)
              |(go_at_call 23;with_reducible refine Calls.mono (su x.bE y.bE _ _ _ _ _ (Kd.bW (w:=w) G.1.2.1 M.1.below) (Kd.bW (w:=w) H.1.2.1 M.1.below)) ?_;rintro e w1 ⟨rfl,aO⟩;have I:=sw aO;rw [xJ.1];replace M:=am (M.1.step I);clear C;have C:=M.1.aw;simp only [ah] at C;clear I)
              |(go_at_call 57;with_reducible refine Calls.mono (pU x.reads y.reads _ _ _ _ _ (Kd.bW (w:=w) G.1.2.2.1 M.1.below) (Kd.bW (w:=w) H.1.2.2.1 M.1.below)) ?_;rintro e w1 ⟨rfl,I⟩;rw [qE.1];replace M:=am (M.1.step I);clear C;have C:=M.1.aw;simp only [ah] at C;clear I)
              |(go_at_call 57;with_reducible refine Calls.mono (pU x.ai y.ai _ _ _ _ _ (Kd.bW (w:=w) G.1.2.2.2 M.1.below) (Kd.bW (w:=w) H.1.2.2.2 M.1.below)) ?_;rintro e w1 ⟨rfl,I⟩;rw [sq.1];replace M:=am (M.1.step I);clear C;have C:=M.1.aw;simp only [ah] at C;clear I))
              go_ret;refine ⟨hg ?_,M.1.below⟩;have H5:=of_decide_eq_true wq.1;have LL:=of_decide_eq_true xJ.1;have F1:=of_decide_eq_true qE.1;have LU:=of_decide_eq_false sq.1;rw [eq_comm,decide_eq_false_iff_not,ry];simp_all
             ·go_enter Tryz.func34,Tryz.ntmps34
              go_wp2_with (first
              |((first|with_reducible refine gB ?_ | with_reducible refine gA ?_);refine cx rfl M.1 ?_;clear M C;intro g W M C;simp only [ah] at C)
              |(go_at_call 23;with_reducible refine Calls.mono (su x.aL y.aL _ _ _ _ _ (Kd.bW (w:=w) G.1.1 M.1.below) (Kd.bW (w:=w) H.1.1 M.1.below)) ?_;rintro e w1 ⟨rfl,aO⟩;have I:=sw aO;rw [wq.1];replace M:=am (M.1.step I);clear C;have C:=M.1.aw;simp only [ah] at C;clear I)
              |(go_at_call 23;with_reducible refine Calls.mono (su x.bE y.bE _ _ _ _ _ (Kd.bW (w:=w) G.1.2.1 M.1.below) (Kd.bW (w:=w) H.1.2.1 M.1.below)) ?_;rintro e w1 ⟨rfl,aO⟩;have I:=sw aO;rw [xJ.1];replace M:=am (M.1.step I);clear C;have C:=M.1.aw;simp only [ah] at C;clear I)
              |(go_at_call 57;with_reducible refine Calls.mono (pU x.reads y.reads _ _ _ _ _ (Kd.bW (w:=w) G.1.2.2.1 M.1.below) (Kd.bW (w:=w) H.1.2.2.1 M.1.below)) ?_;rintro e w1 ⟨rfl,I⟩;rw [qE.1];replace M:=am (M.1.step I);clear C;have C:=M.1.aw;simp only [ah] at C;clear I)
              |(go_at_call 57;with_reducible refine Calls.mono (pU x.ai y.ai _ _ _ _ _ (Kd.bW (w:=w) G.1.2.2.2 M.1.below) (Kd.bW (w:=w) H.1.2.2.2 M.1.below)) ?_;rintro e w1 ⟨rfl,I⟩;rw [sq.1];replace M:=am (M.1.step I);clear C;have C:=M.1.aw;simp only [ah] at C;clear I))
              go_ret;refine ⟨hg ?_,M.1.below⟩;have H5:=of_decide_eq_true wq.1;have LL:=of_decide_eq_true xJ.1;have F1:=of_decide_eq_true qE.1;have LU:=of_decide_eq_true sq.1;rw [eq_comm,decide_eq_true_eq,ry];simp_all
theorem IE {V:World} {b o:Nat} {u0 u1 u2:Value} (aq:V.cell? ⟨b,o,none⟩=some u0) (h1:V.cell? ⟨b,o+1,none⟩=some u1) (ar:V.cell? ⟨b,o+2,none⟩=some u2):∀ j u, [u0,u1,u2][j]? = some u->V.cell? ⟨b,o+j,none⟩=some u:=fun j u aI=>by
 rcases j with _ | _ | _ | j
 ·simp at aI;subst aI;exact aq
 ·simp at aI;subst aI;exact h1
 ·simp at aI;subst aI;exact ar
 ·simp at aI
theorem tq (x y:Sys) (cs ds:List Value) (w:World) (az:cS.K w x cs) (aW:cS.K w y ds):
  Calls Tryz.prog 30 #[.agg cs.toArray,.agg ds.toArray] w fun e af=>e= .returned (.bool (decide (x=y)))/\Below w.heap.size w af:=by
 obtain ⟨cX,bL,dX,cu,cU,bO,rfl,g9,fz,fU,db,gz,dj⟩:=gX az;obtain ⟨acH,d0,B1,d1,hB,d3,rfl,vJ,aq,vK,h1,rN,aA⟩:=gX aW;have G:=am (And.intro fz (And.intro db dj));have H:=am (And.intro aq (And.intro h1 aA));clear fz db dj aq h1 aA vJ vK rN az aW gz;obtain ⟨ej,cg⟩:∃ b,((x.cells.length:Int) != (y.cells.length:Int))=b:=⟨_,rfl⟩;obtain ⟨b2,cO⟩:∃ b,((x.tasks.length:Int) != (y.tasks.length:Int))=b:=⟨_,rfl⟩;obtain ⟨b3,dh⟩:∃ b,(x.clock != y.clock)=b:=⟨_,rfl⟩;obtain ⟨b4,fu⟩:∃ b,decide (x.log=y.log)=b:=⟨_,rfl⟩;have rK:=am fu;clear fu;have M:=am (ba.nil w);have C:=M.1.aw;cases ej;rotate_left
 ·go_enter Tryz.func30,Tryz.ntmps30
  go_wp2_with (first
  |((first|with_reducible refine gB ?_ | with_reducible refine gA ?_);refine cx rfl M.1 ?_;clear M C;intro g W M C;simp only [ah] at C)
  |(go_at_call 54;with_reducible refine Calls.mono (Gr x.log y.log _ _ _ _ _ (Kd.bW (w:=w) G.1.2.2 M.1.below) (Kd.bW (w:=w) H.1.2.2 M.1.below)) ?_;rintro e w1 ⟨rfl,I⟩;rw [rK.1];replace M:=am (M.1.step I);clear C;have C:=M.1.aw;simp only [ah] at C;clear I))
  go_ret;refine ⟨hg ?_,M.1.below⟩;rw [eq_comm,decide_eq_false_iff_not];intro h;subst h;simp at cg
 cases b2;rotate_left
 ·go_enter Tryz.func30,Tryz.ntmps30
  go_wp2_with (first
  |((first|with_reducible refine gB ?_ | with_reducible refine gA ?_);refine cx rfl M.1 ?_;clear M C;intro g W M C;simp only [ah] at C)
  |(go_at_call 54;with_reducible refine Calls.mono (Gr x.log y.log _ _ _ _ _ (Kd.bW (w:=w) G.1.2.2 M.1.below) (Kd.bW (w:=w) H.1.2.2 M.1.below)) ?_;rintro e w1 ⟨rfl,I⟩;rw [rK.1];replace M:=am (M.1.step I);clear C;have C:=M.1.aw;simp only [ah] at C;clear I))
  go_ret;refine ⟨hg ?_,M.1.below⟩;rw [eq_comm,decide_eq_false_iff_not];intro h;subst h;simp at cO
 cases b3;rotate_left
 ·go_enter Tryz.func30,Tryz.ntmps30
  go_wp2_with (first
  |((first|with_reducible refine gB ?_ | with_reducible refine gA ?_);refine cx rfl M.1 ?_;clear M C;intro g W M C;simp only [ah] at C)
  |(go_at_call 54;with_reducible refine Calls.mono (Gr x.log y.log _ _ _ _ _ (Kd.bW (w:=w) G.1.2.2 M.1.below) (Kd.bW (w:=w) H.1.2.2 M.1.below)) ?_;rintro e w1 ⟨rfl,I⟩;rw [rK.1];replace M:=am (M.1.step I);clear C;have C:=M.1.aw;simp only [ah] at C;clear I))
  go_ret;refine ⟨hg ?_,M.1.below⟩;rw [eq_comm,decide_eq_false_iff_not];intro h;subst h;simp at dh
 cases b4
 ·go_enter Tryz.func30,Tryz.ntmps30
  go_wp2_with (first
  |((first|with_reducible refine gB ?_ | with_reducible refine gA ?_);refine cx rfl M.1 ?_;clear M C;intro g W M C;simp only [ah] at C)
  |(go_at_call 54;with_reducible refine Calls.mono (Gr x.log y.log _ _ _ _ _ (Kd.bW (w:=w) G.1.2.2 M.1.below) (Kd.bW (w:=w) H.1.2.2 M.1.below)) ?_;rintro e w1 ⟨rfl,I⟩;rw [rK.1];replace M:=am (M.1.step I);clear C;have C:=M.1.aw;simp only [ah] at C;clear I))
  go_ret;refine ⟨hg ?_,M.1.below⟩;rw [eq_comm,decide_eq_false_iff_not];intro h;subst h;have:=rK.1;simp at this
 have EZ:=am (show x.cells.length=y.cells.length by simp at cg;omega);have s7:=am (show x.tasks.length=y.tasks.length by simp at cO;omega);have nb:=am (show x.clock=y.clock by simpa using dh);go_enter Tryz.func30,Tryz.ntmps30
 go_wp2_with (first
 |((first|with_reducible refine gB ?_ | with_reducible refine gA ?_);refine cx rfl M.1 ?_;clear M C;intro g W M C;simp only [ah] at C)
 |(go_at_call 54;with_reducible refine Calls.mono (Gr x.log y.log _ _ _ _ _ (Kd.bW (w:=w) G.1.2.2 M.1.below) (Kd.bW (w:=w) H.1.2.2 M.1.below)) ?_;rintro e w1 ⟨rfl,I⟩;rw [rK.1];replace M:=am (M.1.step I);clear C;have C:=M.1.aw;simp only [ah] at C;clear I))
 have gM:=am cg;have jA:=am cO;have kz:=am dh;clear cg cO dh;obtain ⟨L,fg,fh⟩:=ba.named M;go_loopw [5] (fun v af=>∃ k:Nat,k<=x.cells.length/\v= .int .i64 k/\av (∀ j,j < k->x.cells[j]? = y.cells[j]?)/\av (ba w af L)) (fun v _=>x.cells.length - (intOf v).toNat)
 case atStart=>exact ⟨0,Nat.zero_le _,rfl,⟨fun j aI=>by omega⟩,fh⟩
 case round=>
  obtain ⟨k,J,rfl,du,M2⟩:=hrel;have e:=fg.1;subst e;clear M C fh fg;have M:=M2;clear M2;have C:=M.1.aw;simp only [ah] at C;by_cases aJ:k < x.cells.length
  ·have hm:=Kd.Fx G.1.1
   have n6:k < y.cells.length:=by have:=EZ.1;omega
   have bz:(0:Int)<=(k:Int):=by omega
   have b7:(k:Int) < (x.cells.length:Int):=by omega
   have bY:(k:Int) < (y.cells.length:Int):=by omega
   obtain ⟨eW,oh,sT,dO,-,hk,mP,-⟩:=dd G.1.1 lq k aJ (by decide);cases dO;obtain rfl:=x1 hk;obtain ⟨yi,sK,WG,jK,-,Cu,yS,-⟩:=dd H.1.1 lq k n6 (by decide);cases jK;obtain rfl:=x1 Cu;have eT:=mP 0 _ rfl;have iq:=mP 1 _ rfl;have c3:=mP 2 _ rfl;have dZ:=yS 0 _ rfl;have jL:=yS 1 _ rfl;have qK:=yS 2 _ rfl;simp only [show iU.bD=3 from rfl,Nat.add_zero] at eT iq c3 dZ jL qK;replace M:=am (M.1.cB eT |>.cB iq |>.cB c3 |>.cB dZ |>.cB jL |>.cB qK);clear C;have C:=M.1.aw;simp only [ah] at C;clear hk mP Cu yS eT iq c3 dZ jL qK
   go_wp2_with (first
    | fail)
   refine ot [] (fun _ h=>h) M.1 ?_;clear M C;intro W M;refine jO [0,1,2,3,4,5,6,7,8,9] M.1 ?_;iterate 4 (first|refine cc rfl ?_|refine ch rfl ?_|refine cj rfl ?_|refine cE rfl ?_)
   refine w4 (cs:= [.int .i64 (x.cells.getD k lq).num,.int .i64 (x.cells.getD k lq).time,.int .i64 (x.cells.getD k lq).lock]) rfl rfl (fun V dB=>IE dB.2.2.2.2.2.1 dB.2.2.2.2.1 dB.2.2.2.1) ?_;iterate 4 (first|refine cc rfl ?_|refine ch rfl ?_|refine cj rfl ?_|refine cE rfl ?_)
   refine w4 (cs:= [.int .i64 (y.cells.getD k lq).num,.int .i64 (y.cells.getD k lq).time,.int .i64 (y.cells.getD k lq).lock]) rfl rfl (fun V dB=>IE dB.2.2.1 dB.2.1 dB.1) ?_;refine bN ?_;have C:=M.1.aw;simp only [ah] at C;refine ir 10 rfl ?_
   go_wp2_with (first
    | fail)
   all_goals first
   |(refine g3 M.1 ?_;try refine fF ?_
     refine mf ?_;go_wp2;go_ret
     exact ⟨hg (decide_eq_false (fun h=>by subst h;simp_all)).symm,M.1.below⟩)
   |(refine g3 M.1 ?_;try refine fF ?_
     refine mf ?_;go_wp2;go_roundw
     case rel=>exact ⟨k+1,by omega,by go_num,⟨fun j aI=>Gg (z:=lq) du.1 aJ n6 (by rw [Zw];simp_all) aI⟩,⟨M.1.pop.pop.pop.pop.pop.pop⟩⟩
     case measure=>simp [intOf];omega)
  ·have WH:=am (F9 x.cells y.cells EZ.1 (fun j aI=>du.1 j (by omega)))
   clear du
   go_wp2_with (first
    | fail)
   obtain ⟨L,fg,fh⟩:=ba.named M;go_loopw [6] (fun v af=>∃ k:Nat,k<=x.tasks.length/\v= .int .i64 k/\av (∀ j,j < k->x.tasks[j]? = y.tasks[j]?)/\av (ba w af L)) (fun v _=>x.tasks.length - (intOf v).toNat)
   case atStart=>exact ⟨0,Nat.zero_le _,rfl,⟨fun j aI=>by omega⟩,fh⟩
   case round=>
    clear aJ J;obtain ⟨k,J,rfl,du,M2⟩:=hrel;have e:=fg.1;subst e;clear M C fh fg;have M:=M2;clear M2;have C:=M.1.aw;simp only [ah] at C;by_cases aJ:k < x.tasks.length
    ·have hm:=Kd.Fx G.1.2.1
     have n6:k < y.tasks.length:=by have:=s7.1;omega
     have bz:(0:Int)<=(k:Int):=by omega
     have b7:(k:Int) < (x.tasks.length:Int):=by omega
     have bY:(k:Int) < (y.tasks.length:Int):=by omega
     obtain ⟨qI,cs,dO,bQ,au,aM⟩:=Kd.y2 (Kd.bW (w:=w) G.1.2.1 M.1.below) dS (k:Int) bz b7;cases dO;obtain ⟨BI,ds,jK,oZ,ke,uy⟩:=Kd.y2 (Kd.bW (w:=w) H.1.2.1 M.1.below) dS (k:Int) bz bY;cases jK;simp only [Int.toNat_natCast] at au aM ke uy;have cT:=am au;have cJ:=am aM;have rU:=am ke;have EY:=am uy;clear au aM ke uy
     go_wp2_with (first
      | fail)
     refine wp_region_still_tail 10 (by kernel_rfl) (by kernel_rfl) ?_;simp only [List.take_succ_cons,List.take_zero,List.drop_succ_cons,List.drop_zero];iterate 4 still_step
     refine Dd rfl 38 (.tmp 66) rfl qI (k*13) rfl cs _ cJ.1 (by rw [bQ];decide) Tryz.underlying38 rfl (by rw [bQ];kernel_rfl) ?_;iterate 4 still_step
     refine Dd rfl 38 (.tmp 71) rfl BI (k*13) rfl ds _ EY.1 (by rw [oZ];decide) Tryz.underlying38 rfl (by rw [oZ];kernel_rfl) ?_;refine wpStill_nil ?_;by_cases he:x.tasks.getD k dS=y.tasks.getD k dS
     ·have bS:=am he
      clear he
      go_wp2_with (first
      |(go_at_call 34;with_reducible refine Calls.mono (SV _ _ _ _ _ (eV.bH (ei (Below.refl _ _)) cT.1) (eV.bH (ei (Below.refl _ _)) rU.1)) ?_;rw [decide_eq_true bS.1];rintro e w1 ⟨rfl,I⟩;replace M:=am (M.1.drew.step I);clear C;have C:=M.1.aw;simp only [ah] at C;clear I))
      go_roundw
      case rel=>exact ⟨k+1,by omega,by go_num,⟨fun j aI=>Gg (z:=dS) du.1 aJ n6 bS.1 aI⟩,M⟩
      case measure=>simp [intOf];omega
     ·have bS:=am he
      clear he
      go_wp2_with (first
      |(go_at_call 34;with_reducible refine Calls.mono (SV _ _ _ _ _ (eV.bH (ei (Below.refl _ _)) cT.1) (eV.bH (ei (Below.refl _ _)) rU.1)) ?_;rw [decide_eq_false bS.1];rintro e w1 ⟨rfl,I⟩;replace M:=am (M.1.drew.step I);clear C;have C:=M.1.aw;simp only [ah] at C;clear I))
      go_ret;exact ⟨hg (decide_eq_false (fun h=>bS.1 (by rw [h]))).symm,M.1.below⟩
    ·have WI:=am (F9 x.tasks y.tasks s7.1 (fun j aI=>du.1 j (by omega)))
     clear du
     go_wp2_with (first
      | fail)
     go_ret;exact ⟨hg (decide_eq_true ((YN x y).2 ⟨WH.1,WI.1,nb.1,of_decide_eq_true rK.1⟩)).symm,M.1.below⟩
end Go.Proofs.YteajdhhmkjblnaaGreatDoor.Eq

