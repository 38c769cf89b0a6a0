/- The law FnSysLoad: it returns true whatever the input, and the input and the variable read as they did. The listed variable starts as the program's text lays it (the card). -/
import Derived.Test.YteajdhhmkjblnaaGreatDoorRows
import Derived.Test.YteajdhhmkjblnaaGreatDoorV7
import Derived.Test.YteajdhhmkjblnaaGreatDoorCards
import Derived.Test.YteajdhhmkjblnaaGreatDoorTie
import Derived.ChangeOld
import Derived.LaidMore
import Derived.OpenShut
import Derived.ProofKit
import Derived.SevenTiedAt
import Derived.ShutString
import Derived.SizedLaws
import Derived.Stop.ErrReads
import Derived.Stop.Joined
import Derived.Stop.LaidErr
import Derived.Stop.LaidTwo
set_option maxHeartbeats 8000000
set_option maxRecDepth 100000
set_option linter.unusedVariables false
set_option linter.unusedSimpArgs false
namespace Go.Proofs.YteajdhhmkjblnaaGreatDoor.Eq
open Go.RowKit Go.Proofs.YteajdhhmkjblnaaGreatDoorW.PrintWords Go.Proofs.YteajdhhmkjblnaaGreatDoorW.PrintLast Go.Proofs.YteajdhhmkjblnaaGreatDoorW.PrintMore
theorem vy {p:Prog} {s x:Sys} {k:Int} (h:jG p s k=(x,true)):jh p s=true/\∃ i:Nat,k=i/\i < s.tasks.length/\ready s i=true/\x=step p s i/\i < x.tasks.length:=by
 unfold jG at h;split at h
 ·rename_i ay
  rw [Bool.and_eq_true] at ay;obtain ⟨h1,ar,aA⟩:=BB ay.2;have az:=(Prod.mk.inj h).1;have ak:=zk p [k] s;have a6:turns p s [k]=x:=by rw [<-az];simp only [turns,List.foldl_cons,List.foldl_nil,lK,ay.2,if_true]
  rw [a6] at ak;exact ⟨ay.1,k.toNat,ar.symm,h1,aA,az.symm,by omega⟩
 ·cases (Prod.mk.inj h).2
end Go.Proofs.YteajdhhmkjblnaaGreatDoor.Eq




namespace Go.Proofs.YteajdhhmkjblnaaGreatDoor.Eq
open Go.RowKit Go.Proofs.YteajdhhmkjblnaaGreatDoorW.PrintWords Go.Proofs.YteajdhhmkjblnaaGreatDoorW.PrintLast Go.Proofs.YteajdhhmkjblnaaGreatDoorW.PrintMore
theorem acf (A:Option Addr) (c:Nat) (l:List Int) (w:World) (gw:(Kd.int .u8).C w A l.length l) (ay:l.length<=c) (I:∀ i:Nat,0<=l.getD i 0/\l.getD i 0<=255) (a b:Addr) (he:sf a b w):
  Calls Tryz.prog 14 #[.slice A l.length c] w fun e af=>e= .returned (.bool true)/\Below w.heap.size w af:=by
 have cl:=am gw;have dq:=am ay;have fJ:=am I;clear gw ay I;by_cases mx:(1048576:Int) < (l.length:Int)
 ·have vi:decide ((1048576:Int) < (l.length:Int))=true:=decide_eq_true mx
  go_enter Tryz.func14,Tryz.ntmps14;go_wp2;go_ret;exact ⟨rfl,Below.refl _ _⟩
 ·have vi:decide ((1048576:Int) < (l.length:Int))=false:=decide_eq_false mx
  clear mx;have M:=am (ba.nil w);have C:=M.1.aw;go_enter Tryz.func14,Tryz.ntmps14
  go_wp2_with (first
  |(go_at_call 27;refine (Db A c l _ cl.1 dq.1 fJ.1).mono ?_;rintro e W1 ⟨p,s,ju,c6,k,rfl,aB,iz,hs,cP,nC,mj,mm⟩;obtain ⟨ek,ey,g0,er,rfl,-,-,-,gb⟩:=jk aB;obtain ⟨cX,bL,dX,cu,cU,bO,rfl,-,fz,-,db,-,-⟩:=gX hs;have pt:=am fz;clear fz;have lI:=am mm;have cR:=am aB;have c8:=am hs;have ea:=am iz;have cK:=am cP;have iJ:=am nC;have bS:=am (he.below mm);have nk:=am gb;have iM:=am db;clear M C mm aB hs iz cP nC mj he gb db;have M:=am (ba.nil W1);have C:=M.1.aw;simp only [ah] at C)
  |((first|with_reducible refine gB ?_ | with_reducible refine gA ?_);refine cx rfl M.1 ?_;clear M C;intro g W M C;simp only [ah] at C)
  |((with_reducible refine da ?_);refine dv rfl rfl rfl M.1 ?_;clear M C;intro W M C;simp only [ah] at C)
  |((with_reducible refine cv ?_);refine dV rfl rfl M.1 ?_))
  obtain ⟨x,eW,ao⟩:∃ x b,jG p s k=(x,b):=⟨_,_,rfl⟩;have cb:=am ao;clear ao;cases eW
  ·go_wp2_with (first
   |(go_at_call 28;refine (ts p _ s _ k _ (cN.bH M.1.below cR.1) (cS.bH M.1.below c8.1) ea.1 cK.1 iJ.1).mono ?_;rintro e dY aq;rw [cb.1] at aq;obtain ⟨l0,v0,v1,v3,dC,aW,I⟩:=aq;dsimp only at dC aW;subst dC;obtain ⟨lx,tR,rfl⟩:=Kd.bt aW.cells;obtain ⟨np,tS,b1⟩:=Kd.bt aW.tasks;rw [fH] at b1;subst b1;obtain ⟨nr,tT,rfl⟩:=Kd.bt aW.log;replace M:=am (M.1.copied I aW);clear C;have C:=M.1.aw;simp only [ah] at C;clear I aW)
   |(go_at_call 29;refine (tr p _ s _ k _ (cN.bH M.1.below cR.1) (cS.bH M.1.below c8.1) ea.1 cK.1 iJ.1 a b (bS.1.below M.1.below)).mono ?_;rintro e dY aq;rw [cb.1] at aq;obtain ⟨c1,v0,v1,v3,dC,aW,I⟩:=aq;dsimp only at dC aW;subst dC;obtain ⟨tU,tV,rfl⟩:=Kd.bt aW.cells;obtain ⟨gM,tW,b1⟩:=Kd.bt aW.tasks;rw [fH] at b1;subst b1;obtain ⟨kz,tX,rfl⟩:=Kd.bt aW.log;replace M:=am (M.1.copied I aW);clear C;have C:=M.1.aw;simp only [ah] at C;clear I aW)
   |(go_at_call 30;refine (tq x x _ _ _ (b8.read (M.1.get (F:=fL _ c1 _ _ _ _))) (b8.read (M.1.get (F:=fL _ l0 _ _ _ _)))).mono ?_;rintro e dY ⟨rfl,I⟩;rw [decide_eq_true (rfl:x=x)];replace M:=am (M.1.step I);clear C;have C:=M.1.aw;simp only [ah] at C;clear I)
   |((first|with_reducible refine gB ?_ | with_reducible refine gA ?_);refine cx rfl M.1 ?_;clear M C;intro g W M C;simp only [ah] at C)
   |((with_reducible refine da ?_);refine dv rfl rfl rfl M.1 ?_;clear M C;intro W M C;simp only [ah] at C)
   |((with_reducible refine cv ?_);refine dV rfl rfl M.1 ?_))
   go_ret;exact ⟨rfl,fb lI.1 M.1.below⟩
  ·obtain ⟨c7,i,rfl,aa,iw,az,o4⟩:=vy cb.1
   have r':=am o4;obtain ⟨t,a6⟩:∃ t,t=R s i:=⟨_,rfl⟩;obtain ⟨u,hu⟩:∃ u,u=R x i:=⟨_,rfl⟩;have bX:=am hu;have inv:=Inv.tb c7;have lU:=inv.task i aa;rw [<-a6] at lU;obtain ⟨bl,eu⟩:=Int.eq_ofNat_of_zero_le lU.jF;obtain ⟨dI,kV⟩:=Int.eq_ofNat_of_zero_le lU.iv;obtain ⟨bx,gO⟩:=Int.eq_ofNat_of_zero_le lU.hE;have mT:bl < p.an.length:=by have:=lU.jZ;omega
   obtain ⟨cq,ho⟩:∃ z,z=bo p.an bl:=⟨_,rfl⟩;obtain ⟨ac,lY⟩:∃ z,z=actAt cq dI:=⟨_,rfl⟩;obtain ⟨ej,cg⟩:∃ b,(t.aE != 1)=b:=⟨_,rfl⟩;obtain ⟨b2,cO⟩:∃ b,decide (u.reads.length<=t.reads.length)=b:=⟨_,rfl⟩;have WJ:decide ((u.reads.length:Int)<=(t.reads.length:Int))=b2:=by rw [<-cO];simp
   have fK:=am (show ej=false->b2=false->∃ d:Deed,dI < cq.length/\bx < ac.bP.length/\mX ac.bP bx=d/\d.kind=1/\blind s i d.b=false/\0<=d.b/\d.b < s.cells.length/\0<=d.a/\d.a<=2/\cC u.aL d.a.toNat=(cellAt s.cells d.b.toNat).num/\u.at_=(bx:Int)+1/\u.aL.length=3 from fun h1 ar=>by
    subst h1 ar;obtain ⟨d,d1,d2,d3,d4,d5,d6,d7,d8,d9,d10,d11,d12,d13⟩:=Z0 inv aa iw (by rw [<-a6];simpa using cg) (by rw [<-az,<-hu,<-a6];simpa using cO);rw [<-az,<-hu] at d11 d12 d13;rw [<-a6,show lv p t=cq by unfold lv;rw [eu,Int.toNat_natCast,ho]] at d1;rw [<-a6,show ji p t=ac by unfold ji lv;rw [eu,kV,Int.toNat_natCast,Int.toNat_natCast,<-ho,lY]] at d3 d4;rw [<-a6] at d12;rw [gO,Int.toNat_natCast] at d4;exact ⟨d,by omega,by omega,d4,d5,d6,d7,d8,d9,d10,d11,by omega,d13⟩)
   have jt:=am (show ∀ c,blind s i c=((decide (0<=(cellAt s.cells c.toNat).lock) && !decide ((cellAt s.cells c.toNat).lock=i)) || decide (t.since < (cellAt s.cells c.toNat).time)) from fun c=>by rw [a6];rfl)
   have Cq:=am (show dI < cq.length->ac.bP.length<=1048576 from fun h=>by
    have ar:=ho;rw [zi mT] at ar;exact ((ea.1.cq cq (by rw [ar];exact List.getElem_mem mT)).2 ac (by rw [lY];unfold actAt;rw [List.getD_eq_getElem?_getD,List.getElem?_eq_getElem h];exact List.getElem_mem h)).1)
   obtain ⟨DM,DN,sT,dO,-,hk,jg,-⟩:=dd iM.1 dS i aa (by decide);cases dO;rw [show s.tasks.getD i dS=t from a6.symm] at hk;obtain ⟨hB,d3,iZ,d8,gY,d9,gd,d10,rfl,-⟩:=gh hk;rw [eu,kV,gO] at jg;have cJ:=am jg;obtain ⟨gp,cV,nW,eg,-,hX,en,-⟩:=dd nk.1 ([]:List Act) bl mT (by decide);cases eg;obtain ⟨k5,kf,rfl,-,ga⟩:=hX;have c3:=en 0 _ rfl;simp only [show (Kd.slice 55 kAct).bD=1 from rfl,Nat.mul_one,Nat.add_zero] at c3;rw [show p.an.getD bl []=cq from ho.symm] at c3 ga;have k6:=am ga;have vT:=am lY;have bz:(0:Int)<=(i:Int):=by omega
   have b7:(i:Int) < (s.tasks.length:Int):=by omega
   have lQ:(i:Int) < (x.tasks.length:Int):=by omega
   have bY:(0:Int)<=(bl:Int):=by omega
   have l5:(bl:Int) < (p.an.length:Int):=by omega
   replace M:=am (M.1.cB c3);clear C;have C:=M.1.aw;simp only [ah] at C;clear c7 iw az o4 hk jg hu a6 inv lU eu kV gO mT ho lY en c3 ga
   go_upto_region 9 with (first
   |(go_at_call 28;refine (ts p _ s _ (i:Int) _ (cN.bH M.1.below cR.1) (cS.bH M.1.below c8.1) ea.1 cK.1 iJ.1).mono ?_;rintro e dY aq;rw [cb.1] at aq;obtain ⟨l0,v0,v1,v3,dC,aW,I⟩:=aq;dsimp only at dC aW;subst dC;obtain ⟨lx,tR,rfl⟩:=Kd.bt aW.cells;obtain ⟨np,tS,b1⟩:=Kd.bt aW.tasks;rw [fH] at b1;subst b1;obtain ⟨nr,tT,rfl⟩:=Kd.bt aW.log;replace M:=am (M.1.copied I aW);clear C;have C:=M.1.aw;simp only [ah] at C;clear I aW)
   |(go_at_call 29;refine (tr p _ s _ (i:Int) _ (cN.bH M.1.below cR.1) (cS.bH M.1.below c8.1) ea.1 cK.1 iJ.1 a b (bS.1.below M.1.below)).mono ?_;rintro e dY aq;rw [cb.1] at aq;obtain ⟨c1,v0,v1,v3,dC,aW,I⟩:=aq;dsimp only at dC aW;subst dC;obtain ⟨tU,tV,rfl⟩:=Kd.bt aW.cells;obtain ⟨gM,tW,b1⟩:=Kd.bt aW.tasks;rw [fH] at b1;subst b1;obtain ⟨kz,tX,rfl⟩:=Kd.bt aW.log;replace M:=am (M.1.copied I aW);clear C;have C:=M.1.aw;simp only [ah] at C;clear I aW)
   |(go_at_call 30;refine (tq x x _ _ _ (b8.read (M.1.get (F:=fL _ c1 _ _ _ _))) (b8.read (M.1.get (F:=fL _ l0 _ _ _ _)))).mono ?_;rintro e dY ⟨rfl,I⟩;rw [decide_eq_true (rfl:x=x)];replace M:=am (M.1.step I);clear C;have C:=M.1.aw;simp only [ah] at C;clear I)
   |((first|with_reducible refine gB ?_ | with_reducible refine gA ?_);refine cx rfl M.1 ?_;clear M C;intro g W M C;simp only [ah] at C)
   |((with_reducible refine da ?_);refine dv rfl rfl rfl M.1 ?_;clear M C;intro W M C;simp only [ah] at C)
   |((with_reducible refine cv ?_);refine dV rfl rfl M.1 ?_)
   |((with_reducible refine cv ?_);refine fZ rfl rfl M.1 cJ.1 ?_))
   obtain ⟨_,_,_,_,_,_,mn,-,-,-,cL,-,-⟩:=gX (b8.read (M.1.get (F:=fL _ c1 _ _ _ _)));simp only [List.cons.injEq,Value.slice.injEq,and_true] at mn;obtain ⟨-,⟨rfl,-⟩,-⟩:=mn;obtain ⟨oU,wP,AN,m3,-,kD,l1,-⟩:=dd cL dS i r'.1 (by decide);cases m3;rw [show x.tasks.getD i dS=u from bX.1.symm] at kD;obtain ⟨p3,f3,Ds,f8,zB,f9,yD,f10,rfl,-,bO,-⟩:=gh kD;have oL:=am bO;have sg:=am l1;have gH:=cf lI M.1.below;have KS:=ks k6 M.1.below;have E4:=ks pt M.1.below;clear cL l1 kD bO cJ;have hj:=am M.1.Bj;simp only [List.map_cons,List.map_nil,kk.bE] at hj;clear M C;have M:=hj;clear hj;have C:=M.1.aw;simp only [ah] at C;cases ej;rotate_left
   ·go_wp2_with (first
    |((with_reducible refine cv ?_);refine fZ rfl rfl M.1 sg.1 ?_)
    |((first|with_reducible refine gB ?_ | with_reducible refine gA ?_);refine cx rfl M.1 ?_;clear M C;intro g W M C;simp only [ah] at C)
    |((with_reducible refine da ?_);refine dv rfl rfl rfl M.1 ?_;clear M C;intro W M C;simp only [ah] at C)
    |((with_reducible refine cv ?_);refine dV rfl rfl M.1 ?_))
    go_ret;exact ⟨rfl,fb gH.1 M.1.below⟩
   cases b2;rotate_left
   ·go_wp2_with (first
    |((with_reducible refine cv ?_);refine fZ rfl rfl M.1 sg.1 ?_)
    |((first|with_reducible refine gB ?_ | with_reducible refine gA ?_);refine cx rfl M.1 ?_;clear M C;intro g W M C;simp only [ah] at C)
    |((with_reducible refine da ?_);refine dv rfl rfl rfl M.1 ?_;clear M C;intro W M C;simp only [ah] at C)
    |((with_reducible refine cv ?_);refine dV rfl rfl M.1 ?_))
    go_ret;exact ⟨rfl,fb gH.1 M.1.below⟩
   obtain ⟨d,qk,Qw,aO,PL,fP,dE,bZ,mi,nV,mS,dy,WO⟩:=fK.1 rfl rfl;obtain ⟨dP,jE⟩:=Int.eq_ofNat_of_zero_le dE;obtain ⟨wN,r2⟩:=Int.eq_ofNat_of_zero_le mi;have Fv:dP < s.cells.length:=by omega
   have XL:wN < u.aL.length:=by omega
   obtain ⟨v,bp⟩:∃ v,cellAt s.cells dP=v:=⟨_,rfl⟩;rw [jt.1,jE,Int.toNat_natCast,bp] at fP;rw [r2,jE,Int.toNat_natCast,Int.toNat_natCast,bp] at mS;obtain ⟨iL,ly,yw,eL,-,ix,j8,-⟩:=dd KS.1 iK dI qk (by decide);cases eL;rw [show cq.getD dI iK=ac from vT.1.symm] at ix;obtain ⟨eR,ez,eF,eJ,rfl,-,cQ,-,-⟩:=m0 ix;have v1:=j8 1 _ rfl;simp only [show kAct.bD=4 from rfl] at v1;obtain ⟨hx,p0,adO,oN,-,KU,v',-⟩:=dd cQ vn bx Qw (by decide);cases oN;rw [show ac.bP.getD bx vn=d from aO] at KU;obtain rfl:=C5 KU;have w0:=v' 0 _ rfl;have w1:=v' 1 _ rfl;have b':=v' 2 _ rfl;simp only [show kDeed.bD=3 from rfl,Nat.add_zero] at w0 w1 b';rw [r2] at w1;rw [jE] at b';obtain ⟨gZ,tC,PG,sL,-,u',nf,-⟩:=dd E4.1 lq dP Fv (by decide);cases sL;rw [show s.cells.getD dP lq=v from bp] at u';obtain rfl:=x1 u';have WQ:=am nf;have dZ:(0:Int)<=(dI:Int):=by omega
   have jL:(dI:Int) < (cq.length:Int):=by omega
   have qK:(0:Int)<=(bx:Int):=by omega
   have hN:(bx:Int) < (ac.bP.length:Int):=by omega
   have l4:(0:Int)<=(dP:Int):=by omega
   have rC:(dP:Int) < (s.cells.length:Int):=by omega
   have T':(0:Int)<=(wN:Int):=by omega
   have Dj:(wN:Int) < (u.aL.length:Int):=by omega
   obtain ⟨cy,mb,AP⟩:=Kd.kG oL.1 (wN:Int) T' Dj;cases mb;simp only [Int.toNat_natCast] at AP;replace M:=am (M.1.cB v1 |>.cB AP |>.cB w0 |>.cB w1 |>.cB b');clear C;have C:=M.1.aw;simp only [ah] at C;have gq:(d.kind == 1)=true:=by simp [PL]
   have jm:decide (v.time<=t.since)=true:=by simp at fP;simpa using fP.2
   have m7:(u.at_ == wrap64 ((bx:Int)+1))=true:=by have:=Cq.1 qk;rw [Rd.wrap_in (by omega) (by omega)];simp [dy]
   have z4:(rd u.aL (wN:Int) == v.num)=true:=by simp only [beq_iff_eq];unfold rd;rw [Int.toNat_natCast];exact mS
   obtain ⟨b3,z3⟩:∃ b,decide (v.lock < 0)=b:=⟨_,rfl⟩;have WR:=am (show b3=false->(v.lock == (i:Int))=true from fun h=>by subst h;simp at fP z3 ⊢;exact fP.1 z3);clear aO PL fP dE bZ mi nV mS dy WO jE r2 bp ix j8 cQ KU v' u' nf v1 w0 w1 b' AP qk Qw Fv XL
   go_wp2_with (first
   |((with_reducible refine cv ?_);refine fZ rfl rfl M.1 sg.1 ?_)
   |((first|with_reducible refine gB ?_ | with_reducible refine gA ?_);refine cx rfl M.1 ?_;clear M C;intro g W M C;simp only [ah] at C)
   |((with_reducible refine da ?_);refine dv rfl rfl rfl M.1 ?_;clear M C;intro W M C;simp only [ah] at C)
   |((with_reducible refine cv ?_);refine dV rfl rfl M.1 ?_))
   refine ot [] (fun _ h=>h) M.1 ?_;clear M C;intro W M;refine jO [0,1,2,3,4,5,6,7,8,9,10,11,12,13,14] M.1 ?_;iterate 14 (first|refine cc rfl ?_|refine ch rfl ?_|refine cj rfl ?_|refine cE rfl ?_)
   refine w4 (cs:= [.int .i64 d.kind,.int .i64 (wN:Int),.int .i64 (dP:Int)]) rfl rfl (fun V dB=>IE dB.2.2.2.1 dB.2.2.1 dB.2.1) ?_;refine bN ?_;have C:=M.1.aw;simp only [ah] at C;refine ir 15 rfl ?_
   go_wp2_with (first
   |((first|with_reducible refine gB ?_ | with_reducible refine gA ?_);refine cx rfl M.1 ?_;clear M C;intro g W M C;simp only [ah] at C))
   refine g3 M.1.pop ?_
   try refine fF ?_
   refine ir 16 rfl ?_
   go_wp2_with (first
   |((with_reducible refine da ?_);refine dv rfl rfl rfl M.1 ?_;clear M C;intro W M C;simp only [ah] at C))
   refine g3 M.1.pop ?_
   try refine fF ?_
   refine mf ?_
   go_wp2_with (first
   |((with_reducible refine cv ?_);refine fZ rfl rfl M.1 WQ.1 ?_)
   |((first|with_reducible refine gB ?_ | with_reducible refine gA ?_);refine cx rfl M.1 ?_;clear M C;intro g W M C;simp only [ah] at C)
   |((with_reducible refine da ?_);refine dv rfl rfl rfl M.1 ?_;clear M C;intro W M C;simp only [ah] at C)
   |((with_reducible refine cv ?_);refine dV rfl rfl M.1 ?_))
   cases b3;rotate_left
   ·refine gL M.1 ?_
    clear M C;intro W M;refine dx [0,1,2,3,4,5,6,7,8,9,10,11,12,13,14,15,16,17,18,19,20,21,22,23,24,25,26,27,28,29,30,31,32,33,34,35,36,37,38,39,40] M.1 ?_;iterate 41 (first|refine cc rfl ?_|refine ch rfl ?_|refine cj rfl ?_|refine cE rfl ?_)
    refine bN ?_;refine f' ?_;have C:=M.1.aw;simp only [ah] at C
    go_wp2_with (first
     | fail)
    go_ret;exact ⟨rfl,fb gH.1 M.1.below⟩
   have T6:=WR.1 rfl;refine gL M.1 ?_;clear M C;intro W M;refine dx [0,1,2,3,4,5,6,7,8,9,10,11,12,13,14,15,16,17,18,19,20,21,22,23,24,25,26,27,28,29,30,31,32,33,34,35,36,37,38,39,40] M.1 ?_;iterate 41 (first|refine cc rfl ?_|refine ch rfl ?_|refine cj rfl ?_|refine cE rfl ?_)
   refine bN ?_;refine f' ?_;have C:=M.1.aw;simp only [ah] at C
   go_wp2_with (first
    | fail)
   go_ret;exact ⟨rfl,fb gH.1 M.1.below⟩
end Go.Proofs.YteajdhhmkjblnaaGreatDoor.Eq
namespace Go.Proofs.YteajdhhmkjblnaaGreatDoor.fnSysLoad
open Go.ChangeShapes Go.WideShapes Go.ChangeAt Go.RowKit Go.Proofs.YteajdhhmkjblnaaGreatDoorW.PrintWords
theorem own:ownKnob Tryz.prog.godebug=none:=by kernel_rfl
theorem laidOut:laidOutB Tryz.prog=true:=by kernel_rfl
theorem iO:Tryz.prog.globalNamed "loop.example/equerry/impl.errSys" = some 0:=by kernel_rfl
theorem mo:(Tryz.prog.globals[0]?).map (·.type)=some 69:=by kernel_rfl
theorem iP:Tryz.prog.globalNamed "loop.example/equerry/impl.errTurn" = some 1:=by kernel_rfl
theorem mq:(Tryz.prog.globals[1]?).map (·.type)=some 69:=by kernel_rfl
theorem tY:Tryz.prog.cellsOf 213=1:=by kernel_rfl
theorem tZ:Tryz.prog.cellsOf 9=1:=by kernel_rfl
theorem star: "*" ++ "errors.errorString" = "*errors.errorString" :=by decide
theorem vj (u:TypeId) (h:Tryz.prog.typeName? 3 u=some "*errors.errorString"):u=187:=
 typeName_ptr_named (nm:= "errors.errorString") (by rw [star];kernel_rfl) (by kernel_rfl) (by decide) u (by rw [star];exact h)
theorem vw (os:Os) (args:Array Value):laidMetH Tryz.prog Rows.fnSysLoadRow.laid ((World.doorLaid Tryz.prog 400 os).forCall (fun _ _=>0) ⟨#[],args, []⟩).memory:=
 laidMetH_of_parts3 (fuel:=8) (laidMet_of_run' 8 (by kernel_rfl) (by kernel_rfl)) (by kernel_rfl) (by kernel_rfl)
theorem pk {W bM:World} {cs:Array Value} {nm:String} {k:Nat} (J:Tryz.prog.globalNamed nm=some k) (h:W.var? Tryz.prog nm=some cs) (I:Below W.heap.size W bM):bM.var? Tryz.prog nm=some cs:=by
 unfold World.var? at h ⊢;rw [J] at h ⊢;simp only [Option.bind_some] at h ⊢
 have aJ:k < W.heap.size:=by
  rcases Nat.lt_or_ge k W.heap.size with ct | ct
  ·exact ct
  ·rw [Array.getElem?_eq_none ct] at h;cases h
 rw [I.block k aJ];exact h
def vp (k:IntKind) (w:World) (a:Option Addr) (len cap:Nat) (eC:List Int):Prop:=
 (a=none/\len=0/\cap=0/\eC= [])\/
 ∃ x,a=some x/\len<=cap/\cap<=maxLen/\eC.length=cap/\(∀ i,i < eC.length->w.cell? (x.add i)=some (.int k (eC.getD i 0)))/\∀ n ∈ eC,(Lit.int k n).wf=true
theorem bytes {l:List Int} (h:∀ x ∈ l,(Lit.int .u8 x).wf=true) (i:Nat):0<=l.getD i 0/\l.getD i 0<=255:=by
 have:=range_u8 h i
 rwa [List.getD_eq_getElem?_getD]
theorem lifted (os:Os) (started:os.Started) (H:Type) (enc:TypeId × Value->H):
  ReturnsInHanded {} Tryz.checked os 14 .any (fun w args=>(Rows.fnSysLoadSpec.pre enc Tryz.prog Tryz.f14 [] false w args/\laidMetH Tryz.prog Rows.fnSysLoadRow.laid w)/\sizedMet enc Tryz.prog Tryz.f14 (OpenSpec.ofChange Rows.fnSysLoadSpec) false w args)
   (Rows.fnSysLoadSpec.post enc Tryz.prog Tryz.f14 false true false false):=by
 refine returnsInHanded_of_change_and (C:=Tryz.checked) (X:=fun w _=>laidMetH Tryz.prog Rows.fnSysLoadRow.laid w) (fun _ _ _ c0 h=>h.of_heap c0) own started (by kernel_rfl) Tryz.func14
  (ChangeSpec.witness_shaped (enc:=enc) (C:=Tryz.checked) (os:=os) (X:=fun w _=>laidMetH Tryz.prog Rows.fnSysLoadRow.laid w) false (World.doorLaid Tryz.prog 400 os) #[.slice none 0 0] 8 rfl (World.shaped_of_RefB (by kernel_rfl) (by kernel_rfl)) (by kernel_rfl) (by kernel_rfl) (by kernel_rfl) (vw os _)) ?_
 intro W base args ds gs before vq fx _ _ uz _;have pb:∀ (j:Nat) t v,Tryz.f14.params[j]? = some t->args[j]? = some v->Value.okWide Tryz.prog W .any base t v:=vq;have uA:=fx;obtain ⟨p,q,uB,uC,rfl,qf,mL⟩:=fx;have jo:DataW.TrodAll enc Tryz.prog W 0 (fun _=>true) true Tryz.f14.params.toList args.toList ds p:=uB;have dB:DataW.TrodVars enc Tryz.prog W (fun _=>true) ["loop.example/equerry/impl.errSys", "loop.example/equerry/impl.errTurn"] gs q:=uC;rw [Tryz.params14] at jo pb;obtain ⟨v0,E0,d0,E1,eT,bz,vm,rfl,rfl,aq,dZ⟩:=trodAll_cons jo;obtain ⟨rfl,rfl,rfl⟩:=trodAll_nil dZ;obtain rfl:args= #[v0]:=by cases args;simp_all
 obtain ⟨a0,vk,pc,rfl⟩:=okWide_slice Tryz.underlying22 (pb 0 22 v0 rfl rfl);have ep:=aq;have uD:∀ x ∈ eT,x.block < W.heap.size:=by obtain ⟨m,hm⟩:=ep;exact DataW.trod_lt m _ _ _ hm
 obtain ⟨z0,w0⟩:∃ eC,vp .u8 W a0 vk pc eC:=by
  obtain ⟨fuel,bb⟩:=aq;rcases open_ints Tryz.underlying22 Tryz.underlying5 (by kernel_rfl) bb with ⟨e4,_⟩ | ⟨x,l,c,eC,e4,_,ak,hm,aX,_,j',uE⟩
  ·simp [Value.cells] at e4
   obtain ⟨rfl,rfl,rfl⟩:=e4;exact ⟨[],.inl ⟨rfl,rfl,rfl,rfl⟩⟩
  ·simp [Value.cells] at e4
   obtain ⟨rfl,rfl,rfl⟩:=e4;exact ⟨eC,.inr ⟨_,rfl,ak,hm,by simpa using aX,j',uE⟩⟩
 obtain ⟨g9,rfl,uF,E2,la,iu⟩:=rv.CL w0
 have ke:laidMet Tryz.prog Rows.fnSysLoadRow.laid W:=by
  have h:=uz;rw [MakeChecks.laidMetH_plain _ _ _ (by kernel_rfl)] at h;exact h
 obtain ⟨k7,b1,t0,t1,tv,ej,u0,u1,mr,bG,-,-,-,-,-,-,cm,dE,bZ⟩:=laid_sentinels2 ke iO mo iP mq Tryz.underlying69 vj Tryz.underlying187 Tryz.underlying213 rfl rfl Tryz.underlying9 tY tZ;obtain ⟨rfl,rfl⟩:=dB.unique (vars_read2 enc iO mo Tryz.underlying69 mr trivial iP mq Tryz.underlying69 bG trivial _);have e5:W.cell? ⟨0,0,none⟩=some (.iface 187 (.pointer (some k7))):=by simpa using World.var?_cell iO mr 0
 have fO:W.cell? ⟨1,0,none⟩=some (.iface 187 (.pointer (some b1))):=by simpa using World.var?_cell iP bG 0
 refine (Eq.acf a0 pc g9 W (Kd.By (d:=(0:Int)) (h1:=fun _=>rfl) uF) iu (bytes la) k7 b1 ⟨e5,fO,Ne.symm cm,⟨_,_,dE⟩,⟨_,_,bZ⟩⟩).mono fun e bM ⟨he,kq⟩=> ?_
 subst he;exact ⟨_,rfl,_,_,_, [],_, [.cell 0 0,.cell 1 0],uA,trodAll_mk1 (shut_bool Tryz.underlying4 _),(trodAll_cons_mk (Below.trod laidOut (by kernel_rfl) (of_decide_eq_true (by kernel_rfl)) ep kq uD) trodAll_mk0),vars_read2 enc iO mo Tryz.underlying69 (pk iO mr kq) trivial iP mq Tryz.underlying69 (pk iP bG kq) trivial _,kq.frame _,fun h=>by cases h⟩
theorem bJ {a b:Bool} (ha:a=true) (I:b=true):(a && b)=true:=by rw [ha,I];rfl
theorem bL:(Rows.fnSysLoadRow.wf (OpenSpec.ofChange Rows.fnSysLoadSpec))=true:=by kernel_rfl
theorem cu:(laidOutB Tryz.pinned.checked.prog)=true:=by kernel_rfl
theorem kx:(mapsRowed Tryz.pinned.checked.prog)=true:=by kernel_rfl
theorem bO:(Tryz.f14.params.all (Tryz.pinned.checked.prog.readableRec ·))=true:=by kernel_rfl
theorem l8:(namedTie Tryz.pinned.checked.prog Rows.fnSysLoadRow.named Rows.fnSysLoadSpec.vars)=true:=by kernel_rfl
theorem nS:(Rows.fnSysLoadRow.stops == [])=true:=by kernel_rfl
theorem q0:(Tryz.pinned.checked.prog.stops == [])=true:=by kernel_rfl
theorem mI:(Rows.fnSysLoadRow.knobs == [])=true:=by kernel_rfl
theorem e1:(Tryz.pinned.checked.prog.stopKnobs == [])=true:=by kernel_rfl
theorem dp:(Rows.fnSysLoadRow.inPlace == Tryz.pinned.checked.prog.inPlace 14)=true:=by kernel_rfl
theorem dL:(Rows.fnSysLoadRow.unfollowed == Tryz.pinned.checked.prog.unfollowed 14)=true:=by kernel_rfl
theorem uG:(Rows.fnSysLoadRow.recurses == Tryz.pinned.checked.prog.recurses 14)=true:=by kernel_rfl
theorem uH:(Rows.fnSysLoadRow.named == Tryz.pinned.checked.prog.varsNamed 14)=true:=by kernel_rfl
theorem uI:(Rows.fnSysLoadRow.maps == (Tryz.f14.params.toList ++ Rows.fnSysLoadSpec.plain.varTypes Tryz.pinned.checked.prog).any (Tryz.pinned.checked.prog.mapsRec ·))=true:=by kernel_rfl
theorem uJ:(Rows.fnSysLoadRow.ifaces == (Tryz.f14.params.toList ++ Rows.fnSysLoadSpec.plain.varTypes Tryz.pinned.checked.prog).any (Tryz.pinned.checked.prog.ifacesRec ·))=true:=by kernel_rfl
theorem uK:(Rows.fnSysLoadRow.mapsOut == Tryz.pinned.checked.prog.mapsAmong Tryz.f14.resultTypes.toList)=true:=by kernel_rfl
theorem uL:(Rows.fnSysLoadRow.loops == (Tryz.f14.params.toList ++ Rows.fnSysLoadSpec.plain.varTypes Tryz.pinned.checked.prog).any (Tryz.pinned.checked.prog.loopsFrom ·))=true:=by kernel_rfl
theorem uM:(Rows.fnSysLoadRow.wideKeys == (Tryz.f14.params.toList ++ Rows.fnSysLoadSpec.plain.varTypes Tryz.pinned.checked.prog ++ Tryz.f14.resultTypes.toList).any (Tryz.pinned.checked.prog.wideKeysFrom ·))=true:=by kernel_rfl
theorem uN:(Rows.fnSysLoadSpec.vars.all (Tryz.pinned.checked.prog.varReadable ·))=true:=by kernel_rfl
theorem uO:(Tryz.f14.resultTypes.all (fun t=>Tryz.pinned.checked.prog.readableRec t && decide (t < Tryz.pinned.checked.prog.types.size)))=true:=by kernel_rfl
theorem uP:(Rows.fnSysLoadRow.ifacesOut == Tryz.f14.resultTypes.toList.any (Tryz.pinned.checked.prog.ifacesRec ·))=true:=by kernel_rfl
theorem uQ:(Rows.fnSysLoadRow.loopsOut == Tryz.f14.resultTypes.toList.any (Tryz.pinned.checked.prog.loopsFrom ·))=true:=by kernel_rfl
theorem uR:(Rows.fnSysLoadRow.plainKeys == Tryz.pinned.checked.prog.plainKeys)=true:=by kernel_rfl
theorem uS:(Rows.fnSysLoadRow.shortTexts.isNone)=true:=by kernel_rfl
theorem uT:(Tryz.pinned.checked.prog.stopsHeard)=true:=by kernel_rfl
theorem uU:(Tryz.pinned.checked.prog.mayEnter)=true:=by kernel_rfl
theorem uV:(Rows.fnSysLoadRow.lifted == Tryz.pinned.checked.prog.liftsFinal)=true:=by kernel_rfl
theorem uW:(Tryz.pinned.checked.prog.make == some Rows.fnSysLoadRow.make)=true:=by kernel_rfl
theorem uX:(Rows.fnSysLoadRow.pinned == Rows.fnSysLoadRow.pinnedBy)=true:=by kernel_rfl
theorem uY:(Rows.fnSysLoadRow.veiled == (Tryz.f14.params.toList ++ Rows.fnSysLoadSpec.plain.varTypes Tryz.pinned.checked.prog ++ Tryz.f14.resultTypes.toList).any (Tryz.pinned.checked.prog.veiledRec ·))=true:=by kernel_rfl
theorem uZ:(Rows.fnSysLoadRow.veiledFits Tryz.pinned.checked.prog Tryz.f14.params.toList (Tryz.f14.params.toList ++ Rows.fnSysLoadSpec.plain.varTypes Tryz.pinned.checked.prog ++ Tryz.f14.resultTypes.toList))=true:=by kernel_rfl
theorem closed:joinedFacts Tryz.pinned.checked.prog 14 Tryz.f14 Rows.fnSysLoadSpec Rows.fnSysLoadRow=true:=by
 unfold joinedFacts;refine bJ ?_ uZ;refine bJ ?_ uY;refine bJ ?_ uX;refine bJ ?_ (by kernel_rfl);refine bJ ?_ uW;refine bJ ?_ uV;refine bJ ?_ uU;refine bJ ?_ uT;refine bJ ?_ uS;refine bJ ?_ uR;refine bJ ?_ uQ;refine bJ ?_ uP;refine bJ ?_ uO;refine bJ ?_ uN;refine bJ ?_ uM;refine bJ ?_ uL;refine bJ ?_ uK;refine bJ ?_ uJ;refine bJ ?_ uI;refine bJ ?_ uH;refine bJ ?_ uG;refine bJ ?_ dL;refine bJ ?_ dp;refine bJ ?_ e1;refine bJ ?_ mI;refine bJ ?_ q0;refine bJ ?_ nS;refine bJ ?_ l8;refine bJ ?_ bO;refine bJ ?_ kx;refine bJ ?_ cu;exact bL
theorem mu:Tryz.pinned.checked.prog.funcNamed Rows.fnSysLoadRow.func=some 14:=by kernel_rfl
theorem over:Rows.fnSysLoadRow.holds Tryz.pinned (OpenSpec.ofChange Rows.fnSysLoadSpec):=
 OpenClaim.holds_of_wide 14 Tryz.f14 rfl rfl rfl rfl rfl rfl rfl ⟨rfl,rfl,rfl,rfl,rfl⟩ rfl rfl rfl rfl rfl mu Tryz.func14 closed
  (of_decide_eq_true (by kernel_rfl)) (by unfold Func.isWrapper;first|(rw [if_pos (by decide +kernel)];kernel_rfl)|(rw [if_neg (by decide +kernel)];exact ⟨rfl,rfl⟩))
  (fun os started H enc _=>lifted os started H enc)
theorem vl:Rows.FnSysLoadCardSaid:=
 Claim7.holds_tied_plain_at .later [] [.sentinel,.sentinel] true Rows.fnSysLoadCard.stood.harness true
  over (fun _ h=>by cases h) (by kernel_rfl) (fun _ h=>by cases h) fnSysLoad_row_tie rfl ⟨rfl,rfl⟩ (by kernel_rfl) rfl
  (fun f fn bb mu=>by
   obtain rfl:f=14:=Option.some.inj ((show Tryz.prog.funcNamed "loop.example/equerry/laws.FnSysLoad" = some 14 by kernel_rfl).symm.trans bb) |>.symm;obtain rfl:fn=Tryz.f14:=(Option.some.inj (Tryz.func14.symm.trans mu)).symm
   exact ⟨by kernel_rfl,fun j t a6=>by
    rw [Tryz.params14] at a6;have hm:t ∈ [22]:=by simpa using Array.mem_of_getElem? a6
    have n5:([22].all fun u=> !Tryz.prog.wantsStandIn u)=true:=by kernel_rfl
    exact (show Tryz.prog.wantsStandIn t=false by simpa using List.all_eq_true.1 n5 t hm)⟩)
  (by kernel_rfl)
end Go.Proofs.YteajdhhmkjblnaaGreatDoor.fnSysLoad
namespace Go.Proofs.YteajdhhmkjblnaaGreatDoor
theorem fnSysLoad_holds:Rows.FnSysLoadCardSaid:=fnSysLoad.vl
end Go.Proofs.YteajdhhmkjblnaaGreatDoor
