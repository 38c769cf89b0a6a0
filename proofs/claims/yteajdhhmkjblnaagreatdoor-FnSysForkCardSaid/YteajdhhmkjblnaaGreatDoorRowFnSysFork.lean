/- The law FnSysFork: it returns true whatever the input, and the input and the variable read as they did. The listed variable starts as the program's text lays it (the card). -/
import Derived.Test.YteajdhhmkjblnaaGreatDoorRows
import Derived.Test.YteajdhhmkjblnaaGreatDoorV7
import Derived.Test.YteajdhhmkjblnaaGreatDoorCards
import Derived.Test.YteajdhhmkjblnaaGreatDoorTie
import Derived.ChangeOld
import Derived.LaidMore
import Derived.OpenShut
import Derived.ProofKit
import Derived.SevenTiedAt
import Derived.ShutString
import Derived.SizedLaws
import Derived.Stop.ErrReads
import Derived.Stop.Joined
import Derived.Stop.LaidErr
import Derived.Stop.LaidTwo
set_option maxHeartbeats 8000000
set_option maxRecDepth 100000
set_option linter.unusedVariables false
set_option linter.unusedSimpArgs false
namespace Go.Proofs.YteajdhhmkjblnaaGreatDoor.Eq
open Go.RowKit Go.Proofs.YteajdhhmkjblnaaGreatDoorW.PrintWords Go.Proofs.YteajdhhmkjblnaaGreatDoorW.PrintLast Go.Proofs.YteajdhhmkjblnaaGreatDoorW.PrintMore
theorem vy {p:Prog} {s x:Sys} {k:Int} (h:jG p s k=(x,true)):jh p s=true/\∃ i:Nat,k=i/\i < s.tasks.length/\ready s i=true/\x=step p s i/\i < x.tasks.length:=by
 unfold jG at h;split at h
 ·rename_i ay
  rw [Bool.and_eq_true] at ay;obtain ⟨h1,ar,aA⟩:=BB ay.2;have az:=(Prod.mk.inj h).1;have ak:=zk p [k] s;have a6:turns p s [k]=x:=by rw [<-az];simp only [turns,List.foldl_cons,List.foldl_nil,lK,ay.2,if_true]
  rw [a6] at ak;exact ⟨ay.1,k.toNat,ar.symm,h1,aA,az.symm,by omega⟩
 ·cases (Prod.mk.inj h).2
end Go.Proofs.YteajdhhmkjblnaaGreatDoor.Eq



namespace Go.Proofs.YteajdhhmkjblnaaGreatDoor.Eq
open Go.RowKit Go.Proofs.YteajdhhmkjblnaaGreatDoorW.PrintWords Go.Proofs.YteajdhhmkjblnaaGreatDoorW.PrintLast Go.Proofs.YteajdhhmkjblnaaGreatDoorW.PrintMore
theorem Nu {P:Program} {ops:Array Oper} {rest:List Oper} {a:Go.Act} {Q:Exit->Go.Act->World->Prop} {W:World} {N:Option Tmp} {op:Op} {ty:TypeId} {bK:String} {e2:Array Edge} {j:Nat} {b:Bool} (aW:yielded ops a.tmps j=some b)
  (h:wpList P ops Q ({dst:=N,op:=op,type:=ty,pos:=bK,after:=e2,guard:=none} :: rest) a W):wpList P ops Q ({dst:=N,op:=op,type:=ty,pos:=bK,after:=e2,guard:=some (j,b)} :: rest) a W:=by
 have hw:Region.wanted {dst:=N,op:=op,type:=ty,pos:=bK,after:=e2,guard:=some (j,b)} (yielded ops a.tmps)=true:=by rw [Gq rfl aW,beq_self_eq_true]
 unfold wpList at h ⊢;rw [if_pos (Gp rfl)] at h;rw [if_pos hw];exact h
theorem Z8 {cells an body:Int} {a:Act} (h:dT cells an body a=true):a.kids.length<=2:=by
 by_cases J:a.kind=2
 ·exact (F5 h J).1
 ·unfold dT at h
  split at h
  ·cases h
  ·rename_i aS
   have:a.kids= []:=Classical.byContradiction fun cm=>aS (.inr (.inl ⟨J,cm⟩))
   rw [this];simp
theorem ace (A:Option Addr) (c:Nat) (l:List Int) (w:World) (gw:(Kd.int .u8).C w A l.length l) (ay:l.length<=c) (I:∀ i:Nat,0<=l.getD i 0/\l.getD i 0<=255) (a b:Addr) (he:sf a b w):
  Calls Tryz.prog 10 #[.slice A l.length c] w fun e af=>e= .returned (.bool true)/\Below w.heap.size w af:=by
 have cl:=am gw;have dq:=am ay;have fJ:=am I;clear gw ay I;by_cases mx:(1048576:Int) < (l.length:Int)
 ·have vi:decide ((1048576:Int) < (l.length:Int))=true:=decide_eq_true mx
  go_enter Tryz.func10,Tryz.ntmps10;go_wp2;go_ret;exact ⟨rfl,Below.refl _ _⟩
 ·have vi:decide ((1048576:Int) < (l.length:Int))=false:=decide_eq_false mx
  clear mx;have M:=am (ba.nil w);have C:=M.1.aw;go_enter Tryz.func10,Tryz.ntmps10
  go_wp2_with (first
  |(go_at_call 27;refine (Db A c l _ cl.1 dq.1 fJ.1).mono ?_;rintro e W1 ⟨p,s,ju,c6,k,rfl,aB,iz,hs,cP,nC,mj,mm⟩;obtain ⟨ek,ey,g0,er,rfl,-,-,-,gb⟩:=jk aB;obtain ⟨cX,bL,dX,cu,cU,bO,rfl,-,-,-,db,-,-⟩:=gX hs;have lI:=am mm;have cR:=am aB;have c8:=am hs;have ea:=am iz;have cK:=am cP;have iJ:=am nC;have bS:=am (he.below mm);have nk:=am gb;have iM:=am db;clear M C mm aB hs iz cP nC mj he gb db;have M:=am (ba.nil W1);have C:=M.1.aw;simp only [ah] at C)
  |((first|with_reducible refine gB ?_ | with_reducible refine gA ?_);refine cx rfl M.1 ?_;clear M C;intro g W M C;simp only [ah] at C)
  |((with_reducible refine da ?_);refine dv rfl rfl rfl M.1 ?_;clear M C;intro W M C;simp only [ah] at C)
  |((with_reducible refine cv ?_);refine dV rfl rfl M.1 ?_))
  obtain ⟨x,eW,ao⟩:∃ x b,jG p s k=(x,b):=⟨_,_,rfl⟩;have cb:=am ao;clear ao;cases eW
  ·go_wp2_with (first
   |(go_at_call 28;refine (ts p _ s _ k _ (cN.bH M.1.below cR.1) (cS.bH M.1.below c8.1) ea.1 cK.1 iJ.1).mono ?_;rintro e dY aq;rw [cb.1] at aq;obtain ⟨l0,v0,v1,v3,dC,aW,I⟩:=aq;dsimp only at dC aW;subst dC;obtain ⟨lx,tR,rfl⟩:=Kd.bt aW.cells;obtain ⟨np,tS,b1⟩:=Kd.bt aW.tasks;rw [fH] at b1;subst b1;obtain ⟨nr,tT,rfl⟩:=Kd.bt aW.log;replace M:=am (M.1.copied I aW);clear C;have C:=M.1.aw;simp only [ah] at C;clear I aW)
   |(go_at_call 29;refine (tr p _ s _ k _ (cN.bH M.1.below cR.1) (cS.bH M.1.below c8.1) ea.1 cK.1 iJ.1 a b (bS.1.below M.1.below)).mono ?_;rintro e dY aq;rw [cb.1] at aq;obtain ⟨c1,v0,v1,v3,dC,aW,I⟩:=aq;dsimp only at dC aW;subst dC;obtain ⟨tU,tV,rfl⟩:=Kd.bt aW.cells;obtain ⟨gM,tW,b1⟩:=Kd.bt aW.tasks;rw [fH] at b1;subst b1;obtain ⟨kz,tX,rfl⟩:=Kd.bt aW.log;replace M:=am (M.1.copied I aW);clear C;have C:=M.1.aw;simp only [ah] at C;clear I aW)
   |(go_at_call 30;refine (tq x x _ _ _ (b8.read (M.1.get (F:=fL _ c1 _ _ _ _))) (b8.read (M.1.get (F:=fL _ l0 _ _ _ _)))).mono ?_;rintro e dY ⟨rfl,I⟩;rw [decide_eq_true (rfl:x=x)];replace M:=am (M.1.step I);clear C;have C:=M.1.aw;simp only [ah] at C;clear I)
   |((first|with_reducible refine gB ?_ | with_reducible refine gA ?_);refine cx rfl M.1 ?_;clear M C;intro g W M C;simp only [ah] at C)
   |((with_reducible refine da ?_);refine dv rfl rfl rfl M.1 ?_;clear M C;intro W M C;simp only [ah] at C)
   |((with_reducible refine cv ?_);refine dV rfl rfl M.1 ?_))
   go_ret;exact ⟨rfl,fb lI.1 M.1.below⟩
  ·obtain ⟨c7,i,rfl,aa,iw,az,o4⟩:=vy cb.1
   have r':=am o4;obtain ⟨t,a6⟩:∃ t,t=R s i:=⟨_,rfl⟩;obtain ⟨u,hu⟩:∃ u,u=R x i:=⟨_,rfl⟩;have bX:=am hu;have inv:=Inv.tb c7;have lU:=inv.task i aa;rw [<-a6] at lU;obtain ⟨bl,eu⟩:=Int.eq_ofNat_of_zero_le lU.jF;obtain ⟨dI,kV⟩:=Int.eq_ofNat_of_zero_le lU.iv;have mT:bl < p.an.length:=by have:=lU.jZ;omega
   obtain ⟨cq,ho⟩:∃ z,z=bo p.an bl:=⟨_,rfl⟩;obtain ⟨ac,lY⟩:∃ z,z=actAt cq dI:=⟨_,rfl⟩;have xG:=ZY inv aa iw;rw [<-az,<-hu,<-a6,show lv p t=cq by unfold lv;rw [eu,Int.toNat_natCast,ho],show ji p t=ac by unfold ji lv;rw [eu,kV,Int.toNat_natCast,Int.toNat_natCast,<-ho,lY]] at xG;obtain ⟨ej,cg⟩:∃ b,(t.a7 == 1)=b:=⟨_,rfl⟩;obtain ⟨b2,cO⟩:∃ b,(u.a7 != 1)=b:=⟨_,rfl⟩
   have fK:=am (show ej=true\/b2=true->((x.tasks.length:Int) == (s.tasks.length:Int))=true from fun h=>by
    rw [xG.1 (h.imp (fun h=>by subst h;simpa using cg) (fun h=>by subst h;simpa using cO))];simp)
   have e3:=am (show ej=false->b2=false->x=fork s i ac.kids/\dI < cq.length from fun h1 ar=>by
    subst h1 ar;obtain ⟨aA,bR⟩:=xG.2 (by simpa using cg) (by simpa using cO);exact ⟨aA,by omega⟩)
   have rY:=am (show dI < cq.length->dT p.cells.length p.an.length t.body ac=true from fun h=>by rw [lY,ho];have:=wz inv.form ⟨lU.jF,lU.jZ⟩ (k:=dI) (by rw [eu,Int.toNat_natCast,<-ho];exact h);rwa [eu,Int.toNat_natCast,<-eu] at this);have aS:=iJ.1;obtain ⟨DM,DN,sT,dO,-,hk,jg,-⟩:=dd iM.1 dS i aa (by decide);cases dO;rw [show s.tasks.getD i dS=t from a6.symm] at hk;obtain ⟨hB,d3,iZ,d8,gY,d9,gd,d10,rfl,-⟩:=gh hk;have dZ:=jg 0 _ rfl;have jL:=jg 1 _ rfl;have l4:=jg 4 _ rfl;simp only [show eV.bD=13 from rfl,Nat.add_zero] at dZ jL l4;rw [eu] at dZ;rw [kV] at jL;obtain ⟨gp,cV,nW,eg,-,hX,en,-⟩:=dd nk.1 ([]:List Act) bl mT (by decide);cases eg;obtain ⟨k5,kf,rfl,-,ga⟩:=hX;have c3:=en 0 _ rfl;simp only [show (Kd.slice 55 kAct).bD=1 from rfl,Nat.mul_one,Nat.add_zero] at c3;rw [show p.an.getD bl []=cq from ho.symm] at c3 ga;have k6:=am ga;have vT:=am lY;have bz:(0:Int)<=(i:Int):=by omega
   have b7:(i:Int) < (s.tasks.length:Int):=by omega
   have lQ:(i:Int) < (x.tasks.length:Int):=by omega
   have bY:(0:Int)<=(bl:Int):=by omega
   have l5:(bl:Int) < (p.an.length:Int):=by omega
   replace M:=am (M.1.cB c3 |>.cB dZ |>.cB jL |>.cB l4);clear C;have C:=M.1.aw;simp only [ah] at C;clear aS xG c7 iw az o4 hk jg hu a6 inv lU eu kV mT ho lY en c3 dZ jL l4 ga
   go_upto_region 8 with (first
   |(go_at_call 28;refine (ts p _ s _ (i:Int) _ (cN.bH M.1.below cR.1) (cS.bH M.1.below c8.1) ea.1 cK.1 iJ.1).mono ?_;rintro e dY aq;rw [cb.1] at aq;obtain ⟨l0,v0,v1,v3,dC,aW,I⟩:=aq;dsimp only at dC aW;subst dC;obtain ⟨lx,tR,rfl⟩:=Kd.bt aW.cells;obtain ⟨np,tS,b1⟩:=Kd.bt aW.tasks;rw [fH] at b1;subst b1;obtain ⟨nr,tT,rfl⟩:=Kd.bt aW.log;replace M:=am (M.1.copied I aW);clear C;have C:=M.1.aw;simp only [ah] at C;clear I aW)
   |(go_at_call 29;refine (tr p _ s _ (i:Int) _ (cN.bH M.1.below cR.1) (cS.bH M.1.below c8.1) ea.1 cK.1 iJ.1 a b (bS.1.below M.1.below)).mono ?_;rintro e dY aq;rw [cb.1] at aq;obtain ⟨c1,v0,v1,v3,dC,aW,I⟩:=aq;dsimp only at dC aW;subst dC;obtain ⟨tU,tV,rfl⟩:=Kd.bt aW.cells;obtain ⟨gM,tW,b1⟩:=Kd.bt aW.tasks;rw [fH] at b1;subst b1;obtain ⟨kz,tX,rfl⟩:=Kd.bt aW.log;replace M:=am (M.1.copied I aW);clear C;have C:=M.1.aw;simp only [ah] at C;clear I aW)
   |(go_at_call 30;refine (tq x x _ _ _ (b8.read (M.1.get (F:=fL _ c1 _ _ _ _))) (b8.read (M.1.get (F:=fL _ l0 _ _ _ _)))).mono ?_;rintro e dY ⟨rfl,I⟩;rw [decide_eq_true (rfl:x=x)];replace M:=am (M.1.step I);clear C;have C:=M.1.aw;simp only [ah] at C;clear I)
   |((first|with_reducible refine gB ?_ | with_reducible refine gA ?_);refine cx rfl M.1 ?_;clear M C;intro g W M C;simp only [ah] at C)
   |((with_reducible refine da ?_);refine dv rfl rfl rfl M.1 ?_;clear M C;intro W M C;simp only [ah] at C)
   |((with_reducible refine cv ?_);refine dV rfl rfl M.1 ?_))
   obtain ⟨_,_,_,_,_,_,mn,-,-,-,cL,-,-⟩:=gX (b8.read (M.1.get (F:=fL _ c1 _ _ _ _)));simp only [List.cons.injEq,Value.slice.injEq,and_true] at mn;obtain ⟨-,⟨rfl,-⟩,-⟩:=mn;obtain ⟨oU,wP,AN,m3,-,kD,l1,-⟩:=dd cL dS i r'.1 (by decide);cases m3;rw [show x.tasks.getD i dS=u from bX.1.symm] at kD;obtain ⟨_,_,_,_,_,_,_,_,rfl,-⟩:=gh kD;have pA:=l1 4 _ rfl;simp only [show eV.bD=13 from rfl] at pA;have T9:=am pA;have wL:=am cL;have gH:=cf lI M.1.below;have KS:=ks k6 M.1.below;clear cL l1 kD pA;have hj:=am M.1.Bj;simp only [List.map_cons,List.map_nil,kk.bE] at hj;clear M C;have M:=hj;clear hj;have C:=M.1.aw;simp only [ah] at C;replace M:=am (M.1.cB T9.1);clear C;have C:=M.1.aw;simp only [ah] at C;cases ej;rotate_left
   ·have gq:=fK.1 (by simp)
    go_wp2_with (first
    |((with_reducible refine cv ?_);refine dV rfl rfl M.1 ?_))
    go_ret;exact ⟨rfl,fb gH.1 M.1.below⟩
   cases b2;rotate_left
   ·have gq:=fK.1 (by simp)
    go_wp2_with (first
    |((with_reducible refine cv ?_);refine dV rfl rfl M.1 ?_))
    go_ret;exact ⟨rfl,fb gH.1 M.1.below⟩
   obtain ⟨KT,qk⟩:=e3.1 rfl rfl;have iI:ac.kids.length<=2:=Z8 (rY.1 qk);have hlen:x.tasks.length=s.tasks.length+ac.kids.length:=by rw [KT];exact RB _
   have XJ:=am (show ∀ j,j < ac.kids.length->R x (s.tasks.length+j)=g8 (cC ac.kids j) i from fun j aI=>by rw [KT];exact ZZ aI aa);obtain ⟨iL,ly,yw,eL,-,ix,j8,-⟩:=dd KS.1 iK dI qk (by decide);cases eL;rw [show cq.getD dI iK=ac from vT.1.symm] at ix;obtain ⟨eR,ez,eF,eJ,rfl,-,-,-,gk⟩:=m0 ix;have v2:=j8 2 _ rfl;simp only [show kAct.bD=4 from rfl] at v2;have WN:=am gk;have oK:(0:Int)<=(dI:Int):=by omega
   have x6:(dI:Int) < (cq.length:Int):=by omega
   have hm:s.tasks.length<=1000:=by have:=iJ.1;omega
   replace M:=am (M.1.cB v2);clear C;have C:=M.1.aw;simp only [ah] at C;have Qv:=am hlen;clear KT qk ix j8 v2 gk hlen
   go_wp2_with (first
    | fail)
   refine gL M.1 ?_;clear M C;intro W M;refine dx [0,1,2,3,4,5,6,7,8,9,10,11,12,13,14,15,16,17,18,19] M.1 ?_;iterate 20 (first|refine cc rfl ?_|refine ch rfl ?_|refine cj rfl ?_|refine cE rfl ?_)
   refine bN ?_;refine f' ?_;have C:=M.1.aw;simp only [ah] at C
   go_wp2_with (first
    | fail)
   obtain ⟨L,fg,fh⟩:=ba.named M;go_loopw [11] (fun v af=>∃ k:Nat,k<=ac.kids.length/\v= .int .i64 k/\av (ba _ af L)) (fun v _=>ac.kids.length - (intOf v).toNat)
   case atStart=>exact ⟨0,Nat.zero_le _,rfl,fh⟩
   case round=>
    obtain ⟨k,J,rfl,M2⟩:=hrel;have e:=fg.1;subst e;clear M C fh fg;have M:=M2;clear M2;have C:=M.1.aw;simp only [ah] at C;by_cases aJ:k < ac.kids.length
    ·have hq:s.tasks.length+k < x.tasks.length:=by rw [Qv.1];omega
     have dZ:(0:Int)<=(s.tasks.length:Int)+(k:Int):=by omega
     have jL:(s.tasks.length:Int)+(k:Int) < (x.tasks.length:Int):=by omega
     have qK:(0:Int)<=(k:Int):=by omega
     have hN:(k:Int) < (ac.kids.length:Int):=by omega
     obtain ⟨b5,acJ,PG,sL,-,u',nf,-⟩:=dd wL.1 dS (s.tasks.length+k) hq (by decide);cases sL;obtain ⟨v,bp⟩:∃ v,g8 (cC ac.kids k) i=v:=⟨_,rfl⟩;rw [show x.tasks.getD (s.tasks.length+k) dS=v from (XJ.1 k aJ).trans bp] at u';obtain ⟨p3,f3,Ds,f8,zB,f9,yD,f10,rfl,-,bO,-⟩:=gh u';have XK:=am nf;have oL:=am bO;have gq:(v.up != (i:Int))=false:=by rw [<-bp];simp [g8]
     have jm:(v.body != rd ac.kids (k:Int))=false:=by rw [<-bp];simp [g8,rd,cC]
     have z3:(v.a7 != 0)=false:=by rw [<-bp];simp [g8]
     have z4:(v.aR != 0)=false:=by rw [<-bp];simp [g8]
     have jr:=am (show decide (v.aL= [0,0,0])=true by rw [<-bp];rfl);obtain ⟨cy,mb,AP⟩:=Kd.kG WN.1 (k:Int) qK hN;cases mb;simp only [Int.toNat_natCast] at AP;replace M:=am (M.1.cB AP);clear C;have C:=M.1.aw;simp only [ah] at C;clear hq u' nf bO bp AP
     go_wp2_with (first
     |((with_reducible refine cv ?_);refine fZ rfl rfl M.1 XK.1 ?_)
     |((first|with_reducible refine gB ?_ | with_reducible refine gA ?_);refine cx rfl M.1 ?_;clear M C;intro g W M C;simp only [ah] at C)
     |((with_reducible refine da ?_);refine dv rfl rfl rfl M.1 ?_;clear M C;intro W M C;simp only [ah] at C)
     |((with_reducible refine cv ?_);refine dV rfl rfl M.1 ?_))
     refine ot [] (fun _ h=>h) M.1 ?_;clear M C;intro W M;refine jO [0,1,2,3,4,5,6,7,8,9,10,11,12,13,14,15,16,17,18,19,20,21,22,23,24,25] M.1 ?_;iterate 26 (first|refine cc rfl ?_|refine ch rfl ?_|refine cj rfl ?_|refine cE rfl ?_)
     refine bN ?_;have C:=M.1.aw;simp only [ah] at C;refine ir 26 rfl ?_;refine Nu rfl ?_;refine Kd.jX (w0:=_) (Kd.int .i64) _ 3 rfl (N:=140) rfl (xs:=([0,0,0]:List Int)) (inner:= [.int .i64 0,.int .i64 0,.int .i64 0]) (ok:=fun _=>True) (okp:=fun _=>True) (by go_simp<;>rfl) (cp.one rfl (cp.one rfl (cp.one rfl (cp.none _ _)))) (fun _ _=>trivial) trivial (Below.refl _ _) (Nat.le_refl _) (by simp) ?_;intro v0 W1 ao I U _;obtain ⟨ev,dp,rfl⟩:=Kd.bt ao;replace M:=am (M.1.made (BD U) ao);clear C;have C:=M.1.aw;simp only [ah] at C;clear ao I U
     go_wp2_with (first
      | fail)
     refine g3 M.1.pop ?_
     try refine fF ?_
     refine ir 27 rfl ?_;refine Nu rfl ?_
     go_wp2_with (first
     |(go_at_call 23;refine (su v.aL [0,0,0] _ _ _ _ _ (Kd.bW oL.1 M.1.below) (M.1.Kq ev _)).mono ?_;rintro e dY ⟨rfl,aO⟩;rw [jr.1];have I:=sw aO;replace M:=am (M.1.step I);clear C;have C:=M.1.aw;simp only [ah] at C;clear aO I))
     refine g3 M.1.pop ?_
     try refine fF ?_
     refine jO [28,29] M.1.pop ?_;iterate 2 (first|refine cc rfl ?_|refine ch rfl ?_|refine cj rfl ?_|refine cE rfl ?_)
     refine bN ?_
     try refine fF ?_
     refine mf ?_
     go_wp2_with (first
      | fail)
     go_roundw
     case rel=>exact ⟨k+1,by omega,by go_num,⟨M.1.pop.pop.pop⟩⟩
     case measure=>simp [intOf];omega
    ·have gq:((x.tasks.length:Int) == (s.tasks.length:Int)+(ac.kids.length:Int))=true:=by rw [Qv.1];simp
     go_wp2_with (first
     |((with_reducible refine cv ?_);refine dV rfl rfl M.1 ?_))
     go_ret;exact ⟨rfl,fb gH.1 M.1.below⟩
end Go.Proofs.YteajdhhmkjblnaaGreatDoor.Eq
namespace Go.Proofs.YteajdhhmkjblnaaGreatDoor.fnSysFork
open Go.ChangeShapes Go.WideShapes Go.ChangeAt Go.RowKit Go.Proofs.YteajdhhmkjblnaaGreatDoorW.PrintWords
theorem own:ownKnob Tryz.prog.godebug=none:=by kernel_rfl
theorem laidOut:laidOutB Tryz.prog=true:=by kernel_rfl
theorem iO:Tryz.prog.globalNamed "loop.example/equerry/impl.errSys" = some 0:=by kernel_rfl
theorem mo:(Tryz.prog.globals[0]?).map (·.type)=some 69:=by kernel_rfl
theorem iP:Tryz.prog.globalNamed "loop.example/equerry/impl.errTurn" = some 1:=by kernel_rfl
theorem mq:(Tryz.prog.globals[1]?).map (·.type)=some 69:=by kernel_rfl
theorem tY:Tryz.prog.cellsOf 213=1:=by kernel_rfl
theorem tZ:Tryz.prog.cellsOf 9=1:=by kernel_rfl
theorem star: "*" ++ "errors.errorString" = "*errors.errorString" :=by decide
theorem vj (u:TypeId) (h:Tryz.prog.typeName? 3 u=some "*errors.errorString"):u=187:=
 typeName_ptr_named (nm:= "errors.errorString") (by rw [star];kernel_rfl) (by kernel_rfl) (by decide) u (by rw [star];exact h)
theorem vw (os:Os) (args:Array Value):laidMetH Tryz.prog Rows.fnSysForkRow.laid ((World.doorLaid Tryz.prog 400 os).forCall (fun _ _=>0) ⟨#[],args, []⟩).memory:=
 laidMetH_of_parts3 (fuel:=8) (laidMet_of_run' 8 (by kernel_rfl) (by kernel_rfl)) (by kernel_rfl) (by kernel_rfl)
theorem pk {W bM:World} {cs:Array Value} {nm:String} {k:Nat} (J:Tryz.prog.globalNamed nm=some k) (h:W.var? Tryz.prog nm=some cs) (I:Below W.heap.size W bM):bM.var? Tryz.prog nm=some cs:=by
 unfold World.var? at h ⊢;rw [J] at h ⊢;simp only [Option.bind_some] at h ⊢
 have aJ:k < W.heap.size:=by
  rcases Nat.lt_or_ge k W.heap.size with ct | ct
  ·exact ct
  ·rw [Array.getElem?_eq_none ct] at h;cases h
 rw [I.block k aJ];exact h
def vp (k:IntKind) (w:World) (a:Option Addr) (len cap:Nat) (eC:List Int):Prop:=
 (a=none/\len=0/\cap=0/\eC= [])\/
 ∃ x,a=some x/\len<=cap/\cap<=maxLen/\eC.length=cap/\(∀ i,i < eC.length->w.cell? (x.add i)=some (.int k (eC.getD i 0)))/\∀ n ∈ eC,(Lit.int k n).wf=true
theorem bytes {l:List Int} (h:∀ x ∈ l,(Lit.int .u8 x).wf=true) (i:Nat):0<=l.getD i 0/\l.getD i 0<=255:=by
 have:=range_u8 h i
 rwa [List.getD_eq_getElem?_getD]
theorem lifted (os:Os) (started:os.Started) (H:Type) (enc:TypeId × Value->H):
  ReturnsInHanded {} Tryz.checked os 10 .any (fun w args=>(Rows.fnSysForkSpec.pre enc Tryz.prog Tryz.f10 [] false w args/\laidMetH Tryz.prog Rows.fnSysForkRow.laid w)/\sizedMet enc Tryz.prog Tryz.f10 (OpenSpec.ofChange Rows.fnSysForkSpec) false w args)
   (Rows.fnSysForkSpec.post enc Tryz.prog Tryz.f10 false true false false):=by
 refine returnsInHanded_of_change_and (C:=Tryz.checked) (X:=fun w _=>laidMetH Tryz.prog Rows.fnSysForkRow.laid w) (fun _ _ _ c0 h=>h.of_heap c0) own started (by kernel_rfl) Tryz.func10
  (ChangeSpec.witness_shaped (enc:=enc) (C:=Tryz.checked) (os:=os) (X:=fun w _=>laidMetH Tryz.prog Rows.fnSysForkRow.laid w) false (World.doorLaid Tryz.prog 400 os) #[.slice none 0 0] 8 rfl (World.shaped_of_RefB (by kernel_rfl) (by kernel_rfl)) (by kernel_rfl) (by kernel_rfl) (by kernel_rfl) (vw os _)) ?_
 intro W base args ds gs before vq fx _ _ uz _;have pb:∀ (j:Nat) t v,Tryz.f10.params[j]? = some t->args[j]? = some v->Value.okWide Tryz.prog W .any base t v:=vq;have uA:=fx;obtain ⟨p,q,uB,uC,rfl,qf,mL⟩:=fx;have jo:DataW.TrodAll enc Tryz.prog W 0 (fun _=>true) true Tryz.f10.params.toList args.toList ds p:=uB;have dB:DataW.TrodVars enc Tryz.prog W (fun _=>true) ["loop.example/equerry/impl.errSys", "loop.example/equerry/impl.errTurn"] gs q:=uC;rw [Tryz.params10] at jo pb;obtain ⟨v0,E0,d0,E1,eT,bz,vm,rfl,rfl,aq,dZ⟩:=trodAll_cons jo;obtain ⟨rfl,rfl,rfl⟩:=trodAll_nil dZ;obtain rfl:args= #[v0]:=by cases args;simp_all
 obtain ⟨a0,vk,pc,rfl⟩:=okWide_slice Tryz.underlying22 (pb 0 22 v0 rfl rfl);have ep:=aq;have uD:∀ x ∈ eT,x.block < W.heap.size:=by obtain ⟨m,hm⟩:=ep;exact DataW.trod_lt m _ _ _ hm
 obtain ⟨z0,w0⟩:∃ eC,vp .u8 W a0 vk pc eC:=by
  obtain ⟨fuel,bb⟩:=aq;rcases open_ints Tryz.underlying22 Tryz.underlying5 (by kernel_rfl) bb with ⟨e4,_⟩ | ⟨x,l,c,eC,e4,_,ak,hm,aX,_,j',uE⟩
  ·simp [Value.cells] at e4
   obtain ⟨rfl,rfl,rfl⟩:=e4;exact ⟨[],.inl ⟨rfl,rfl,rfl,rfl⟩⟩
  ·simp [Value.cells] at e4
   obtain ⟨rfl,rfl,rfl⟩:=e4;exact ⟨eC,.inr ⟨_,rfl,ak,hm,by simpa using aX,j',uE⟩⟩
 obtain ⟨g9,rfl,uF,E2,la,iu⟩:=rv.CL w0
 have ke:laidMet Tryz.prog Rows.fnSysForkRow.laid W:=by
  have h:=uz;rw [MakeChecks.laidMetH_plain _ _ _ (by kernel_rfl)] at h;exact h
 obtain ⟨k7,b1,t0,t1,tv,ej,u0,u1,mr,bG,-,-,-,-,-,-,cm,dE,bZ⟩:=laid_sentinels2 ke iO mo iP mq Tryz.underlying69 vj Tryz.underlying187 Tryz.underlying213 rfl rfl Tryz.underlying9 tY tZ;obtain ⟨rfl,rfl⟩:=dB.unique (vars_read2 enc iO mo Tryz.underlying69 mr trivial iP mq Tryz.underlying69 bG trivial _);have e5:W.cell? ⟨0,0,none⟩=some (.iface 187 (.pointer (some k7))):=by simpa using World.var?_cell iO mr 0
 have fO:W.cell? ⟨1,0,none⟩=some (.iface 187 (.pointer (some b1))):=by simpa using World.var?_cell iP bG 0
 refine (Eq.ace a0 pc g9 W (Kd.By (d:=(0:Int)) (h1:=fun _=>rfl) uF) iu (bytes la) k7 b1 ⟨e5,fO,Ne.symm cm,⟨_,_,dE⟩,⟨_,_,bZ⟩⟩).mono fun e bM ⟨he,kq⟩=> ?_
 subst he;exact ⟨_,rfl,_,_,_, [],_, [.cell 0 0,.cell 1 0],uA,trodAll_mk1 (shut_bool Tryz.underlying4 _),(trodAll_cons_mk (Below.trod laidOut (by kernel_rfl) (of_decide_eq_true (by kernel_rfl)) ep kq uD) trodAll_mk0),vars_read2 enc iO mo Tryz.underlying69 (pk iO mr kq) trivial iP mq Tryz.underlying69 (pk iP bG kq) trivial _,kq.frame _,fun h=>by cases h⟩
theorem bJ {a b:Bool} (ha:a=true) (I:b=true):(a && b)=true:=by rw [ha,I];rfl
theorem bL:(Rows.fnSysForkRow.wf (OpenSpec.ofChange Rows.fnSysForkSpec))=true:=by kernel_rfl
theorem cu:(laidOutB Tryz.pinned.checked.prog)=true:=by kernel_rfl
theorem kx:(mapsRowed Tryz.pinned.checked.prog)=true:=by kernel_rfl
theorem bO:(Tryz.f10.params.all (Tryz.pinned.checked.prog.readableRec ·))=true:=by kernel_rfl
theorem l8:(namedTie Tryz.pinned.checked.prog Rows.fnSysForkRow.named Rows.fnSysForkSpec.vars)=true:=by kernel_rfl
theorem nS:(Rows.fnSysForkRow.stops == [])=true:=by kernel_rfl
theorem q0:(Tryz.pinned.checked.prog.stops == [])=true:=by kernel_rfl
theorem mI:(Rows.fnSysForkRow.knobs == [])=true:=by kernel_rfl
theorem e1:(Tryz.pinned.checked.prog.stopKnobs == [])=true:=by kernel_rfl
theorem dp:(Rows.fnSysForkRow.inPlace == Tryz.pinned.checked.prog.inPlace 10)=true:=by kernel_rfl
theorem dL:(Rows.fnSysForkRow.unfollowed == Tryz.pinned.checked.prog.unfollowed 10)=true:=by kernel_rfl
theorem uG:(Rows.fnSysForkRow.recurses == Tryz.pinned.checked.prog.recurses 10)=true:=by kernel_rfl
theorem uH:(Rows.fnSysForkRow.named == Tryz.pinned.checked.prog.varsNamed 10)=true:=by kernel_rfl
theorem uI:(Rows.fnSysForkRow.maps == (Tryz.f10.params.toList ++ Rows.fnSysForkSpec.plain.varTypes Tryz.pinned.checked.prog).any (Tryz.pinned.checked.prog.mapsRec ·))=true:=by kernel_rfl
theorem uJ:(Rows.fnSysForkRow.ifaces == (Tryz.f10.params.toList ++ Rows.fnSysForkSpec.plain.varTypes Tryz.pinned.checked.prog).any (Tryz.pinned.checked.prog.ifacesRec ·))=true:=by kernel_rfl
theorem uK:(Rows.fnSysForkRow.mapsOut == Tryz.pinned.checked.prog.mapsAmong Tryz.f10.resultTypes.toList)=true:=by kernel_rfl
theorem uL:(Rows.fnSysForkRow.loops == (Tryz.f10.params.toList ++ Rows.fnSysForkSpec.plain.varTypes Tryz.pinned.checked.prog).any (Tryz.pinned.checked.prog.loopsFrom ·))=true:=by kernel_rfl
theorem uM:(Rows.fnSysForkRow.wideKeys == (Tryz.f10.params.toList ++ Rows.fnSysForkSpec.plain.varTypes Tryz.pinned.checked.prog ++ Tryz.f10.resultTypes.toList).any (Tryz.pinned.checked.prog.wideKeysFrom ·))=true:=by kernel_rfl
theorem uN:(Rows.fnSysForkSpec.vars.all (Tryz.pinned.checked.prog.varReadable ·))=true:=by kernel_rfl
theorem uO:(Tryz.f10.resultTypes.all (fun t=>Tryz.pinned.checked.prog.readableRec t && decide (t < Tryz.pinned.checked.prog.types.size)))=true:=by kernel_rfl
theorem uP:(Rows.fnSysForkRow.ifacesOut == Tryz.f10.resultTypes.toList.any (Tryz.pinned.checked.prog.ifacesRec ·))=true:=by kernel_rfl
theorem uQ:(Rows.fnSysForkRow.loopsOut == Tryz.f10.resultTypes.toList.any (Tryz.pinned.checked.prog.loopsFrom ·))=true:=by kernel_rfl
theorem uR:(Rows.fnSysForkRow.plainKeys == Tryz.pinned.checked.prog.plainKeys)=true:=by kernel_rfl
theorem uS:(Rows.fnSysForkRow.shortTexts.isNone)=true:=by kernel_rfl
theorem uT:(Tryz.pinned.checked.prog.stopsHeard)=true:=by kernel_rfl
theorem uU:(Tryz.pinned.checked.prog.mayEnter)=true:=by kernel_rfl
theorem uV:(Rows.fnSysForkRow.lifted == Tryz.pinned.checked.prog.liftsFinal)=true:=by kernel_rfl
theorem uW:(Tryz.pinned.checked.prog.make == some Rows.fnSysForkRow.make)=true:=by kernel_rfl
theorem uX:(Rows.fnSysForkRow.pinned == Rows.fnSysForkRow.pinnedBy)=true:=by kernel_rfl
theorem uY:(Rows.fnSysForkRow.veiled == (Tryz.f10.params.toList ++ Rows.fnSysForkSpec.plain.varTypes Tryz.pinned.checked.prog ++ Tryz.f10.resultTypes.toList).any (Tryz.pinned.checked.prog.veiledRec ·))=true:=by kernel_rfl
theorem uZ:(Rows.fnSysForkRow.veiledFits Tryz.pinned.checked.prog Tryz.f10.params.toList (Tryz.f10.params.toList ++ Rows.fnSysForkSpec.plain.varTypes Tryz.pinned.checked.prog ++ Tryz.f10.resultTypes.toList))=true:=by kernel_rfl
theorem closed:joinedFacts Tryz.pinned.checked.prog 10 Tryz.f10 Rows.fnSysForkSpec Rows.fnSysForkRow=true:=by
 unfold joinedFacts;refine bJ ?_ uZ;refine bJ ?_ uY;refine bJ ?_ uX;refine bJ ?_ (by kernel_rfl);refine bJ ?_ uW;refine bJ ?_ uV;refine bJ ?_ uU;refine bJ ?_ uT;refine bJ ?_ uS;refine bJ ?_ uR;refine bJ ?_ uQ;refine bJ ?_ uP;refine bJ ?_ uO;refine bJ ?_ uN;refine bJ ?_ uM;refine bJ ?_ uL;refine bJ ?_ uK;refine bJ ?_ uJ;refine bJ ?_ uI;refine bJ ?_ uH;refine bJ ?_ uG;refine bJ ?_ dL;refine bJ ?_ dp;refine bJ ?_ e1;refine bJ ?_ mI;refine bJ ?_ q0;refine bJ ?_ nS;refine bJ ?_ l8;refine bJ ?_ bO;refine bJ ?_ kx;refine bJ ?_ cu;exact bL
theorem mu:Tryz.pinned.checked.prog.funcNamed Rows.fnSysForkRow.func=some 10:=by kernel_rfl
theorem over:Rows.fnSysForkRow.holds Tryz.pinned (OpenSpec.ofChange Rows.fnSysForkSpec):=
 OpenClaim.holds_of_wide 10 Tryz.f10 rfl rfl rfl rfl rfl rfl rfl ⟨rfl,rfl,rfl,rfl,rfl⟩ rfl rfl rfl rfl rfl mu Tryz.func10 closed
  (of_decide_eq_true (by kernel_rfl)) (by unfold Func.isWrapper;first|(rw [if_pos (by decide +kernel)];kernel_rfl)|(rw [if_neg (by decide +kernel)];exact ⟨rfl,rfl⟩))
  (fun os started H enc _=>lifted os started H enc)
theorem vl:Rows.FnSysForkCardSaid:=
 Claim7.holds_tied_plain_at .later [] [.sentinel,.sentinel] true Rows.fnSysForkCard.stood.harness true
  over (fun _ h=>by cases h) (by kernel_rfl) (fun _ h=>by cases h) fnSysFork_row_tie rfl ⟨rfl,rfl⟩ (by kernel_rfl) rfl
  (fun f fn bb mu=>by
   obtain rfl:f=10:=Option.some.inj ((show Tryz.prog.funcNamed "loop.example/equerry/laws.FnSysFork" = some 10 by kernel_rfl).symm.trans bb) |>.symm;obtain rfl:fn=Tryz.f10:=(Option.some.inj (Tryz.func10.symm.trans mu)).symm
   exact ⟨by kernel_rfl,fun j t a6=>by
    rw [Tryz.params10] at a6;have hm:t ∈ [22]:=by simpa using Array.mem_of_getElem? a6
    have n5:([22].all fun u=> !Tryz.prog.wantsStandIn u)=true:=by kernel_rfl
    exact (show Tryz.prog.wantsStandIn t=false by simpa using List.all_eq_true.1 n5 t hm)⟩)
  (by kernel_rfl)
end Go.Proofs.YteajdhhmkjblnaaGreatDoor.fnSysFork
namespace Go.Proofs.YteajdhhmkjblnaaGreatDoor
theorem fnSysFork_holds:Rows.FnSysForkCardSaid:=fnSysFork.vl
end Go.Proofs.YteajdhhmkjblnaaGreatDoor
