import Derived.Test.YtclangliilnijaaGreatDoorY3
set_option maxHeartbeats 8000000
set_option maxRecDepth 100000
set_option linter.unusedVariables false
set_option linter.unusedSimpArgs false
namespace Go.Proofs.YtclangliilnijaaGreatDoor.Eq
open Go.RowKit Go.Proofs.YtclangliilnijaaGreatDoorW.PrintWords Go.Proofs.YtclangliilnijaaGreatDoorW.PrintLast Go.Proofs.YtclangliilnijaaGreatDoorW.PrintMore
def changeB (ds:List Deed) (n:Int):Bool:= !decide (n < 0) && !decide (3 < n) && !decide ((5:Int) < ds.length) && deedsOk ds n
theorem chgEF {q:Prop} (h:q:=by
  go_wp2;go_ret;rw [HU.out];exact ⟨rfl,M.out.below⟩):q:=h
theorem changeOk_calls (A:Option Addr) (c:Nat) (ds:List Deed) (n:Int) (w:World) (hd:kDeed.C w A ds.length ds) (hz:ds.length<=1048576):
  Calls Tryz.prog 191 #[.slice A ds.length c,.int .i64 n] w fun e w'=>e= .returned (.bool (changeB ds n))/\Below w.heap.size w w':=by
 have HD:=am hd;obtain ⟨b1,y1⟩:∃ b,decide (n < 0)=b:=⟨_,rfl⟩;obtain ⟨b2,y2⟩:∃ b,decide (3 < n)=b:=⟨_,rfl⟩;obtain ⟨b3,y3⟩:∃ b,decide ((5:Int) < (ds.length:Int))=b:=⟨_,rfl⟩;have HU:Aside0 (changeB ds n=(!b1 && !b2 && !b3 && deedsOk ds n)):=⟨by rw [<-y1,<-y2,<-y3];rfl⟩;have M:=am (Own.nil w);have C:=M.out.cl;clear hd;go_enter Tryz.func191,Tryz.ntmps191;cases b1
 case true=>exact chgEF
 cases b2
 case true=>exact chgEF
 cases b3
 case true=>exact chgEF
 go_wp2_with fail
 go_loopw [6,20] (fun _ j w'=>∃ k:Nat,k<=ds.length/\j= .int .i64 k/\Aside0 (∀ i,i < k->deedOk (deedAt ds i) n=true)/\Aside0 (Own w w' [])) (fun _ j _=>ds.length - (intOf j).toNat)
 case atStart=>exact ⟨0,Nat.zero_le _,rfl,⟨fun i hi=>by omega⟩,M⟩
 case round=>
  obtain ⟨k,hk,rfl,HJ,M2⟩:=hrel;clear M C;have M:=M2;clear M2;have C:=M.out.cl;simp only [Cl] at C;by_cases hlt:k < ds.length
  ·have q0:(0:Int)<=(k:Int):=by omega
   have q1:(k:Int) < (ds.length:Int):=by omega
   obtain ⟨b,o,cs,rfl,hcl,hK,hcc,-⟩:=C_field HD.out zDeed k hlt (by decide);obtain ⟨d,hdx⟩:∃ x,x=deedAt ds k:=⟨_,rfl⟩;rw [show ds.getD k zDeed=d from hdx.symm] at hK;have HKD:=am hK;obtain rfl:=kDeed_open hK;have HC:=am hcc;have HDX:=am hdx;obtain ⟨bx,yx⟩:∃ b,deedOk d n=b:=⟨_,rfl⟩;have YX:=am yx;clear hcl hK hcc hdx yx
   go_upto_if 28 with (first
   |((first|with_reducible refine gB ?_ | with_reducible refine gA ?_);refine oB rfl M.out ?_;clear M C;intro g W M C;simp only [Cl] at C)
   |((with_reducible refine gL ?_);refine oR rfl rfl M.out HC.out ?_)
   |((with_reducible refine gS ?_);refine oS rfl rfl rfl M.out ?_;clear M C;intro W M C;simp only [Cl] at C)
   |((with_reducible refine gL ?_);refine oL rfl rfl M.out ?_)
   |(go_at_call 204;refine oC M.out (partOfDeed_calls d _ _ (kDeed.K_below M.out.below HKD.out)) ?_;clear M C;intro W M C;simp only [Cl] at C)
   |(go_at_call 203;refine oCb M.out (deedOk_calls d n _) YX.out ?_;clear M C;intro W M C;simp only [Cl] at C))
   cases bx
   ·go_wp2
    go_ret;rw [HU.out,show deedsOk ds n=false from allB_no hlt (by rw [<-HDX.out];exact YX.out)];exact ⟨rfl,M.out.below⟩
   ·go_wp2
    go_roundw
    case rel=>exact ⟨k+1,by omega,by go_num,⟨fun i hi=>by rcases Nat.lt_or_ge i k with h | h;exact HJ.out i h;obtain rfl:i=k:=(by omega);rw [<-HDX.out];exact YX.out⟩,⟨M.out.pop⟩⟩
    case measure=>simp [intOf];omega
  ·obtain rfl:k=ds.length:=by omega
   have q1:¬ (ds.length:Int) < (ds.length:Int):=by omega
   go_wp2;go_ret;rw [HU.out,show deedsOk ds n=true from allB_iff.2 HJ.out];exact ⟨rfl,M.out.below⟩
def partA (a:Act) (vd vk:Value):Value:=
 if a.kind=1 then (if ((a.kids.length:Int) == 0) && (a.reg == 0) then .iface 226 (.agg #[vd]) else .nilIface)
 else if a.kind=2 then (if ((a.deeds.length:Int) == 0) && (a.reg == 0) then .iface 229 (.agg #[vk]) else .nilIface)
 else if a.kind=3 then (if ((a.deeds.length:Int) == 0) && ((a.kids.length:Int) == 0) && (a.reg == 0) then .iface 231 (.agg #[]) else .nilIface)
 else if a.kind=4 then (if ((a.deeds.length:Int) == 0) && ((a.kids.length:Int) == 0) then .iface 233 (.agg #[.int .i64 a.reg]) else .nilIface)
 else .nilIface
theorem paF {q:Prop} (h:q:=by
  go_wp2;go_ret;rw [HU.out];exact ⟨rfl,M.out.below⟩):q:=h
theorem partOfAct_calls (a:Act) (Ad:Option Addr) (cd:Nat) (Ak:Option Addr) (ck:Nat) (w:World):
  Calls Tryz.prog 165 #[.agg #[.int .i64 a.kind,.slice Ad a.deeds.length cd,.slice Ak a.kids.length ck,.int .i64 a.reg]] w fun e w'=>e= .returned (partA a (.slice Ad a.deeds.length cd) (.slice Ak a.kids.length ck))/\Below w.heap.size w w':=by
 have M:=am (Own.nil w);have C:=M.out.cl;obtain ⟨nd,yd⟩:∃ b,((a.deeds.length:Int) == 0)=b:=⟨_,rfl⟩;obtain ⟨nk,yk⟩:∃ b,((a.kids.length:Int) == 0)=b:=⟨_,rfl⟩;obtain ⟨nr,yr⟩:∃ b,(a.reg == 0)=b:=⟨_,rfl⟩;have YS:=am (And.intro yd (And.intro yk yr));go_enter Tryz.func165,Tryz.ntmps165
 go_wp2_with (first
 |((first|with_reducible refine gB ?_ | with_reducible refine gA ?_);refine oB rfl M.out ?_;clear M C;intro g W M C;simp only [Cl] at C))
 refine dS M.out ?_;clear M C;intro W M;refine dN [0,1,2,3,4,5,6,7,8,9,10,11,12,13] M.out ?_;iterate 14 (first|refine sP rfl ?_ | refine sG rfl ?_ | refine sU rfl ?_)
 refine stillS_nil ?_;refine dD ?_;have C:=M.out.cl;simp only [Cl] at C;by_cases h1:a.kind=1
 ·have y1:(a.kind == 1)=true:=by simp [h1]
  have y2:(a.kind == 2)=false:=by simp [h1]
  have y3:(a.kind == 3)=false:=by simp [h1]
  have y4:(a.kind == 4)=false:=by simp [h1]
  have HU:=am (show partA a (.slice Ad a.deeds.length cd) (.slice Ak a.kids.length ck)=_ from by unfold partA;rw [if_pos h1,YS.out.2.1,YS.out.2.2]);cases nk;exact paF;cases nr;exact paF;exact paF
 have y1:(a.kind == 1)=false:=by simpa using h1
 by_cases h2:a.kind=2
 ·have y2:(a.kind == 2)=true:=by simp [h2]
  have y3:(a.kind == 3)=false:=by simp [h2]
  have y4:(a.kind == 4)=false:=by simp [h2]
  have HU:=am (show partA a (.slice Ad a.deeds.length cd) (.slice Ak a.kids.length ck)=_ from by unfold partA;rw [if_neg h1,if_pos h2,YS.out.1,YS.out.2.2]);cases nd;exact paF;cases nr;exact paF;exact paF
 have y2:(a.kind == 2)=false:=by simpa using h2
 by_cases h3:a.kind=3
 ·have y3:(a.kind == 3)=true:=by simp [h3]
  have y4:(a.kind == 4)=false:=by simp [h3]
  have HU:=am (show partA a (.slice Ad a.deeds.length cd) (.slice Ak a.kids.length ck)=_ from by unfold partA;rw [if_neg h1,if_neg h2,if_pos h3,YS.out.1,YS.out.2.1,YS.out.2.2]);cases nd;exact paF;cases nk;exact paF;cases nr;exact paF;exact paF
 have y3:(a.kind == 3)=false:=by simpa using h3
 by_cases h4:a.kind=4
 ·have y4:(a.kind == 4)=true:=by simp [h4]
  have HU:=am (show partA a (.slice Ad a.deeds.length cd) (.slice Ak a.kids.length ck)=_ from by unfold partA;rw [if_neg h1,if_neg h2,if_neg h3,if_pos h4,YS.out.1,YS.out.2.1]);cases nd;exact paF;cases nk;exact paF;exact paF
 have y4:(a.kind == 4)=false:=by simpa using h4
 have HU:Aside0 (partA a (.slice Ad a.deeds.length cd) (.slice Ak a.kids.length ck)=_):=⟨by unfold partA;rw [if_neg h1,if_neg h2,if_neg h3,if_neg h4]⟩;exact paF
theorem actNF {q:Prop} (h:q:=by
  go_enter Tryz.func164,Tryz.ntmps164;go_wp2;go_ret;rw [HU.out];exact ⟨rfl,M.out.below⟩):q:=h
theorem actOk_calls (a:Act) (Ad:Option Addr) (cd:Nat) (Ak:Option Addr) (ck:Nat) (n body bodies:Int) (w:World) (hd:kDeed.C w Ad a.deeds.length a.deeds) (hk:(Kd.int .i64).C w Ak a.kids.length a.kids) (hz:a.deeds.length<=1048576/\a.kids.length<=1048576) (hn:0<=n/\n<=3):
  Calls Tryz.prog 164 #[partA a (.slice Ad a.deeds.length cd) (.slice Ak a.kids.length ck),.int .i64 n,.int .i64 body,.int .i64 bodies] w fun e w'=>e= .returned (.bool (actOk n bodies body a))/\Below w.heap.size w w':=by
 have HD:=am hd;have HK:=am hk;have HZ:=am hz;have M:=am (Own.nil w);have C:=M.out.cl;have a_tryAct:=ta_run (P:=Tryz.prog) 226 207 (.agg #[.slice none 0 0]) (by kernel_rfl) (by kernel_rfl);have a_forkAct:=ta_run (P:=Tryz.prog) 229 207 (.agg #[.slice none 0 0]) (by kernel_rfl) (by kernel_rfl);have a_failAct:=ta_run (P:=Tryz.prog) 231 207 (.agg #[]) (by kernel_rfl) (by kernel_rfl);have a_failIfAct:=ta_run (P:=Tryz.prog) 233 207 (.agg #[.int .i64 0]) (by kernel_rfl) (by kernel_rfl);clear hd hk hz;by_cases h1:a.kind=1
 ·have y1:(a.kind == 1)=true:=by simp [h1]
  by_cases k0:a.kids= []
  ·have yk:((a.kids.length:Int) == 0)=true:=by simp [k0]
   by_cases r0:a.reg=0
   ·have yr:(a.reg == 0)=true:=by simp [r0]
    rw [show partA a (.slice Ad a.deeds.length cd) (.slice Ak a.kids.length ck)= .iface 226 (.agg #[.slice Ad a.deeds.length cd]) from by unfold partA;rw [if_pos h1,yk,yr];try rfl];have HU:Aside0 (actOk n bodies body a=changeB a.deeds n):=⟨by unfold actOk changeB;rw [if_neg (by simp [h1,k0,r0]),if_pos h1,decide_eq_false (show ¬ n < 0 by omega),decide_eq_false (show ¬ 3 < n by omega),show decide ((5:Int) < (a.deeds.length:Int))= !decide (a.deeds.length<=5) from by rw [Bool.eq_iff_iff];simp;omega];cases decide (a.deeds.length<=5) <;> simp⟩;clear h1 k0 r0;go_enter Tryz.func164,Tryz.ntmps164
    go_wp2_with (first
    |((first|with_reducible refine gB ?_ | with_reducible refine gA ?_);refine oB rfl M.out ?_;clear M C;intro g W M C;simp only [Cl] at C)
    |((with_reducible refine gS ?_);refine oS rfl rfl rfl M.out ?_;clear M C;intro W M C;simp only [Cl] at C)
    |(go_at_call 191;refine oCb M.out (changeOk_calls _ _ _ n _ (Kd.C_below HD.out M.out.below) HZ.out.1) rfl ?_;clear M C;intro W M C;simp only [Cl] at C))
    go_ret;rw [HU.out];exact ⟨rfl,M.out.below⟩
   ·have yr:(a.reg == 0)=false:=by simpa using r0
    rw [show partA a (.slice Ad a.deeds.length cd) (.slice Ak a.kids.length ck)= .nilIface from by unfold partA;rw [if_pos h1,yk,yr];try rfl];have HU:Aside0 (actOk n bodies body a=false):=⟨by unfold actOk;simp [h1,r0]⟩;exact actNF
  ·have yk:((a.kids.length:Int) == 0)=false:=by simpa using k0
   rw [show partA a (.slice Ad a.deeds.length cd) (.slice Ak a.kids.length ck)= .nilIface from by unfold partA;rw [if_pos h1,yk,Bool.false_and];try rfl];have HU:Aside0 (actOk n bodies body a=false):=⟨by unfold actOk;simp [h1,k0]⟩;exact actNF
 by_cases h2:a.kind=2
 ·have y1:(a.kind == 1)=false:=by simpa using h1
  have y2:(a.kind == 2)=true:=by simp [h2]
  by_cases d0:a.deeds= []
  ·have yd:((a.deeds.length:Int) == 0)=true:=by simp [d0]
   by_cases r0:a.reg=0
   ·have yr:(a.reg == 0)=true:=by simp [r0]
    rw [show partA a (.slice Ad a.deeds.length cd) (.slice Ak a.kids.length ck)= .iface 229 (.agg #[.slice Ak a.kids.length ck]) from by unfold partA;rw [if_neg h1,if_pos h2,yd,yr];try rfl];have HU:Aside0 (actOk n bodies body a=kidsOk a.kids body bodies):=⟨by unfold actOk;rw [if_neg (by simp [h2,d0,r0]),if_neg (by simp [h2]),if_pos h2]⟩;clear h1 h2 d0 r0 yd yr y1 y2;go_enter Tryz.func164,Tryz.ntmps164
    go_wp2_with (first
    |((first|with_reducible refine gB ?_ | with_reducible refine gA ?_);refine oB rfl M.out ?_;clear M C;intro g W M C;simp only [Cl] at C)
    |((with_reducible refine gS ?_);refine oS rfl rfl rfl M.out ?_;clear M C;intro W M C;simp only [Cl] at C))
    obtain ⟨L,EL,ML⟩:=Own.named M;go_loopw [12,29] (fun _ j w'=>∃ k:Nat,k<=a.kids.length/\j= .int .i64 k/\Aside0 (∀ i,i < k->inB (numAt a.kids i) (body+1) (bodies - 1)=true)/\Aside0 (Own w w' L)) (fun _ j _=>a.kids.length - (intOf j).toNat)
    case atStart=>exact ⟨0,Nat.zero_le _,rfl,⟨fun i hi=>by omega⟩,ML⟩
    obtain ⟨k,hk,rfl,HJ,M2⟩:=hrel;have eL:=EL.out;subst eL;clear M C ML EL;have M:=M2;clear M2;have C:=M.out.cl;simp only [Cl] at C;by_cases hlt:k < a.kids.length
    ·have q0:(0:Int)<=(k:Int):=by omega
     have q1:(k:Int) < (a.kids.length:Int):=by omega
     have q2:=HZ.out.2;obtain ⟨ad,ed,hx⟩:=Kd.at_int HK.out (k:Int) q0 q1;cases ed;simp only [Int.toNat_natCast] at hx;obtain ⟨x,hxx⟩:∃ x,x=numAt a.kids k:=⟨_,rfl⟩;rw [show rd a.kids (k:Int)=x by rw [hxx];rfl] at hx;replace M:=am (M.out.far hx);clear C;have C:=M.out.cl;simp only [Cl] at C;have HXX:=am hxx;obtain ⟨b1,z1⟩:∃ b,decide (x<=body)=b:=⟨_,rfl⟩;obtain ⟨b2,z2⟩:∃ b,decide (bodies<=x)=b:=⟨_,rfl⟩;have HI:Aside0 (inB x (body+1) (bodies - 1)=(!b1 && !b2)):=⟨by rw [<-z1,<-z2,Bool.eq_iff_iff,inB_iff];simp;omega⟩;clear hx hxx;cases b1
     ·cases b2
      ·go_wp2
       go_roundw
       case rel=>exact ⟨k+1,by omega,by go_num,⟨fun i hi=>by rcases Nat.lt_or_ge i k with h | h;exact HJ.out i h;obtain rfl:i=k:=(by omega);rw [<-HXX.out,HI.out];rfl⟩,⟨M.out.pop⟩⟩
       case measure=>simp [intOf];omega
      ·go_wp2
       go_ret;rw [HU.out,show kidsOk a.kids body bodies=false from by unfold kidsOk;rw [allB_no hlt (by rw [<-HXX.out,HI.out];rfl)];rfl];exact ⟨rfl,M.out.below⟩
     ·go_wp2
      go_ret;rw [HU.out,show kidsOk a.kids body bodies=false from by unfold kidsOk;rw [allB_no hlt (by rw [<-HXX.out,HI.out];rfl)];rfl];exact ⟨rfl,M.out.below⟩
    ·obtain rfl:k=a.kids.length:=by omega
     have q1:¬ (a.kids.length:Int) < (a.kids.length:Int):=by omega
     have HV:=am (show kidsOk a.kids body bodies=inB a.kids.length 1 2 from by unfold kidsOk;rw [allB_iff.2 HJ.out];rfl);obtain ⟨b1,z1⟩:∃ b,decide ((1:Int)<=(a.kids.length:Int))=b:=⟨_,rfl⟩;have HV2:Aside0 (inB a.kids.length 1 2=(b1 && decide ((a.kids.length:Int)<=2))):=⟨by rw [<-z1];rfl⟩;cases b1
     all_goals go_wp2
     all_goals go_ret
     all_goals rw [HU.out,HV.out,HV2.out]
     all_goals exact ⟨rfl,M.out.below⟩
   ·have yr:(a.reg == 0)=false:=by simpa using r0
    rw [show partA a (.slice Ad a.deeds.length cd) (.slice Ak a.kids.length ck)= .nilIface from by unfold partA;rw [if_neg h1,if_pos h2,yd,yr];try rfl];have HU:Aside0 (actOk n bodies body a=false):=⟨by unfold actOk;simp [h2,r0]⟩;exact actNF
  ·have yd:((a.deeds.length:Int) == 0)=false:=by simpa using d0
   rw [show partA a (.slice Ad a.deeds.length cd) (.slice Ak a.kids.length ck)= .nilIface from by unfold partA;rw [if_neg h1,if_pos h2,yd,Bool.false_and];try rfl];have HU:Aside0 (actOk n bodies body a=false):=⟨by unfold actOk;simp [h2,d0]⟩;exact actNF
 by_cases h3:a.kind=3
 ·by_cases d0:a.deeds= []
  ·have yd:((a.deeds.length:Int) == 0)=true:=by simp [d0]
   by_cases k0:a.kids= []
   ·have yk:((a.kids.length:Int) == 0)=true:=by simp [k0]
    by_cases r0:a.reg=0
    ·have yr:(a.reg == 0)=true:=by simp [r0]
     rw [show partA a (.slice Ad a.deeds.length cd) (.slice Ak a.kids.length ck)= .iface 231 (.agg #[]) from by unfold partA;rw [if_neg h1,if_neg h2,if_pos h3,yd,yk,yr];try rfl];have HU:Aside0 (actOk n bodies body a=true):=⟨by unfold actOk;simp [h3,d0,k0,r0]⟩;go_enter Tryz.func164,Tryz.ntmps164
     go_wp2_with (first
     |((first|with_reducible refine gB ?_ | with_reducible refine gA ?_);refine oB rfl M.out ?_;clear M C;intro g W M C;simp only [Cl] at C)
     |((with_reducible refine gS ?_);refine oS rfl rfl rfl M.out ?_;clear M C;intro W M C;simp only [Cl] at C))
     go_ret;rw [HU.out];exact ⟨rfl,M.out.below⟩
    ·have yr:(a.reg == 0)=false:=by simpa using r0
     rw [show partA a (.slice Ad a.deeds.length cd) (.slice Ak a.kids.length ck)= .nilIface from by unfold partA;rw [if_neg h1,if_neg h2,if_pos h3,yd,yk,yr];try rfl];have HU:Aside0 (actOk n bodies body a=false):=⟨by unfold actOk;simp [h3,r0]⟩;exact actNF
   ·have yk:((a.kids.length:Int) == 0)=false:=by simpa using k0
    rw [show partA a (.slice Ad a.deeds.length cd) (.slice Ak a.kids.length ck)= .nilIface from by unfold partA;rw [if_neg h1,if_neg h2,if_pos h3,yd,yk,Bool.and_false,Bool.false_and];try rfl];have HU:Aside0 (actOk n bodies body a=false):=⟨by unfold actOk;simp [h3,k0]⟩;exact actNF
  ·have yd:((a.deeds.length:Int) == 0)=false:=by simpa using d0
   rw [show partA a (.slice Ad a.deeds.length cd) (.slice Ak a.kids.length ck)= .nilIface from by unfold partA;rw [if_neg h1,if_neg h2,if_pos h3,yd,Bool.false_and,Bool.false_and];try rfl];have HU:Aside0 (actOk n bodies body a=false):=⟨by unfold actOk;simp [h3,d0]⟩;exact actNF
 by_cases h4:a.kind=4
 ·by_cases d0:a.deeds= []
  ·have yd:((a.deeds.length:Int) == 0)=true:=by simp [d0]
   by_cases k0:a.kids= []
   ·have yk:((a.kids.length:Int) == 0)=true:=by simp [k0]
    rw [show partA a (.slice Ad a.deeds.length cd) (.slice Ak a.kids.length ck)= .iface 233 (.agg #[.int .i64 a.reg]) from by unfold partA;rw [if_neg h1,if_neg h2,if_neg h3,if_pos h4,yd,yk];try rfl];have HU:Aside0 (actOk n bodies body a=(decide (0<=a.reg) && decide (a.reg < 3))):=⟨by rw [inB_reg];unfold actOk;simp [h4,d0,k0]⟩;go_enter Tryz.func164,Tryz.ntmps164
    go_wp2_with (first
    |((first|with_reducible refine gB ?_ | with_reducible refine gA ?_);refine oB rfl M.out ?_;clear M C;intro g W M C;simp only [Cl] at C)
    |((with_reducible refine gS ?_);refine oS rfl rfl rfl M.out ?_;clear M C;intro W M C;simp only [Cl] at C)
    |(go_at_call 192;refine oEb (isReg_calls _ _) rfl ?_))
    go_ret;rw [HU.out];exact ⟨rfl,M.out.below⟩
   ·have yk:((a.kids.length:Int) == 0)=false:=by simpa using k0
    rw [show partA a (.slice Ad a.deeds.length cd) (.slice Ak a.kids.length ck)= .nilIface from by unfold partA;rw [if_neg h1,if_neg h2,if_neg h3,if_pos h4,yd,yk];try rfl];have HU:Aside0 (actOk n bodies body a=false):=⟨by unfold actOk;simp [h4,k0]⟩;exact actNF
  ·have yd:((a.deeds.length:Int) == 0)=false:=by simpa using d0
   rw [show partA a (.slice Ad a.deeds.length cd) (.slice Ak a.kids.length ck)= .nilIface from by unfold partA;rw [if_neg h1,if_neg h2,if_neg h3,if_pos h4,yd,Bool.false_and];try rfl];have HU:Aside0 (actOk n bodies body a=false):=⟨by unfold actOk;simp [h4,d0]⟩;exact actNF
 rw [show partA a (.slice Ad a.deeds.length cd) (.slice Ak a.kids.length ck)= .nilIface from by unfold partA;rw [if_neg h1,if_neg h2,if_neg h3,if_neg h4]];have HU:Aside0 (actOk n bodies body a=false):=⟨by unfold actOk;simp [h1,h2,h3,h4]⟩;exact actNF
theorem treeOf_calls (p:Prog) (pcs:List Value) (hf:formOk p=true):∀ (n:Nat) (b:Int) (w:World),kProg.K w p pcs->0<=b->b < p.bodies.length->(p.bodies.length:Int) - b<=n->
  Calls Tryz.prog 166 #[.agg pcs.toArray,.int .i64 b] w fun e w'=>e= .returned (.int .i64 (treeOf p b))/\Below w.heap.size w w':=by
 intro n
 induction n with
 | zero=>intro b w _ h0 h1 hn;omega
 | succ n ih=>
 intro b w hp h0 h1 hn;have IH:=am ih;clear ih;obtain ⟨kb,rfl⟩:=Int.eq_ofNat_of_zero_le h0;have hkb:kb < p.bodies.length:=by omega
 have HAC:Aside0 (∀ k,sumL (fun a:Act=>sumL (treeOf p) a.kids) ((actsAt p.bodies kb).take k)<=37448):=⟨fun k=>acc_le hf h0 h1 k⟩;have HTR:Aside0 (treeOf p (kb:Int)=1+sumL (fun a:Act=>sumL (treeOf p) a.kids) (actsAt p.bodies kb)):=⟨treeOf_eq hf h0 h1⟩;have HPK:=am hp;have HF:=am hf;have hb4:=(form_cells hf).2.2;have ha4:(actsAt p.bodies kb).length<=4:=form_acts hf ⟨h0,h1⟩;obtain ⟨Ac,cc,Ab,cb,rfl,-,-,-,gb⟩:=kProg_open hp;have GB:=am gb;obtain ⟨bb,ob,cs2,rfl,hcl2,hK2,hcc2,-⟩:=C_field GB.out ([]:List Act) kb hkb (by decide);obtain ⟨Aa,ca,rfl,la,ga2⟩:=hK2;have p2:=hcc2 0 _ rfl;simp only [show (Kd.slice 68 kAct).sz=1 from rfl,Nat.mul_one,Nat.add_zero] at p2;have GA2:=am (show kAct.C w Aa (actsAt p.bodies kb).length (actsAt p.bodies kb) from ga2);rw [show (p.bodies.getD kb []).length=(actsAt p.bodies kb).length from rfl] at p2;clear hcl2 hcc2 la ga2;have q0:(0:Int)<=(kb:Int):=by omega
 have q1:(kb:Int) < (p.bodies.length:Int):=by omega
 have M:=am (Own.nil w);have C:=M.out.cl;replace M:=am (M.out.far p2);clear C;have C:=M.out.cl;simp only [Cl] at C;clear hp hf gb p2 h0 h1;go_enter Tryz.func166,Tryz.ntmps166
 go_wp2_with (first
 |((first|with_reducible refine gB ?_ | with_reducible refine gA ?_);refine oB rfl M.out ?_;clear M C;intro g W M C;simp only [Cl] at C))
 obtain ⟨L,EL,ML⟩:=Own.named M;go_loopw [5,16] (fun v j w'=>∃ k:Nat,k<=(actsAt p.bodies kb).length/\j= .int .i64 k/\v= .int .i64 (1+sumL (fun a:Act=>sumL (treeOf p) a.kids) ((actsAt p.bodies kb).take k):Nat)/\Aside0 (Own w w' L)) (fun _ j _=>(actsAt p.bodies kb).length - (intOf j).toNat)
 case atStart=>exact ⟨0,Nat.zero_le _,rfl,by simp [sumL],ML⟩
 case round=>
  obtain ⟨k,hk,rfl,rfl,M2⟩:=hrel;have e_:=EL.out;subst e_;clear M C ML EL;have M:=M2;clear M2;have C:=M.out.cl;simp only [Cl] at C;obtain ⟨acc,hacc⟩:∃ x:Nat,x=(1+sumL (fun a:Act=>sumL (treeOf p) a.kids) ((actsAt p.bodies kb).take k):Nat):=⟨_,rfl⟩;have hacl:acc<=37449:=by have:=HAC.out k;omega
  simp only [<-hacc];have HACC:=am hacc;clear hacc;by_cases hlt:k < (actsAt p.bodies kb).length
  ·have KB0:=HF.out
   obtain ⟨ba,oa,cs3,rfl,hcl3,hK3,hcc3,-⟩:=C_field GA2.out zAct k hlt (by decide);obtain ⟨a,hax⟩:∃ x,x=actAt (actsAt p.bodies kb) k:=⟨_,rfl⟩;rw [show (actsAt p.bodies kb).getD k zAct=a from hax.symm] at hK3
   have hmem:a ∈ actsAt p.bodies kb:=by
    rw [hax,show actAt (actsAt p.bodies kb) k=(actsAt p.bodies kb)[k] by simp [actAt,hlt]];exact List.getElem_mem hlt
   have AX:=am hax;obtain ⟨Ad,cd,Ak,ck,rfl,-,gd,-,gk⟩:=kAct_open hK3;have HKS:=am gk;have HDS:=am gd;have HC:=am hcc3;have r0:(0:Int)<=(k:Int):=by omega
   have r1:(k:Int) < ((actsAt p.bodies kb).length:Int):=by omega
   clear hcl3 hK3 hcc3 hax gk gd;have KB:=am (kid_behind HF.out (b:=(kb:Int)) ⟨q0,q1⟩ hmem);have KL:Aside0 (∀ m,sumL (treeOf p) (a.kids.take m)<=9362):=⟨fun m=>kid_le HF.out (b:=(kb:Int)) q0 q1 hmem m⟩;have hk2:a.kids.length<=2:=KB.out.1;clear KB0 hmem
   go_wp2_with (first
   |((first|with_reducible refine gB ?_ | with_reducible refine gA ?_);refine oB rfl M.out ?_;clear M C;intro g W M C;simp only [Cl] at C)
   |((with_reducible refine gL ?_);refine oR rfl rfl M.out HC.out ?_)
   |((with_reducible refine gS ?_);refine oS rfl rfl rfl M.out ?_;clear M C;intro W M C;simp only [Cl] at C))
   obtain ⟨L,EL,ML⟩:=Own.named M;go_loopw [5,23] (fun v j w'=>∃ m:Nat,m<=a.kids.length/\j= .int .i64 m/\v= .int .i64 ((acc+sumL (treeOf p) (a.kids.take m):Nat):Int)/\Aside0 (Own w w' L)) (fun _ j _=>a.kids.length - (intOf j).toNat)
   case atStart=>exact ⟨0,Nat.zero_le _,rfl,by simp [sumL],ML⟩
   case round=>
    obtain ⟨m,hm,rfl,rfl,M2⟩:=hrel;have e_:=EL.out;subst e_;clear M C ML EL;have M:=M2;clear M2;have C:=M.out.cl;simp only [Cl] at C;obtain ⟨ac2,hac2⟩:∃ x:Nat,x=acc+sumL (treeOf p) (a.kids.take m):=⟨_,rfl⟩;have hac2l:ac2<=50000:=by have:=KL.out m;omega
    simp only [<-hac2];have HAC2:=am hac2;clear hac2;by_cases hlt2:m < a.kids.length
    ·have s0:(0:Int)<=(m:Int):=by omega
     have s1:(m:Int) < (a.kids.length:Int):=by omega
     obtain ⟨kid,hkid⟩:∃ x,x=numAt a.kids m:=⟨_,rfl⟩;have hkr:=KB.out.2 kid (by rw [hkid,show numAt a.kids m=a.kids[m] by simp [numAt,hlt2]];exact List.getElem_mem hlt2);have KR:=am hkr;obtain ⟨tk0,htk⟩:∃ x,x=treeOf p kid:=⟨_,rfl⟩;have htl:tk0<=4681:=by rw [htk];exact treeOf_le HF.out (by omega) hkr.2
     have HTK:=am htk.symm;have HKD:=am hkid;obtain ⟨ad,had,gx⟩:=Kd.at_int HKS.out (m:Int) s0 s1;subst had;simp only [Int.toNat_natCast] at gx;rw [show rd a.kids (m:Int)=kid from hkid.symm] at gx;replace M:=am (M.out.far gx);clear C;have C:=M.out.cl;simp only [Cl] at C;clear hkid htk hkr gx
     go_wp2_with (first
     |((with_reducible refine gL ?_);refine oL rfl rfl M.out ?_)
     |(go_at_call 166;refine oC M.out (IH.out kid _ (kProg.K_below M.out.below HPK.out) (by have:=KR.out;omega) KR.out.2 (by have:=KR.out;omega)) ?_;rw [HTK.out];clear M C;intro W M C;simp only [Cl] at C))
     go_roundw
     case rel=>exact ⟨m+1,by omega,by go_num,by rw [show ((acc+sumL (treeOf p) (a.kids.take (m+1)):Nat):Int)=(ac2:Int)+(tk0:Int) by rw [sumL_take (treeOf p) 0 a.kids hlt2,show a.kids.getD m 0=kid from HKD.out.symm,HTK.out,HAC2.out];omega],⟨M.out.pop⟩⟩
     case measure=>simp [intOf];omega
    ·obtain rfl:m=a.kids.length:=by omega
     have hfin:ac2=(1+sumL (fun a:Act=>sumL (treeOf p) a.kids) ((actsAt p.bodies kb).take (k+1)):Nat):=by
      rw [HAC2.out,List.take_length,HACC.out,sumL_take (fun a:Act=>sumL (treeOf p) a.kids) zAct (actsAt p.bodies kb) hlt,show (actsAt p.bodies kb).getD k zAct=a from AX.out.symm];omega
     have HFIN:=am hfin;clear hfin;have s1:¬ (a.kids.length:Int) < (a.kids.length:Int):=by omega
     go_wp2;go_roundw
     case rel=>exact ⟨k+1,by omega,by go_num,by rw [HFIN.out],⟨M.out.pop⟩⟩
     case measure=>simp [intOf];omega
  ·obtain rfl:k=(actsAt p.bodies kb).length:=by omega
   have s1:¬ ((actsAt p.bodies kb).length:Int) < ((actsAt p.bodies kb).length:Int):=by omega
   have hfin:acc=treeOf p (kb:Int):=by rw [HACC.out,HTR.out,List.take_length]
   go_wp2;go_ret;rw [<-hfin];exact ⟨rfl,M.out.below⟩
theorem poEF {q:Prop} (h:q:=by
  go_wp2_with (go_at_call 163;refine oEb (allNums_calls _ _ _ _ (Kd.C_below GC.out M.out.below) HZ.out.cells) Y2.out ?_)
  go_ret;rw [HU.out];exact ⟨by simp,M.out.below⟩):q:=h
theorem iprogOk_calls (p:Prog) (ps:List Value) (w:World) (hp:kProg.K w p ps) (hz:ProgSz p):
  Calls Tryz.prog 125 #[.agg ps.toArray] w fun e w'=>e= .returned (.bool (progOk p))/\Below w.heap.size w w':=by
 have HPK:=am hp;have HZ:=am hz;obtain ⟨Ac,cc,Ab,cb,rfl,-,gc,-,gb⟩:=kProg_open hp;have GC:=am gc;have GB:=am gb;have M:=am (Own.nil w);have C:=M.out.cl;obtain ⟨b1,y1⟩:∃ b,decide ((3:Int) < (p.cells.length:Int))=b:=⟨_,rfl⟩;obtain ⟨b2,y2⟩:∃ b,numsB p.cells=b:=⟨_,rfl⟩;obtain ⟨b3,y3⟩:∃ b,decide ((p.bodies.length:Int) < 1)=b:=⟨_,rfl⟩;obtain ⟨b4,y4⟩:∃ b,decide ((4:Int) < (p.bodies.length:Int))=b:=⟨_,rfl⟩
 have HU:Aside0 (progOk p=(!b1 && b2 && !b3 && !b4 && (allB p.bodies.length fun i=>bodyOk p.cells.length p.bodies.length i (actsAt p.bodies i)) && decide (treeOf p 0<=7))):=⟨by
  rw [<-y1,<-y2,<-y3,<-y4,show decide ((3:Int) < (p.cells.length:Int))= !decide (p.cells.length<=3) from by rw [Bool.eq_iff_iff];simp <;> omega];rw [show (!decide ((p.bodies.length:Int) < 1))=decide (1<=(p.bodies.length:Int)) from by rw [Bool.eq_iff_iff];simp <;> omega,show (!decide ((4:Int) < (p.bodies.length:Int)))=decide ((p.bodies.length:Int)<=4) from by rw [Bool.eq_iff_iff];simp];unfold progOk formOk numsB inB;cases decide (p.cells.length<=3) <;> cases decide (1<=(p.bodies.length:Int)) <;> cases decide ((p.bodies.length:Int)<=4) <;> simp⟩
 have Y1:=am y1;have Y2:=am y2;have Y3:=am y3;have Y4:=am y4;clear hp gc gb y2;go_enter Tryz.func125,Tryz.ntmps125
 go_upto_region 1 with (first
 |((first|with_reducible refine gB ?_ | with_reducible refine gA ?_);refine oB rfl M.out ?_;clear M C;intro g W M C;simp only [Cl] at C))
 cases b1
 case true=>exact poEF
 cases b2
 case false=>exact poEF
 cases b3
 case true=>exact poEF
 cases b4
 case true=>exact poEF
 have hc3:p.cells.length<=3:=by have:=of_decide_eq_false Y1.out;omega
 have hb4:p.bodies.length<=4:=by have:=of_decide_eq_false Y4.out;omega
 have hb1:1<=p.bodies.length:=by have:=of_decide_eq_false Y3.out;omega
 go_wp2_with (first
 |(go_at_call 163;refine oEb (allNums_calls _ _ _ _ (Kd.C_below GC.out M.out.below) HZ.out.cells) Y2.out ?_))
 obtain ⟨L,EL,ML⟩:=Own.named M;go_loopw [3,4,30] (fun _ _ j w'=>∃ kb:Nat,kb<=p.bodies.length/\j= .int .i64 kb/\Aside0 (∀ i,i < kb->bodyOk p.cells.length p.bodies.length i (actsAt p.bodies i)=true)/\Aside0 (Own w w' L)) (fun _ _ j _=>p.bodies.length - (intOf j).toNat)
 case atStart=>exact ⟨0,Nat.zero_le _,rfl,⟨fun i hi=>by omega⟩,ML⟩
 case round=>
  obtain ⟨kb,hkb0,rfl,HJ,M2⟩:=hrel;have e_:=EL.out;subst e_;clear M C ML EL;have M:=M2;clear M2;have C:=M.out.cl;simp only [Cl] at C;by_cases hkb:kb < p.bodies.length
  ·have q0:(0:Int)<=(kb:Int):=by omega
   have q1:(kb:Int) < (p.bodies.length:Int):=by omega
   have hz2:=HZ.out.acts _ (List.getElem_mem hkb);rw [<-actsAt_eq hkb] at hz2;have HZ2:=am hz2.2;have hz3:=hz2.1;clear hz2;obtain ⟨bb,ob,cs2,rfl,hcl2,hK2,hcc2,-⟩:=C_field GB.out ([]:List Act) kb hkb (by decide);obtain ⟨Aa,ca,rfl,la,ga2⟩:=hK2;have p2:=hcc2 0 _ rfl;simp only [show (Kd.slice 68 kAct).sz=1 from rfl,Nat.mul_one,Nat.add_zero] at p2;have GA2:=am (show kAct.C w Aa (actsAt p.bodies kb).length (actsAt p.bodies kb) from ga2);rw [show (p.bodies.getD kb []).length=(actsAt p.bodies kb).length from rfl] at p2;clear hcl2 hcc2 la ga2;replace M:=am (M.out.far p2);clear C p2;have C:=M.out.cl;simp only [Cl] at C;obtain ⟨b5,y5⟩:∃ b,decide ((4:Int) < ((actsAt p.bodies kb).length:Int))=b:=⟨_,rfl⟩;have HB5:Aside0 (decide ((actsAt p.bodies kb).length<=4)= !b5):=⟨by rw [<-y5,Bool.eq_iff_iff];simp;omega⟩;cases b5;rotate_left
   ·go_wp2
    go_ret;rw [HU.out,show (allB p.bodies.length fun i=>bodyOk p.cells.length p.bodies.length i (actsAt p.bodies i))=false from allB_no hkb (by unfold bodyOk;rw [HB5.out];rfl)];exact ⟨by simp,M.out.below⟩
   go_wp2_with fail
   obtain ⟨L,EL,ML⟩:=Own.named M;go_loopw [6,40] (fun _ j w'=>∃ k:Nat,k<=(actsAt p.bodies kb).length/\j= .int .i64 k/\Aside0 (∀ i,i < k->actOk p.cells.length p.bodies.length kb (actAt (actsAt p.bodies kb) i)=true)/\Aside0 (Own w w' L)) (fun _ j _=>(actsAt p.bodies kb).length - (intOf j).toNat)
   case atStart=>exact ⟨0,Nat.zero_le _,rfl,⟨fun i hi=>by omega⟩,ML⟩
   case round=>
    obtain ⟨k,hk,rfl,HK,M2⟩:=hrel;have e_:=EL.out;subst e_;clear M C ML EL;have M:=M2;clear M2;have C:=M.out.cl;simp only [Cl] at C;by_cases hlt:k < (actsAt p.bodies kb).length
    ·have HZ4:=HZ2.out
     obtain ⟨ba,oa,cs3,rfl,hcl3,hK3,hcc3,-⟩:=C_field GA2.out zAct k hlt (by decide);obtain ⟨a,hax⟩:∃ x,x=actAt (actsAt p.bodies kb) k:=⟨_,rfl⟩;rw [show (actsAt p.bodies kb).getD k zAct=a from hax.symm] at hK3
     have hmem:a ∈ actsAt p.bodies kb:=by
      rw [hax,show actAt (actsAt p.bodies kb) k=(actsAt p.bodies kb)[k] by simp [actAt,hlt]];exact List.getElem_mem hlt
     have AX:=am hax;obtain ⟨Ad,cd,Ak,ck,rfl,-,gd,-,gk⟩:=kAct_open hK3;have HKS:=am gk;have HDS:=am gd;have HC:=am hcc3;have r0:(0:Int)<=(k:Int):=by omega
     have r1:(k:Int) < ((actsAt p.bodies kb).length:Int):=by omega
     clear hcl3 hK3 hcc3 hax gk gd;have HZ5:=am (HZ4 a hmem);obtain ⟨bx,yx⟩:∃ b,actOk p.cells.length p.bodies.length kb a=b:=⟨_,rfl⟩;have YX:=am yx;clear HZ4 hmem yx
     go_wp2_with (first
     |((first|with_reducible refine gB ?_ | with_reducible refine gA ?_);refine oB rfl M.out ?_;clear M C;intro g W M C;simp only [Cl] at C)
     |((with_reducible refine gL ?_);refine oR rfl rfl M.out HC.out ?_)
     |((with_reducible refine gS ?_);refine oS rfl rfl rfl M.out ?_;clear M C;intro W M C;simp only [Cl] at C))
     refine dS M.out ?_;clear M C;intro W M;refine dN [0,2,3,4,5,6,7,8] M.out ?_;refine sL rfl rfl ?_;iterate 7 (first|refine sP rfl ?_ | refine sG rfl ?_ | refine sU rfl ?_)
     refine stillS_nil ?_;refine dC 1 rfl ?_;refine oC M.out (partOfAct_calls a _ _ _ _ _) ?_;intro W M C;refine ⟨_,rfl,M,dA ?_⟩;refine dC 9 rfl ?_;refine oCb M.out (actOk_calls a _ _ _ _ _ _ _ _ (Kd.C_below HDS.out M.out.below) (Kd.C_below HKS.out M.out.below) HZ5.out ⟨by omega,by omega⟩) YX.out ?_;intro W M C;refine ⟨_,rfl,M,dA ?_⟩;refine dN [10] M.out ?_;iterate 1 (first|refine sP rfl ?_ | refine sG rfl ?_ | refine sU rfl ?_)
     refine stillS_nil ?_;refine dD ?_;clear C;have C:=M.out.cl;simp only [Cl] at C;cases bx
     ·go_wp2
      go_ret;rw [HU.out,show (allB p.bodies.length fun i=>bodyOk p.cells.length p.bodies.length i (actsAt p.bodies i))=false from allB_no hkb (by unfold bodyOk;rw [allB_no hlt (by rw [<-AX.out];exact YX.out),Bool.and_false])];exact ⟨by simp,M.out.below⟩
     ·go_wp2
      go_roundw
      case rel=>exact ⟨k+1,by omega,by go_num,⟨fun i hi=>by rcases Nat.lt_or_ge i k with h | h;exact HK.out i h;obtain rfl:i=k:=(by omega);rw [<-AX.out];exact YX.out⟩,⟨M.out.pop⟩⟩
      case measure=>simp [intOf];omega
    ·obtain rfl:k=(actsAt p.bodies kb).length:=by omega
     have s1:¬ ((actsAt p.bodies kb).length:Int) < ((actsAt p.bodies kb).length:Int):=by omega
     go_wp2;go_roundw
     case rel=>exact ⟨kb+1,by omega,by go_num,⟨fun i hi=>by rcases Nat.lt_or_ge i kb with h | h;exact HJ.out i h;obtain rfl:i=kb:=(by omega);unfold bodyOk;rw [HB5.out,allB_iff.2 HK.out];rfl⟩,⟨M.out.pop⟩⟩
     case measure=>simp [intOf];omega
  ·obtain rfl:kb=p.bodies.length:=by omega
   have s1:¬ (p.bodies.length:Int) < (p.bodies.length:Int):=by omega
   have HAL:Aside0 ((allB p.bodies.length fun i=>bodyOk p.cells.length p.bodies.length i (actsAt p.bodies i))=true):=⟨allB_iff.2 HJ.out⟩;have HFO:Aside0 (formOk p=true):=⟨by unfold formOk;rw [HAL.out,decide_eq_true hc3,show (allB p.cells.length fun i=>inB (numAt p.cells i) 0 99)=true from Y2.out,show inB p.bodies.length 1 4=true from inB_iff.2 ⟨by omega,by omega⟩];rfl⟩;have ht:(treeOf p 0:Int)<=1000000:=by have:=treeOf_le HFO.out (b:=0) (by omega) (by omega);omega
   go_wp2_with (first
   |((with_reducible refine gL ?_);refine oL rfl rfl M.out ?_)
   |(go_at_call 166;refine oC M.out (treeOf_calls p _ HFO.out p.bodies.length 0 _ (kProg.K_below M.out.below HPK.out) (by omega) (by omega) (by omega)) ?_;clear M C;intro W M C;simp only [Cl] at C))
   go_ret;rw [HU.out,HAL.out,show decide (treeOf p 0<=7)=decide ((treeOf p 0:Int)<=7) from by rw [Bool.eq_iff_iff];simp <;> omega];exact ⟨by simp,M.out.below⟩
def isysB (p:Prog) (s:Sys):Bool:=
 progOk p && ((s.cells.length:Int) == (p.cells.length:Int)) && !decide (s.clock < 0) && !decide (200 < s.clock) && cellsB s && !decide ((s.tasks.length:Int) < 1) && !decide (7 < (s.tasks.length:Int)) &&
 allB s.tasks.length (fun i=>formB p s (taskAt s.tasks i) && stageB p s (taskAt s.tasks i)) && allB s.tasks.length (fun i=>upsOk s i && wayB p s i) && locksOk s && logB p s
structure Fine (p:Prog) (s:Sys) (t:Task):Prop where
 body:0<=t.body/\t.body < p.bodies.length
 pc:0<=t.pc/\t.pc<=(actsAt p.bodies t.body.toNat).length
 puts:PutsIn s.cells.length t.puts
theorem fine_of {p:Prog} {s:Sys} {t:Task} (h:formB p s t=true):Fine p s t:=by
 simp only [formB,placeB,Bool.and_eq_true,Bool.not_eq_true',decide_eq_true_eq,decide_eq_false_iff_not] at h;obtain ⟨⟨⟨⟨⟨⟨⟨⟨⟨⟨⟨⟨h1,h2⟩,h3⟩,-⟩,-⟩,-⟩,-⟩,-⟩,-⟩,-⟩,-⟩,-⟩,h13⟩:=h;exact ⟨h1,⟨by omega,by omega⟩,putsIn_of h13⟩
theorem stage_at {p:Prog} {s:Sys} {t:Task} (h:stageB p s t=true):0<=t.at_/\(t.stage=2\/t.stage=5->t.at_<=t.puts.length):=by
 unfold stageB at h;split at h
 ·simp only [Bool.and_eq_true,beq_iff_eq] at h
  omega
 ·simp only [Bool.and_eq_true] at h
  have h:=h.2;unfold restB placeB at h;repeat' split at h
  all_goals try simp only [Bool.and_eq_true,beq_iff_eq,decide_eq_true_eq] at h
  all_goals first | omega|(cases h)
theorem soEF {q:Prop} (h:q:=by
  go_wp2_with (first
  |((with_reducible refine gL ?_);refine oL rfl rfl M.out ?_)
  |(go_at_call 125;refine oCb M.out (iprogOk_calls p _ _ (kProg.K_below M.out.below HPK.out) HPZ.out) Y1.out ?_;clear M C;intro W M C;simp only [Cl] at C)
  |(go_at_call 126;refine oCb M.out (cellsOk_calls s _ _ (kSys.K_below M.out.below HSK.out) HSZ.out.cells) Y5.out ?_;clear M C;intro W M C;simp only [Cl] at C))
  go_ret;rw [HU.out];exact ⟨by simp,M.out.below⟩):q:=h
theorem isysOk_calls (p:Prog) (ps:List Value) (s:Sys) (ss:List Value) (w:World) (hp:kProg.K w p ps) (hs:kSys.K w s ss) (hpz:ProgSz p) (hsz:SysSz s):
  Calls Tryz.prog 89 #[.agg ps.toArray,.agg ss.toArray] w fun e w'=>e= .returned (.bool (isysB p s))/\Below w.heap.size w w':=by
 have HPK:=am hp;have HSK:=am hs;have HPZ:=am hpz;have HSZ:=am hsz;obtain ⟨Ac,cc,Ab,cb,rfl,-⟩:=kProg_open hp;obtain ⟨A0,c0,A1,c1,A3,c3,rfl,-,-,-,g1,-⟩:=kSys_open hs;have G1:=am g1;have HN:=HSZ.out.tasks;have M:=am (Own.nil w);have C:=M.out.cl;obtain ⟨b1,y1⟩:∃ b,progOk p=b:=⟨_,rfl⟩;obtain ⟨b2,y2⟩:∃ b,((s.cells.length:Int) == (p.cells.length:Int))=b:=⟨_,rfl⟩;obtain ⟨b3,y3⟩:∃ b,decide (s.clock < 0)=b:=⟨_,rfl⟩;obtain ⟨b4,y4⟩:∃ b,decide (200 < s.clock)=b:=⟨_,rfl⟩;obtain ⟨b5,y5⟩:∃ b,cellsB s=b:=⟨_,rfl⟩;obtain ⟨b6,y6⟩:∃ b,decide ((s.tasks.length:Int) < 1)=b:=⟨_,rfl⟩;obtain ⟨b7,y7⟩:∃ b,decide (7 < (s.tasks.length:Int))=b:=⟨_,rfl⟩;have HU:Aside0 (isysB p s=(b1 && b2 && !b3 && !b4 && b5 && !b6 && !b7 && allB s.tasks.length (fun i=>formB p s (taskAt s.tasks i) && stageB p s (taskAt s.tasks i)) && allB s.tasks.length (fun i=>upsOk s i && wayB p s i) && locksOk s && logB p s)):=⟨by rw [<-y1,<-y2,<-y3,<-y4,<-y5,<-y6,<-y7];rfl⟩;have y2n:((s.cells.length:Int) != (p.cells.length:Int))= !b2:=by rw [<-y2];rfl
 have Y1:=am y1;have Y2:=am y2;have Y3:=am y3;have Y4:=am y4;have Y5:=am y5;have Y6:=am y6;have Y7:=am y7;clear hp hs hpz hsz g1 y1 y5 y2;go_enter Tryz.func89,Tryz.ntmps89
 go_upto_region 1 with (first
 |((first|with_reducible refine gB ?_ | with_reducible refine gA ?_);refine oB rfl M.out ?_;clear M C;intro g W M C;simp only [Cl] at C))
 cases b1
 case false=>exact soEF
 cases b2
 case false=>exact soEF
 cases b3
 case true=>exact soEF
 cases b4
 case true=>exact soEF
 cases b5
 case false=>exact soEF
 cases b6
 case true=>exact soEF
 cases b7
 case true=>exact soEF
 have hk:0<=s.clock/\s.clock<=200:=⟨by have:=of_decide_eq_false Y3.out;omega,by have:=of_decide_eq_false Y4.out;omega⟩
 go_wp2_with (first
 |((with_reducible refine gL ?_);refine oL rfl rfl M.out ?_)
 |(go_at_call 125;refine oCb M.out (iprogOk_calls p _ _ (kProg.K_below M.out.below HPK.out) HPZ.out) Y1.out ?_;clear M C;intro W M C;simp only [Cl] at C)
 |(go_at_call 126;refine oCb M.out (cellsOk_calls s _ _ (kSys.K_below M.out.below HSK.out) HSZ.out.cells) Y5.out ?_;clear M C;intro W M C;simp only [Cl] at C))
 obtain ⟨L,EL,ML⟩:=Own.named M;go_loopw [6,48] (fun _ j w'=>∃ k:Nat,k<=s.tasks.length/\j= .int .i64 k/\Aside0 (∀ i,i < k->formB p s (taskAt s.tasks i)=true/\stageB p s (taskAt s.tasks i)=true)/\Aside0 (Own w w' L)) (fun _ j _=>s.tasks.length - (intOf j).toNat)
 case atStart=>exact ⟨0,Nat.zero_le _,rfl,⟨fun i hi=>by omega⟩,ML⟩
 case round=>
  obtain ⟨k,hk0,rfl,HJ,M2⟩:=hrel;have e_:=EL.out;subst e_;clear M C ML EL;have M:=M2;clear M2;have C:=M.out.cl;simp only [Cl] at C;by_cases hlt:k < s.tasks.length
  ·have q0:(0:Int)<=(k:Int):=by omega
   have q1:(k:Int) < (s.tasks.length:Int):=by omega
   obtain ⟨b,o,cs,rfl,hcl,hK,hcc,-⟩:=C_field G1.out zTask k hlt (by decide);obtain ⟨t,ht⟩:∃ x,x=taskAt s.tasks k:=⟨_,rfl⟩;rw [show s.tasks.getD k zTask=t from ht.symm] at hK;have HTK:=am hK;obtain ⟨B3,d3,B8,d8,B9,d9,B10,d10,rfl,-⟩:=kTask_open hK;have HC:=am hcc;have HT:=am ht;have HZT:=am (ht ▸ HSZ.out.task k hlt);obtain ⟨f1,z1⟩:∃ b,formB p s t=b:=⟨_,rfl⟩;obtain ⟨f2,z2⟩:∃ b,stageB p s t=b:=⟨_,rfl⟩;have Z1:=am z1;have Z2:=am z2;have HK:=am hk;clear hcl hK hcc ht z1 z2 hk;cases f1
   ·go_wp2_with (first
    |((first|with_reducible refine gB ?_ | with_reducible refine gA ?_);refine oB rfl M.out ?_;clear M C;intro g W M C;simp only [Cl] at C)
    |((with_reducible refine gL ?_);refine oR rfl rfl M.out HC.out ?_)
    |((with_reducible refine gS ?_);refine oS rfl rfl rfl M.out ?_;clear M C;intro W M C;simp only [Cl] at C)
    |((with_reducible refine gL ?_);refine oL rfl rfl M.out ?_)
    |(go_at_call 127;refine oCb M.out (formOk_calls p _ s _ t _ _ (kProg.K_below M.out.below HPK.out) (kSys.K_below M.out.below HSK.out) (kTask.K_below M.out.below HTK.out) HZT.out) Z1.out ?_;clear M C;intro W M C;simp only [Cl] at C))
    go_ret;rw [HU.out,show (allB s.tasks.length (fun i=>formB p s (taskAt s.tasks i) && stageB p s (taskAt s.tasks i)))=false from allB_no hlt (by rw [<-HT.out,Z1.out,Bool.false_and])];exact ⟨by simp,M.out.below⟩
   cases f2
   ·go_wp2_with (first
    |((first|with_reducible refine gB ?_ | with_reducible refine gA ?_);refine oB rfl M.out ?_;clear M C;intro g W M C;simp only [Cl] at C)
    |((with_reducible refine gL ?_);refine oR rfl rfl M.out HC.out ?_)
    |((with_reducible refine gS ?_);refine oS rfl rfl rfl M.out ?_;clear M C;intro W M C;simp only [Cl] at C)
    |((with_reducible refine gL ?_);refine oL rfl rfl M.out ?_)
    |(go_at_call 127;refine oCb M.out (formOk_calls p _ s _ t _ _ (kProg.K_below M.out.below HPK.out) (kSys.K_below M.out.below HSK.out) (kTask.K_below M.out.below HTK.out) HZT.out) Z1.out ?_;clear M C;intro W M C;simp only [Cl] at C)
    |(go_at_call 128;refine oCb M.out (stageOk_calls p _ s _ t _ _ (kProg.K_below M.out.below HPK.out) (kSys.K_below M.out.below HSK.out) (kTask.K_below M.out.below HTK.out) HPZ.out HK.out (fine_of Z1.out).body (fine_of Z1.out).pc) Z2.out ?_;clear M C;intro W M C;simp only [Cl] at C))
    go_ret;rw [HU.out,show (allB s.tasks.length (fun i=>formB p s (taskAt s.tasks i) && stageB p s (taskAt s.tasks i)))=false from allB_no hlt (by rw [<-HT.out,Z2.out,Bool.and_false])];exact ⟨by simp,M.out.below⟩
   go_wp2_with (first
   |((first|with_reducible refine gB ?_ | with_reducible refine gA ?_);refine oB rfl M.out ?_;clear M C;intro g W M C;simp only [Cl] at C)
   |((with_reducible refine gL ?_);refine oR rfl rfl M.out HC.out ?_)
   |((with_reducible refine gS ?_);refine oS rfl rfl rfl M.out ?_;clear M C;intro W M C;simp only [Cl] at C)
   |((with_reducible refine gL ?_);refine oL rfl rfl M.out ?_)
   |(go_at_call 127;refine oCb M.out (formOk_calls p _ s _ t _ _ (kProg.K_below M.out.below HPK.out) (kSys.K_below M.out.below HSK.out) (kTask.K_below M.out.below HTK.out) HZT.out) Z1.out ?_;clear M C;intro W M C;simp only [Cl] at C)
   |(go_at_call 128;refine oCb M.out (stageOk_calls p _ s _ t _ _ (kProg.K_below M.out.below HPK.out) (kSys.K_below M.out.below HSK.out) (kTask.K_below M.out.below HTK.out) HPZ.out HK.out (fine_of Z1.out).body (fine_of Z1.out).pc) Z2.out ?_;clear M C;intro W M C;simp only [Cl] at C))
   go_roundw
   case rel=>exact ⟨k+1,by omega,by go_num,⟨fun i hi=>by rcases Nat.lt_or_ge i k with h | h;exact HJ.out i h;obtain rfl:i=k:=(by omega);rw [<-HT.out];exact ⟨Z1.out,Z2.out⟩⟩,⟨M.out.pop⟩⟩
   case measure=>simp [intOf];omega
  ·obtain rfl:k=s.tasks.length:=by omega
   have HJ1:Aside0 (allB s.tasks.length (fun i=>formB p s (taskAt s.tasks i) && stageB p s (taskAt s.tasks i))=true):=⟨allB_iff.2 fun i hi=>by rw [(HJ.out i hi).1,(HJ.out i hi).2];rfl⟩;have s1:¬ (s.tasks.length:Int) < (s.tasks.length:Int):=by omega
   go_wp2_with fail
   clear s1 hk0 hlt;obtain ⟨L,EL,ML⟩:=Own.named M;go_loopw [7,68] (fun _ j w'=>∃ k:Nat,k<=s.tasks.length/\j= .int .i64 k/\Aside0 (∀ i,i < k->upsOk s i=true/\wayB p s i=true)/\Aside0 (Own w w' L)) (fun _ j _=>s.tasks.length - (intOf j).toNat)
   case atStart=>exact ⟨0,Nat.zero_le _,rfl,⟨fun i hi=>by omega⟩,ML⟩
   case round=>
    obtain ⟨k,hk0,rfl,HW,M2⟩:=hrel;have e_:=EL.out;subst e_;clear M C ML EL;have M:=M2;clear M2;have C:=M.out.cl;simp only [Cl] at C;by_cases hlt:k < s.tasks.length
    ·have q0:(0:Int)<=(k:Int):=by omega
     have q1:(k:Int) < (s.tasks.length:Int):=by omega
     have HFI:=am (fine_of (HJ.out k hlt).1);obtain ⟨f1,z1⟩:∃ b,upsOk s k=b:=⟨_,rfl⟩;obtain ⟨f2,z2⟩:∃ b,wayB p s k=b:=⟨_,rfl⟩;have Z1:=am z1;have Z2:=am z2;clear z1 z2;cases f1
     ·go_wp2_with (first
      |((with_reducible refine gL ?_);refine oL rfl rfl M.out ?_)
      |(go_at_call 129;refine oCb M.out (upOk_calls s _ k _ (kSys.K_below M.out.below HSK.out) hlt HN) Z1.out ?_;clear M C;intro W M C;simp only [Cl] at C))
      go_ret;rw [HU.out,show (allB s.tasks.length (fun i=>upsOk s i && wayB p s i))=false from allB_no hlt (by rw [Z1.out,Bool.false_and])];exact ⟨by simp,M.out.below⟩
     cases f2
     ·go_wp2_with (first
      |((with_reducible refine gL ?_);refine oL rfl rfl M.out ?_)
      |(go_at_call 129;refine oCb M.out (upOk_calls s _ k _ (kSys.K_below M.out.below HSK.out) hlt HN) Z1.out ?_;clear M C;intro W M C;simp only [Cl] at C)
      |(go_at_call 130;refine oCb M.out (wayOk_calls p _ s _ k _ (kProg.K_below M.out.below HPK.out) (kSys.K_below M.out.below HSK.out) HPZ.out hlt HN HFI.out.body HFI.out.pc) Z2.out ?_;clear M C;intro W M C;simp only [Cl] at C))
      go_ret;rw [HU.out,show (allB s.tasks.length (fun i=>upsOk s i && wayB p s i))=false from allB_no hlt (by rw [Z2.out,Bool.and_false])];exact ⟨by simp,M.out.below⟩
     go_wp2_with (first
     |((with_reducible refine gL ?_);refine oL rfl rfl M.out ?_)
     |(go_at_call 129;refine oCb M.out (upOk_calls s _ k _ (kSys.K_below M.out.below HSK.out) hlt HN) Z1.out ?_;clear M C;intro W M C;simp only [Cl] at C)
     |(go_at_call 130;refine oCb M.out (wayOk_calls p _ s _ k _ (kProg.K_below M.out.below HPK.out) (kSys.K_below M.out.below HSK.out) HPZ.out hlt HN HFI.out.body HFI.out.pc) Z2.out ?_;clear M C;intro W M C;simp only [Cl] at C))
     go_roundw
     case rel=>exact ⟨k+1,by omega,by go_num,⟨fun i hi=>by rcases Nat.lt_or_ge i k with h | h;exact HW.out i h;obtain rfl:i=k:=(by omega);exact ⟨Z1.out,Z2.out⟩⟩,M⟩
     case measure=>simp [intOf];omega
    ·obtain rfl:k=s.tasks.length:=by omega
     have HW1:Aside0 (allB s.tasks.length (fun i=>upsOk s i && wayB p s i)=true):=⟨allB_iff.2 fun i hi=>by rw [(HW.out i hi).1,(HW.out i hi).2];rfl⟩;have s1:¬ (s.tasks.length:Int) < (s.tasks.length:Int):=by omega
     obtain ⟨f1,z1⟩:∃ b,locksOk s=b:=⟨_,rfl⟩;have Z1:=am z1;clear z1;cases f1
     all_goals
      go_wp2_with (first
      |((with_reducible refine gL ?_);refine oL rfl rfl M.out ?_)
      |(go_at_call 131;refine oCb M.out (locksOk_calls s _ _ (kSys.K_below M.out.below HSK.out) HN HSZ.out.cells (fun i hi=>⟨(fine_of (HJ.out i hi).1).puts,(HSZ.out.task i hi).2.2.2,(stage_at (HJ.out i hi).2).1,(stage_at (HJ.out i hi).2).2⟩)) Z1.out ?_;clear M C;intro W M C;simp only [Cl] at C)
      |(go_at_call 132;refine oCb M.out (logOk_calls p _ s _ _ (kProg.K_below M.out.below HPK.out) (kSys.K_below M.out.below HSK.out) HSZ.out.log (fun i hi=>(fine_of (HJ.out i hi).1).body) HSZ.out.logs) rfl ?_;clear M C;intro W M C;simp only [Cl] at C))
      go_ret;rw [HU.out,HJ1.out,HW1.out,Z1.out];exact ⟨by simp,M.out.below⟩
theorem task_iff {p:Prog} {s:Sys} {i:Nat} (hb:begunTo s (kids s.tasks i) (kids s.tasks i).length=kidsN s.tasks i 0+kidsN s.tasks i 1+kidsN s.tasks i 2+kidsN s.tasks i 3):
  (formB p s (taskAt s.tasks i)=true/\stageB p s (taskAt s.tasks i)=true/\upsOk s i=true/\wayB p s i=true) ↔ taskOk p s i=true:=by
 unfold taskOk wayB wayOk;simp only [hb];generalize kidsN s.tasks i 0+kidsN s.tasks i 1+kidsN s.tasks i 2+kidsN s.tasks i 3=nb;generalize upsOk s i=u;generalize taskAt s.tasks i=t;unfold formB stageB timesOk;generalize actsAt p.bodies t.body.toNat=acts;generalize actAt acts t.pc.toNat=a;generalize numsOk t.regs 3=n1;generalize numsOk t.old 3=n2;generalize listOk t.reads s.cells.length=l1;generalize listOk t.puts s.cells.length=l2;unfold restB timedB stOk placeB inB;by_cases h0:t.stage=0
 ·simp only [h0,if_true,if_false,Bool.and_eq_true,Bool.or_eq_true,Bool.not_eq_true',decide_eq_true_eq,decide_eq_false_iff_not,beq_iff_eq]
  by_cases w0:t.way=0
  ·simp [w0];grind
  ·by_cases w1:t.way=1
   ·simp [w1];grind
   ·by_cases w2:t.way=2
    ·simp [w2];grind
    ·simp [w0,w1,w2];grind
 ·by_cases w0:t.way=0
  ·by_cases h1:t.stage=1
   ·simp [h1,w0];grind
   ·by_cases h2:t.stage=2
    ·simp [h2,w0];grind
    ·by_cases h3:t.stage=3
     ·simp [h3,w0];grind
     ·by_cases h4:t.stage=4
      ·simp [h4,w0];grind
      ·by_cases h5:t.stage=5
       ·simp [h5,w0];grind
       ·simp [h0,h1,h2,h3,h4,h5,w0];grind
  ·simp [h0,w0]
theorem cntTo_congr {f g:Nat->Bool}:∀ {n:Nat},(∀ i,i < n->f i=g i)->cntTo f n=cntTo g n
 | 0,_=>rfl
 | n+1,h=>by
  unfold cntTo;rw [cntTo_congr (fun i hi=>h i (by omega)),h n (by omega)]
theorem rd_lt {xs ys:List Int} {j:Nat} (h:j < xs.length):rd (xs ++ ys) (j:Int)=rd xs (j:Int):=by
 simp [rd,List.getD_eq_getElem?_getD,List.getElem?_append_left h]
theorem cnt_pick (p:Nat->Bool) (f:Int->Bool):∀ n:Nat,cntTo (fun j=>f (rd (pickTo p n) (j:Int))) (pickTo p n).length=cntTo (fun k=>p k && f (k:Int)) n
 | 0=>rfl
 | n+1=>by
  have ih:=cnt_pick p f n
  cases hp:p n with
  | false=>
   rw [pickTo_no hp,ih];show _=cntTo _ n+_
   simp [hp]
  | true=>
   rw [pickTo_yes hp,List.length_append];show cntTo _ (pickTo p n).length+(if _ then 1 else 0)=cntTo _ n+(if _ then 1 else 0);rw [cntTo_congr (g:=fun j=>f (rd (pickTo p n) (j:Int))) (fun j hj=>by rw [rd_lt hj]),ih];have:rd (pickTo p n ++ [(n:Int)]) ((pickTo p n).length:Int)=(n:Int):=by simp [rd]
   simp [this,hp]
theorem begun_eq {s:Sys} (hu:∀ k,k < s.tasks.length->upsOk s k=true) (hw:∀ k,k < s.tasks.length->0<=(taskAt s.tasks k).way/\(taskAt s.tasks k).way<=4) (i:Nat):
  begunTo s (kids s.tasks i) (kids s.tasks i).length=kidsN s.tasks i 0+kidsN s.tasks i 1+kidsN s.tasks i 2+kidsN s.tasks i 3:=by
 unfold begunTo kids;rw [cnt_pick (isKid s.tasks i) (fun x=> !decide ((taskAt s.tasks x.toNat).way=4))];unfold kidsN
 have key:∀ n,n<=s.tasks.length->cntTo (fun k=>isKid s.tasks i k && !decide ((taskAt s.tasks (k:Int).toNat).way=4)) n=
   cntTo (fun k=>decide ((taskAt s.tasks k).up=i) && decide ((taskAt s.tasks k).way=0)) n+cntTo (fun k=>decide ((taskAt s.tasks k).up=i) && decide ((taskAt s.tasks k).way=1)) n+
   cntTo (fun k=>decide ((taskAt s.tasks k).up=i) && decide ((taskAt s.tasks k).way=2)) n+cntTo (fun k=>decide ((taskAt s.tasks k).up=i) && decide ((taskAt s.tasks k).way=3)) n:=by
  intro n
  induction n with
  | zero=>intro _;rfl
  | succ n ih=>
   intro hn;unfold cntTo;rw [ih (by omega)];have h1:=hu n (by omega);have h2:=hw n (by omega);unfold upsOk at h1;unfold isKid;simp only [Int.toNat_natCast];by_cases hup:(taskAt s.tasks n).up=(i:Int)
   ·have hlt:(i:Int) < (n:Int):=by
     simp only [hup] at h1;split at h1
     ·simp at h1
     ·simp only [Bool.and_eq_true,inB_iff] at h1;omega
    simp only [hup,hlt,decide_true,Bool.and_true,Bool.true_and,show (0:Int)<=(i:Int) by omega];rcases (show (taskAt s.tasks n).way=0\/(taskAt s.tasks n).way=1\/(taskAt s.tasks n).way=2\/(taskAt s.tasks n).way=3\/(taskAt s.tasks n).way=4 by omega) with h | h | h | h | h <;> simp [h] <;> omega
   ·simp [hup]
 exact key _ (Nat.le_refl _)
theorem isys_eq (p:Prog) (s:Sys):isysB p s=sysOk p s:=by
 rw [Bool.eq_iff_iff]
 have hT:(∀ i,i < s.tasks.length->formB p s (taskAt s.tasks i)=true/\stageB p s (taskAt s.tasks i)=true)/\(∀ i,i < s.tasks.length->upsOk s i=true/\wayB p s i=true) ↔ ∀ i,i < s.tasks.length->taskOk p s i=true:=by
  constructor
  ·rintro ⟨h1,h2⟩ i hi
   refine (task_iff (begun_eq (fun k hk=>(h2 k hk).1) (fun k hk=> ?_) i)).1 ⟨(h1 i hi).1,(h1 i hi).2,(h2 i hi).1,(h2 i hi).2⟩
   have:=(h1 k hk).1
   unfold formB at this;simp only [Bool.and_eq_true,Bool.not_eq_true',decide_eq_false_iff_not] at this;omega
  ·intro h
   have hu:∀ k,k < s.tasks.length->upsOk s k=true/\(0<=(taskAt s.tasks k).way/\(taskAt s.tasks k).way<=4):=fun k hk=>by
    have:=h k hk
    unfold taskOk at this;simp only [Bool.and_eq_true,inB_iff] at this;grind
   exact ⟨fun i hi=>have:=(task_iff (begun_eq (fun k hk=>(hu k hk).1) (fun k hk=>(hu k hk).2) i)).2 (h i hi);⟨this.1,this.2.1⟩,fun i hi=>have:=(task_iff (begun_eq (fun k hk=>(hu k hk).1) (fun k hk=>(hu k hk).2) i)).2 (h i hi);this.2.2⟩
 have hC:(∀ i,i < s.tasks.length->formB p s (taskAt s.tasks i)=true/\stageB p s (taskAt s.tasks i)=true)->(cellsB s=true/\locksOk s=true ↔ cellsOk s=true):=by
  intro h;rw [locks_iff (fun i hi=>(fine_of (h i hi).1).puts) (fun i hi=>(stage_at (h i hi).2).1)];unfold cellsB cellsOk;simp only [allB_iff,Bool.and_eq_true,inB_iff,decide_eq_true_eq];constructor
  ·rintro ⟨h1,h2⟩ i hi
   refine ⟨⟨⟨(h1 i hi).1,(h1 i hi).2⟩,(h2 i hi).1⟩,fun k hk=> ?_⟩;rw [Bool.eq_iff_iff,(h2 i hi).2 k hk,decide_eq_true_eq]
  ·intro h2
   refine ⟨fun i hi=>(h2 i hi).1.1,fun i hi=>⟨(h2 i hi).1.2,fun k hk=> ?_⟩⟩;rw [(h2 i hi).2 k hk,decide_eq_true_eq]
 have hL:logB p s=logOk p s:=by
  unfold logB logOk logAt placeB inB
  congr 1
  funext i
  rw [Bool.eq_iff_iff];simp only [Bool.and_eq_true,Bool.not_eq_true',decide_eq_true_eq,decide_eq_false_iff_not];grind
 unfold isysB sysOk;simp only [hL,Bool.and_eq_true,Bool.not_eq_true',decide_eq_true_eq,decide_eq_false_iff_not,beq_iff_eq,allB_iff,inB_iff];constructor
 ·rintro ⟨⟨⟨⟨⟨⟨⟨⟨⟨⟨a,b⟩,c⟩,d⟩,e⟩,f⟩,g⟩,h⟩,i⟩,j⟩,k⟩
  exact ⟨⟨⟨⟨⟨⟨a,by omega⟩,by omega⟩,by omega⟩,hT.1 ⟨h,i⟩⟩,(hC h).1 ⟨e,j⟩⟩,k⟩
 ·rintro ⟨⟨⟨⟨⟨⟨a,b⟩,c⟩,d⟩,e⟩,f⟩,g⟩
  obtain ⟨h,i⟩:=hT.2 e;obtain ⟨x,y⟩:=(hC h).2 f;exact ⟨⟨⟨⟨⟨⟨⟨⟨⟨⟨a,by omega⟩,by omega⟩,by omega⟩,x⟩,by omega⟩,by omega⟩,h⟩,i⟩,y⟩,g⟩
theorem Own.copied {w W W1:World} {l:Bx} {own:Nat->Nat} {s:Sys} {vc vt vl:Value} (M:Own w W l) (hb:Below W.heap.size W W1) (hS:Sy W.heap.size own s vc vt vl W1):Own w W1 (.r (Tagged own) (SyF w.heap.size own s vc vt vl) :: l):=
 M.row hb (fun k hk=>⟨Nat.le_of_not_lt fun hlt=>hk (hS.low k hlt),Nat.lt_of_not_le fun hle=>hk (hS.new0 k hle)⟩) sy_stab (hS.lower M.below.size)
theorem Own.first2 {w W:World} {e1 e2:En} {l:Bx} (h:Own w W (e1 :: e2 :: l)):Own w W [e1,e2]:=by
 have ha:=h.apart;rw [List.pairwise_cons] at ha;refine ⟨h.below, ?_,fun e he=>h.fresh e (by simp at he;rcases he with rfl|rfl <;> simp),by simpa using ha.1 e2 (by simp)⟩;have hl:=h.lies;cases e1 <;> cases e2 <;> exact ⟨hl.1,hl.2.1,trivial⟩
def Runs (w:World) (p:Prog) (s:Sys) (g:Nat) (w':World):Prop:=∃ own vp vb vc vt vl,kProg.K w p [vp,vb]/\Own w w' [.b g #[vp,vb,vc,vt,.int .i64 s.clock,vl] 112,.r (Tagged own) (SyF w.heap.size own s vc vt vl)]
theorem newOk_calls (p:Prog) (ps:List Value) (s:Sys) (ss:List Value) (a:Addr) (w:World) (hp:kProg.K w p ps) (hs:kSys.K w s ss) (hpz:ProgSz p) (hsz:SysSz s) (he:w.cell? ⟨0,0,none⟩=some (.iface 253 (.pointer (some a)))) (ho:sysOk p s=true):
  Calls Tryz.prog 55 #[.agg ps.toArray,.agg ss.toArray] w fun e w'=>∃ g,e= .returned (.tuple #[.pointer (some ⟨g,0,none⟩),.nilIface])/\Runs w p s g w':=by
 have HPK:=am hp;have HSK:=am hs;obtain ⟨Ac,cc,Ab,cb,rfl,-⟩:=kProg_open hp;obtain ⟨A0,c0,A1,c1,A3,c3,rfl,-⟩:=kSys_open hs;have HPZ:=am hpz;have HSZ:=am hsz;have YO:=am ho;have M:=am (Own.nil w);have C:=M.out.cl;replace M:=am (M.out.far he);clear C;have C:=M.out.cl;simp only [Cl] at C;clear hp hs he ho;go_enter Tryz.func55,Tryz.ntmps55
 go_wp2_with (first
 |((first|with_reducible refine gB ?_ | with_reducible refine gA ?_);refine oB rfl M.out ?_;clear M C;intro g W M C;simp only [Cl] at C)
 |((with_reducible refine gL ?_);refine oL rfl rfl M.out ?_)
 |(go_at_call 89;refine oCb M.out (isysOk_calls p _ s _ _ (kProg.K_below M.out.below HPK.out) (kSys.K_below M.out.below HSK.out) HPZ.out HSZ.out) ((isys_eq p s).trans YO.out) ?_;clear M C;intro W M C;simp only [Cl] at C))
 refine eS [] (fun _ h=>h) M.out ?_;clear M C;intro W M;refine eN [0,1] M.out ?_;refine sL rfl rfl ?_;refine sL rfl rfl ?_;refine stillS_nil ?_;have C:=M.out.cl;simp only [Cl] at C;refine eO 2 rfl ?_
 go_wp2_with (first
 |(go_at_call 90;refine (sysCopy_calls s _ _ (kSys.K_below M.out.below HSK.out) HSZ.out.cells HSZ.out.tasks HSZ.out.log (fun i hi=>HSZ.out.task i hi) (fun i hi=>HSZ.out.logs i hi)).mono ?_;rintro e W1 ⟨own,vc,vt,vl,rfl,hS,hb⟩;obtain ⟨a0,d0,rfl⟩:=Kd.R_slice hS.cells;obtain ⟨a1,n1,d1,rfl⟩:=hS.slice3;obtain ⟨a3,d3,rfl⟩:=Kd.R_slice hS.log;replace M:=am (M.out.copied hb hS);clear C;have C:=M.out.cl;simp only [Cl] at C;clear hb hS))
 refine nI M.out.pop ?_
 try refine eA ?_
 refine eN [3] M.out.pop ?_
 (first|refine sP rfl ?_ | refine sG rfl ?_ | refine sU rfl ?_ | refine sN rfl ?_)
 refine stillS_nil ?_;refine eO 4 rfl ?_
 go_wp2_with (first
 |((first|with_reducible refine gB ?_ | with_reducible refine gA ?_);refine oB rfl M.out ?_;clear M C;intro g W M C;simp only [Cl] at C))
 refine nI M.out.pop.pop ?_
 try refine eA ?_
 refine eN [5,6] M.out.pop.pop ?_
 (first|refine sP rfl ?_ | refine sG rfl ?_ | refine sU rfl ?_ | refine sN rfl ?_)
 (first|refine sP rfl ?_ | refine sG rfl ?_ | refine sU rfl ?_ | refine sN rfl ?_)
 refine stillS_nil ?_;refine eD ?_
 go_wp2_with (first
  | fail)
 go_ret2;exact ⟨_,rfl,own,_,_,_,_,_,HPK.out,M.out.first2⟩
theorem newNo_calls (p:Prog) (ps:List Value) (s:Sys) (ss:List Value) (a:Addr) (w:World) (hp:kProg.K w p ps) (hs:kSys.K w s ss) (hpz:ProgSz p) (hsz:SysSz s) (he:w.cell? ⟨0,0,none⟩=some (.iface 253 (.pointer (some a)))) (ho:sysOk p s=false):
  Calls Tryz.prog 55 #[.agg ps.toArray,.agg ss.toArray] w fun e w'=>e= .returned (.tuple #[.pointer none,.iface 253 (.pointer (some a))])/\Below w.heap.size w w':=by
 have HPK:=am hp;have HSK:=am hs;obtain ⟨Ac,cc,Ab,cb,rfl,-⟩:=kProg_open hp;obtain ⟨A0,c0,A1,c1,A3,c3,rfl,-⟩:=kSys_open hs;have HPZ:=am hpz;have HSZ:=am hsz;have YO:=am ho;have M:=am (Own.nil w);have C:=M.out.cl;replace M:=am (M.out.far he);clear C;have C:=M.out.cl;simp only [Cl] at C;clear hp hs he ho;go_enter Tryz.func55,Tryz.ntmps55
 go_wp2_with (first
 |((first|with_reducible refine gB ?_ | with_reducible refine gA ?_);refine oB rfl M.out ?_;clear M C;intro g W M C;simp only [Cl] at C)
 |((with_reducible refine gL ?_);refine oL rfl rfl M.out ?_)
 |(go_at_call 89;refine oCb M.out (isysOk_calls p _ s _ _ (kProg.K_below M.out.below HPK.out) (kSys.K_below M.out.below HSK.out) HPZ.out HSZ.out) ((isys_eq p s).trans YO.out) ?_;clear M C;intro W M C;simp only [Cl] at C))
 refine eS [] (fun _ h=>h) M.out ?_;clear M C;intro W M;refine eN [0,1,2] M.out ?_;(first|refine sP rfl ?_ | refine sG rfl ?_ | refine sU rfl ?_ | refine sN rfl ?_);(first|refine sP rfl ?_ | refine sG rfl ?_ | refine sU rfl ?_ | refine sN rfl ?_);(first|refine sP rfl ?_ | refine sG rfl ?_ | refine sU rfl ?_ | refine sN rfl ?_);refine stillS_nil ?_;refine eD ?_
 go_wp2_with (first
  | fail)
 go_ret2;exact ⟨rfl,M.out.below⟩
end Go.Proofs.YtclangliilnijaaGreatDoor.Eq









namespace Go.Proofs.YtclangliilnijaaGreatDoor.Eq
section
variable {p:Prog} {s s':Sys} {i:Nat} {N:Nat}
theorem cntTo_pos {f:Nat->Bool}:∀ {n:Nat},0 < cntTo f n ↔ ∃ k,k < n/\f k=true
 | 0=>⟨fun h=>absurd h (Nat.lt_irrefl _),fun ⟨k,hk,_⟩=>absurd hk (Nat.not_lt_zero _)⟩
 | n+1=>by
  unfold cntTo;constructor
  ·intro h
   by_cases hf:f n=true
   ·exact ⟨n,Nat.lt_succ_self _,hf⟩
   ·rw [if_neg hf] at h
    obtain ⟨k,hk,hfk⟩:=cntTo_pos.1 (by omega:0 < cntTo f n);exact ⟨k,by omega,hfk⟩
  ·rintro ⟨k,hk,hfk⟩
   by_cases hkn:k=n
   ·rw [if_pos (hkn ▸ hfk)];omega
   ·have:=cntTo_pos.2 ⟨k,(by omega:k < n),hfk⟩
    omega
theorem kidsN_pos {ts:List Task} {w:Int}:0 < kidsN ts i w ↔ ∃ k,k < ts.length/\(taskAt ts k).up=i/\(taskAt ts k).way=w:=by
 unfold kidsN;rw [cntTo_pos];simp
end
end Go.Proofs.YtclangliilnijaaGreatDoor.Eq
namespace Go.Proofs.YtclangliilnijaaGreatDoor.Eq
open Go.RowKit Go.Proofs.YtclangliilnijaaGreatDoorW.PrintWords Go.Proofs.YtclangliilnijaaGreatDoorW.PrintLast Go.Proofs.YtclangliilnijaaGreatDoorW.PrintMore
def RU (p:Prog) (s:Sys) (g:Nat) (w:World):Prop:=∃ vp vb vc vt vl,w.heap[g]? = some (.cells #[vp,vb,vc,vt,.int .i64 s.clock,vl] 112 (0,0))/\kProg.K w p [vp,vb]/\kSys.K w s [vc,vt,.int .i64 s.clock,vl]
theorem RU.below {p:Prog} {s:Sys} {g:Nat} {w w':World} (h:RU p s g w) (hb:Below w.heap.size w w'):RU p s g w':=by
 obtain ⟨vp,vb,vc,vt,vl,h1,h2,h3⟩:=h;exact ⟨vp,vb,vc,vt,vl,zb8 h1 hb,kProg.K_below hb h2,kSys.K_below hb h3⟩
theorem Runs.ru {w w':World} {p:Prog} {s:Sys} {g:Nat} (h:Runs w p s g w'):RU p s g w':=by
 obtain ⟨own,vp,vb,vc,vt,vl,hp,M⟩:=h;have hS:Sy w.heap.size own s vc vt vl w':=M.get (F:=SyF _ _ _ _ _ _);exact ⟨vp,vb,vc,vt,vl,M.lies.1,kProg.K_below M.below hp,hS.read⟩
theorem Own.known {w W:World} {l:Bx} {g:Nat} {cs:Array Value} {t:TypeId} (h:Own w W l) (hb:w.heap[g]? = some (.cells cs t (0,0))):Own w W (.kp g cs t :: l):=
 ⟨h.below,⟨zb8 hb h.below,h.lies⟩,fun e he=>by
  rcases List.mem_cons.1 he with rfl | he
  ·exact blk_lt hb
  ·exact h.fresh e he,List.Pairwise.cons (fun e he k hk=>by cases hk) h.apart⟩
theorem gU {P:Program} {ops:Array Oper} {rest:List Oper} {a:Go.Act} {Q:Exit->Go.Act->World->Prop} {W:World} {t:TypeId} {x:Operand} {N:Tmp} {ty:TypeId} {ps:String} {af:Array Edge} {j:Nat} {b:Bool} (hy:yielded ops a.tmps j=some b)
  (h:wpList P ops Q ({dst:=some N,op:=.load t x,type:=ty,pos:=ps,after:=af,guard:=none} :: rest) a W):wpList P ops Q ({dst:=some N,op:=.load t x,type:=ty,pos:=ps,after:=af,guard:=some (j,b)} :: rest) a W:=by
 have hw:Region.wanted {dst:=some N,op:=.load t x,type:=ty,pos:=ps,after:=af,guard:=some (j,b)} (yielded ops a.tmps)=true:=by rw [wanted_some rfl hy,beq_self_eq_true]
 unfold wpList at h ⊢;rw [if_pos (wanted_none rfl)] at h;rw [if_pos hw];exact h
def anyT (s:Sys) (f:Task->Bool) (ks:List Int) (n:Nat):Bool:=(ks.take n).any fun x=>f (taskAt s.tasks x.toNat)
theorem anyT_next {s:Sys} {f:Task->Bool} {ks:List Int} {k:Nat} (h:k < ks.length):anyT s f ks (k+1)=(anyT s f ks k || f (taskAt s.tasks (rd ks k).toNat)):=by
 unfold anyT;rw [List.take_succ_eq_append_getElem h,List.any_append];simp [rd,h]
def isFailed (t:Task):Bool:=decide (t.way=3)
theorem kidsI_calls (p:Prog) (s:Sys) (g:Nat) (task:Int) (w:World) (h:RU p s g w) (hn:s.tasks.length<=1048576):
  Calls Tryz.prog 137 #[.pointer (some ⟨g,0,none⟩),.int .i64 task] w fun e w'=>e= .returned (.tuple #[.bool (anyT s isFailed (kids s.tasks task) (kids s.tasks task).length),.bool (anyT s isLive (kids s.tasks task) (kids s.tasks task).length)])/\Below w.heap.size w w':=by
 obtain ⟨vp,vb,vc,vt,vl,hblk,-,hs⟩:=h;have HSK:=am hs;obtain ⟨A0,c0,A1,c1,A3,c3,he,-,-,-,g1,-⟩:=kSys_open hs;simp only [List.cons.injEq,and_true,true_and] at he;obtain ⟨rfl,rfl,rfl⟩:=he;have HG:=am hblk;have G1:=am g1;have HN:=am hn;obtain ⟨ks,hks⟩:∃ x,x=kids s.tasks task:=⟨_,rfl⟩;have HKS:=am hks;have M:=am (Own.nil w);have C:=M.out.cl;replace M:=am (M.out.known hblk);clear C;have C:=M.out.cl;simp only [Cl] at C;clear hblk hs g1 hks;go_enter Tryz.func137,Tryz.ntmps137
 go_wp2_with (first
 |((with_reducible refine gL ?_);refine oR rfl rfl M.out (fun j u hj=>seg6 HG.out hj) ?_)
 |(go_at_call 148;refine (implKids_calls s _ _ _ (kSys.K_below M.out.below HSK.out) HN.out).mono ?_;rintro e W1 ⟨v,rfl,hv,hb⟩;obtain ⟨A,c,rfl,-,hcv⟩:=Kd.R_reads hv;have HB0:=am (below_step M.out.below hb);have KX:=am hcv;clear hv hcv;have M1:=am (M.out.step hb).rebase;simp only [List.map_cons,List.map_nil,En.old] at M1;clear M C hb;have M:=M1;clear M1;have C:=M.out.cl;simp only [Cl] at C))
 rw [<-HKS.out] at KX ⊢;obtain ⟨L,EL,ML⟩:=Own.named M;go_loopw [4,5,7,15] (fun fv av _ j w'=>∃ k:Nat,k<=ks.length/\fv= .bool (anyT s isFailed ks k)/\av= .bool (anyT s isLive ks k)/\j= .int .i64 k/\Aside0 (Own W1 w' L)) (fun _ _ _ j _=>ks.length - (intOf j).toNat)
 case atStart=>exact ⟨0,Nat.zero_le _,rfl,rfl,rfl,ML⟩
 case round=>
  obtain ⟨k,hk,rfl,rfl,rfl,M2⟩:=hrel;have e:=EL.out;subst e;clear M C ML EL;have M:=M2;clear M2;have C:=M.out.cl;simp only [Cl] at C;obtain ⟨bf,yf⟩:∃ b,anyT s isFailed ks k=b:=⟨_,rfl⟩;obtain ⟨ba,ya⟩:∃ b,anyT s isLive ks k=b:=⟨_,rfl⟩;by_cases hlt:k < ks.length
  ·have s0:(0:Int)<=(k:Int):=by omega
   have s1:(k:Int) < (ks.length:Int):=by omega
   obtain ⟨ad,ed,hx⟩:=Kd.at_int KX.out (k:Int) s0 s1;cases ed;simp only [Int.toNat_natCast] at hx;obtain ⟨n,hn,-,-,-,hkn⟩:=mem_kids.1 (show rd ks (k:Int) ∈ kids s.tasks task by rw [<-HKS.out];exact rd_mem hlt);rw [hkn] at hx;obtain ⟨b',o',cs',eb,hcl',hK',hcc',-⟩:=C_field (Kd.C_below G1.out HB0.out) zTask n hn (by decide);cases eb;obtain ⟨t,ht⟩:∃ x,x=taskAt s.tasks n:=⟨_,rfl⟩;rw [show s.tasks.getD n zTask=t from ht.symm] at hK';have HKT:=am hK';have HCC:=am hcc';obtain ⟨B3',d3',B8',d8',B9',d9',B10',d10',rfl,-⟩:=kTask_open hK';have p4:=hcc' 4 _ rfl;simp only [show kTask.sz=13 from rfl] at p4;have HL:ks.length<=1048576:=by rw [HKS.out];exact Nat.le_trans (pickTo_length _ _) HN.out
   replace M:=am ((M.out.far hx).far p4);clear C;have C:=M.out.cl;simp only [Cl] at C;have n0:(0:Int)<=(n:Int):=by omega
   have n1:(n:Int) < (s.tasks.length:Int):=by omega
   have hb1:anyT s isFailed ks (k+1)=(bf || decide (t.way=3)):=by rw [anyT_next hlt,hkn,Int.toNat_natCast,yf,ht];rfl
   have hb2:anyT s isLive ks (k+1)=(ba || isLive t):=by rw [anyT_next hlt,hkn,Int.toNat_natCast,ya,ht]
   have HX:=am (And.intro hb1 hb2);obtain ⟨bl,yl⟩:∃ b,isLive t=b:=⟨_,rfl⟩;have YL:=am yl;obtain ⟨b3,y3⟩:∃ b,decide (t.way=3)=b:=⟨_,rfl⟩;have z3:(t.way == 3)=b3:=by rw [<-y3];rfl
   rw [y3,yl] at HX;rw [yf,ya];clear hx hK' hcc' hcl' p4 hkn hb1 hb2 yl y3 yf ya ht;cases bf <;> cases ba <;> cases b3 <;> cases bl
   all_goals
    go_wp2_with (first
    |((with_reducible refine gU ?_ ?_);rfl;refine oR rfl rfl M.out HCC.out ?_)
    |(go_at_call 80;refine oCb M.out (live_calls _ _ _ (kTask.K_below M.out.below HKT.out)) YL.out ?_;clear M C;intro W M C;simp only [Cl] at C))
    go_roundw
    case rel=>exact ⟨k+1,by omega,by rw [HX.out.1];rfl,by rw [HX.out.2];rfl,by go_num,⟨M.out.pop.pop⟩⟩
    case measure=>simp [intOf];omega
  ·obtain rfl:k=ks.length:=by omega
   have s1:¬ (ks.length:Int) < (ks.length:Int):=by omega
   rw [yf,ya];go_wp2;go_ret2;exact ⟨by rw [<-HKS.out,yf,ya];first | rfl | simp,below_step HB0.out M.out.below⟩
theorem canDo_kids {p:Prog} {s:Sys} {N:Nat} (h:Inv p s N) {k:Nat} (hk:k < s.tasks.length) (h1:(tk s k).way=1) (hc:s.clock < 200):ready s k=(anyT s isFailed (kids s.tasks k) (kids s.tasks k).length || !anyT s isLive (kids s.tasks k) (kids s.tasks k).length):=by
 have hm:∀ x,x ∈ kids s.tasks k ↔ ∃ i:Nat,i < s.tasks.length/\(taskAt s.tasks i).up=(k:Int)/\x=(i:Int):=fun x=>by
  rw [mem_kids];constructor
  ·rintro ⟨i,a,b,c,d,e⟩;exact ⟨i,a,c,e⟩
  ·rintro ⟨i,a,b,c⟩;exact ⟨i,a,by omega,b,by have:=(h.task i a).up1;have e:(tk s i).up=(k:Int):=b;omega,c⟩
 have e1:anyT s isFailed (kids s.tasks k) (kids s.tasks k).length=decide (0 < kidsN s.tasks k 3):=by
  rw [Bool.eq_iff_iff,decide_eq_true_eq,kidsN_pos];unfold anyT;rw [List.take_length,List.any_eq_true];constructor
  ·rintro ⟨x,hx,hf⟩
   obtain ⟨i,a,b,rfl⟩:=(hm x).1 hx;exact ⟨i,a,b,by simpa [isFailed] using hf⟩
  ·rintro ⟨i,a,b,c⟩
   exact ⟨(i:Int),(hm _).2 ⟨i,a,b,rfl⟩,by simpa [isFailed] using c⟩
 have e2:anyT s isLive (kids s.tasks k) (kids s.tasks k).length= !decide (kidsN s.tasks k 0+kidsN s.tasks k 1=0):=by
  rw [Bool.eq_iff_iff,Bool.not_eq_true',decide_eq_false_iff_not];unfold anyT;rw [List.take_length,List.any_eq_true];constructor
  ·rintro ⟨x,hx,hf⟩
   obtain ⟨i,a,b,rfl⟩:=(hm x).1 hx;rw [Int.toNat_natCast] at hf;simp only [isLive,Bool.or_eq_true,decide_eq_true_eq] at hf;rcases hf with hf | hf
   ·have:=(kidsN_pos (i:=k)).2 ⟨i,a,b,hf⟩;omega
   ·have:=(kidsN_pos (i:=k)).2 ⟨i,a,b,hf⟩;omega
  ·intro hne
   rcases Nat.eq_zero_or_pos (kidsN s.tasks k 0) with h0 | h0
   ·obtain ⟨i,a,b,c⟩:=(kidsN_pos (i:=k)).1 (show 0 < kidsN s.tasks k 1 by omega)
    exact ⟨(i:Int),(hm _).2 ⟨i,a,b,rfl⟩,by rw [Int.toNat_natCast];simp [isLive,c]⟩
   ·obtain ⟨i,a,b,c⟩:=(kidsN_pos (i:=k)).1 h0
    exact ⟨(i:Int),(hm _).2 ⟨i,a,b,rfl⟩,by rw [Int.toNat_natCast];simp [isLive,c]⟩
 rw [e1,e2,Bool.not_not];unfold ready;simp only [];rw [if_neg (by omega),if_neg (by omega),if_pos h1]
theorem readyI_calls {N:Nat} (p:Prog) (s:Sys) (g:Nat) (task:Int) (w:World) (h:RU p s g w) (hi:Inv p s N) (hn:s.tasks.length<=1048576):
  Calls Tryz.prog 93 #[.pointer (some ⟨g,0,none⟩),.int .i64 task] w fun e w'=>e= .returned (.bool (canDo s task))/\Below w.heap.size w w':=by
 have HRU:=am h;obtain ⟨vp,vb,vc,vt,vl,hblk,-,hs⟩:=h;obtain ⟨A0,c0,A1,c1,A3,c3,he,-,-,-,g1,-⟩:=kSys_open hs;simp only [List.cons.injEq,and_true,true_and] at he;obtain ⟨rfl,rfl,rfl⟩:=he;have G1:=am g1;have HN:=am hn;have HI:=am hi;have M:=am (Own.nil w);have C:=M.out.cl;replace M:=am (M.out.known hblk);clear C;have C:=M.out.cl;simp only [Cl] at C;clear hblk hs g1 hi;go_enter Tryz.func93,Tryz.ntmps93;obtain ⟨bp,yp⟩:∃ b,(decide (0<=task) && decide (task < (s.tasks.length:Int)))=b:=⟨_,rfl⟩;have YP:=am yp;clear yp;cases bp
 ·have HU:=am (show canDo s task=false by unfold canDo;rw [inB_not.2 (by have:=YP.out;simp at this;omega)];rfl)
  go_wp2_with (first
  |(go_at_call 136;refine (isPlace_calls _ _ _).mono ?_;rintro e W ⟨rfl,rfl⟩;rw [YP.out]))
  go_ret;rw [HU.out];exact ⟨rfl,M.out.below⟩
 ·have hpl:0<=task/\task < (s.tasks.length:Int):=by have:=YP.out;simpa using this
  obtain ⟨k,rfl⟩:=Int.eq_ofNat_of_zero_le hpl.1;have hk:k < s.tasks.length:=by omega
  have HCD:=am (show canDo s (k:Int)=ready s k by unfold canDo;rw [inB_iff.2 (by omega)];rfl);obtain ⟨b,o,cs,rfl,hcl,hK,hcc,-⟩:=C_field G1.out zTask k hk (by decide);obtain ⟨t,ht⟩:∃ x,x=tk s k:=⟨_,rfl⟩;rw [show s.tasks.getD k zTask=t from ht.symm] at hK;have HT:=am ht;obtain ⟨B3,d3,B8,d8,B9,d9,B10,d10,rfl,-⟩:=kTask_open hK;have p4:=hcc 4 _ rfl;have p5:=hcc 5 _ rfl;have p11:=hcc 11 _ rfl;simp only [show kTask.sz=13 from rfl] at p4 p5 p11;replace M:=am (((M.out.far p4).far p5).far p11);clear C;have C:=M.out.cl;simp only [Cl] at C;have q0:(0:Int)<=(k:Int):=by omega
  have q1:(k:Int) < (s.tasks.length:Int):=by omega
  have HK:=am hk;clear hcl hK hcc ht p4 p5 p11 hpl hk;by_cases hc:200<=s.clock
  ·have yc:decide (200<=s.clock)=true:=decide_eq_true hc
   have HU:=am (show canDo s (k:Int)=false by rw [HCD.out];unfold ready;simp only [];rw [if_pos hc])
   go_wp2_with (first
   |(go_at_call 136;refine (isPlace_calls _ _ _).mono ?_;rintro e W ⟨rfl,rfl⟩;rw [YP.out]))
   go_ret;rw [HU.out];exact ⟨rfl,M.out.below⟩
  ·have yc:decide (200<=s.clock)=false:=decide_eq_false hc
   have HC:=am hc;clear hc;by_cases h0:t.way=0
   ·have y0:(t.way == 0)=true:=by simp [h0]
    obtain ⟨b5,y5⟩:∃ b,(t.stage != 0)=b:=⟨_,rfl⟩;obtain ⟨bw,yw⟩:∃ b,decide (t.when_<=s.clock)=b:=⟨_,rfl⟩;have HU:=am (show canDo s (k:Int)=(b5 || bw) by rw [HCD.out,<-y5,<-yw];unfold ready;simp only [];rw [if_neg HC.out,<-HT.out,if_pos h0];congr 1);clear h0;cases b5
    all_goals
     go_wp2_with (first
     |(go_at_call 136;refine (isPlace_calls _ _ _).mono ?_;rintro e W ⟨rfl,rfl⟩;rw [YP.out]))
     refine dS M.out ?_;clear M C;intro W M;refine dN [0,1,2,3,4,5,6,7,8,9,10,11,12,13,14,15,16,17] M.out ?_;iterate 18 (first|refine sP rfl ?_ | refine sG rfl ?_ | refine sU rfl ?_ | refine sN rfl ?_)
     refine stillS_nil ?_;refine dD ?_;have C:=M.out.cl;simp only [Cl] at C;go_wp2;go_ret;rw [HU.out];exact ⟨rfl,M.out.below⟩
   ·have y0:(t.way == 0)=false:=by simpa using h0
    by_cases h1:t.way=1
    ·have y1:(t.way == 1)=true:=by simp [h1]
     obtain ⟨bf,yf⟩:∃ b,anyT s isFailed (kids s.tasks k) (kids s.tasks k).length=b:=⟨_,rfl⟩;obtain ⟨bl,yl⟩:∃ b,anyT s isLive (kids s.tasks k) (kids s.tasks k).length=b:=⟨_,rfl⟩;have YF:=am yf;have YL:=am yl;have HU:=am (show canDo s (k:Int)=(bf || !bl) by rw [HCD.out,canDo_kids HI.out HK.out (by rw [<-HT.out];exact h1) (by have:=HC.out;omega),yf,yl]);clear h0 h1 yf yl;cases bf <;> cases bl
     all_goals
      go_wp2_with (first
      |(go_at_call 136;refine (isPlace_calls _ _ _).mono ?_;rintro e W ⟨rfl,rfl⟩;rw [YP.out])
      |(go_at_call 137;refine (kidsI_calls p s g _ _ (HRU.out.below M.out.below) HN.out).mono ?_;rintro e W ⟨rfl,hb⟩;rw [YF.out,YL.out];replace M:=am (M.out.step hb);clear C;have C:=M.out.cl;simp only [Cl] at C;clear hb))
      go_ret;rw [HU.out];exact ⟨rfl,M.out.below⟩
    ·have y1:(t.way == 1)=false:=by simpa using h1
     have HU:=am (show canDo s (k:Int)=false by rw [HCD.out];unfold ready;simp only [];rw [if_neg HC.out,<-HT.out,if_neg h0,if_neg h1]);clear h0 h1
     go_wp2_with (first
     |(go_at_call 136;refine (isPlace_calls _ _ _).mono ?_;rintro e W ⟨rfl,rfl⟩;rw [YP.out]))
     go_ret;rw [HU.out];exact ⟨rfl,M.out.below⟩
theorem Own.none_ {α:Type} {d:Kd α} {e:Nat} {w W:World} {l:Bx} (M:Own w W l):Own w W (.r (fun _=>False) (Rw d e w.heap.size (fun _=>False) (.slice none 0 0) ([]:List α)) :: l):=
 M.row (Below.refl _ _) (fun k hk=>hk.elim) (fun V V' hs hk hV=>Kd.R_step hV (fun k h1 h2=>hk k h1 h2)) (Kd.R_nil _ _ _ _ _)
theorem Own.grew {α:Type} {d:Kd α} {e:Nat} {ok:Nat->Prop} {v v1:Value} {xs ys:List α} {w W W1:World} {l:Bx} (M:Own w W (.r ok (Rw d e w.heap.size ok v xs) :: l)) (hg:W.grownBy W1 v.ownBlock) (hr:d.R e W1 w.heap.size (fun k=>ok k\/W.heap.size<=k) v1 ys):
  ∃ ok',Own w W1 (.r ok' (Rw d e w.heap.size ok' v1 ys) :: l):=
 ⟨fun k=>(ok k\/W.heap.size<=k)/\k < W1.heap.size,M.turn hg (fun k hk=>(M.gotten:d.R e W w.heap.size ok v xs).1 k hk) (fun k hk=>hk) (fun V V' hs hk hV=>Kd.R_step hV (fun k h1 h2=>hk k h1 h2)) (Kd.R_mono (Kd.R_bound hr) (fun k hk=>⟨hk.1,hk.2.2.1⟩))⟩
theorem readyL_calls {N:Nat} (p:Prog) (s:Sys) (g:Nat) (w:World) (h:RU p s g w) (hi:Inv p s N) (hn:s.tasks.length<=1048576):
  Calls Tryz.prog 57 #[.pointer (some ⟨g,0,none⟩)] w fun e w'=>∃ v,e= .returned v/\(Kd.int .i64).R 3 w' w.heap.size (fun _=>True) v (pickTo (fun i=>ready s i) s.tasks.length)/\Below w.heap.size w w':=by
 have HRU:=am h;obtain ⟨vp,vb,vc,vt,vl,hblk,-,hs⟩:=h;obtain ⟨A0,c0,A1,c1,A3,c3,he,-⟩:=kSys_open hs;simp only [List.cons.injEq,and_true,true_and] at he;obtain ⟨rfl,rfl,rfl⟩:=he;have HN:=am hn;have HI:=am hi;have M:=am (Own.nil w);have C:=M.out.cl;replace M:=am ((M.out.known hblk).none_ (d:=Kd.int .i64) (e:=3));clear C;have C:=M.out.cl;simp only [Cl] at C;clear hblk hs hi;go_enter Tryz.func57,Tryz.ntmps57
 go_wp2_with (first
  | fail)
 obtain ⟨L,EL,ML⟩:=Own.namedT M;obtain ⟨f,hf⟩:∃ f,f=fun i=>ready s i:=⟨_,rfl⟩
 have HF:=am hf;clear hf;go_loopw [3,4,11] (fun v _ j w'=>∃ (k:Nat) (ok:Nat->Prop),k<=s.tasks.length/\j= .int .i64 k/\Aside0 (Own w w' (.r ok (Rw (Kd.int .i64) 3 w.heap.size ok v (pickTo f k)) :: L))) (fun _ _ j _=>s.tasks.length - (intOf j).toNat)
 case atStart=>exact ⟨0,_,Nat.zero_le _,rfl,ML⟩
 case round=>
  obtain ⟨k,ok,hk,rfl,M2⟩:=hrel;have e:=EL.out;subst e;clear M C ML EL;have M:=M2;clear M2;have C:=M.out.cl;simp only [Cl] at C;have hlen:=pickTo_length f k;by_cases hlt:k < s.tasks.length
  ·have q0:(0:Int)<=(k:Int):=by omega
   have q1:(k:Int) < (s.tasks.length:Int):=by omega
   obtain ⟨b,yb⟩:∃ b,f k=b:=⟨_,rfl⟩;have YB:=am yb;have YR:=am (show canDo s (k:Int)=b by unfold canDo;rw [inB_iff.2 (by omega),<-yb,HF.out];rfl);clear yb;cases b
   ·go_wp2_with (first
    |(go_at_call 93;refine (readyI_calls p s g _ _ (HRU.out.below M.out.below) HI.out HN.out).mono ?_;rintro e W ⟨rfl,hb⟩;rw [YR.out];replace M:=am (M.out.step hb);clear C;have C:=M.out.cl;simp only [Cl] at C;clear hb))
    go_roundw
    case rel=>exact ⟨k+1,ok,by omega,by go_num,⟨by rw [pickTo_no YB.out];exact M.out⟩⟩
    case measure=>simp [intOf];omega
   ·go_wp2_with (first
    |(go_at_call 93;refine (readyI_calls p s g _ _ (HRU.out.below M.out.below) HI.out HN.out).mono ?_;rintro e W ⟨rfl,hb⟩;rw [YR.out];replace M:=am (M.out.step hb);clear C;have C:=M.out.cl;simp only [Cl] at C;clear hb)
    |((with_reducible refine gate_builtin (b:=.append) (xs:=#[.tmp 17,.tmp 19]) rfl ?_);at_builtin;refine Kd.R_append (Kd.int .i64) (w0:=w) w.heap.size rfl (.tmp 17) (.tmp 19) 22 3 (.int .i64 0) 8 rfl Tryz.underlying22 info_int rfl (by decide) (by omega) _ (pickTo f k) (k:Int) [.int .i64 (k:Int)] (fun q=>ok q\/W.heap.size<=q) (fun _=>False) rfl rfl rfl (fun _ hk=>hk.elim) (fun q hq=> .inr hq) (Kd.R_mono M.out.gotten (fun q hq=> .inl hq)) M.out.below M.out.below.size (by omega) ?_;intro v1 W1 hv hb hg _;obtain ⟨ok2,m2⟩:=M.out.grew hg hv;replace M:=am (m2);clear C;have C:=M.out.cl;simp only [Cl] at C;clear m2 hv hb hg))
    go_roundw
    case rel=>exact ⟨k+1,ok2,by omega,by go_num,⟨by rw [pickTo_yes YB.out];exact M.out⟩⟩
    case measure=>simp [intOf];omega
  ·obtain rfl:k=s.tasks.length:=by omega
   have q1:¬ (s.tasks.length:Int) < (s.tasks.length:Int):=by omega
   go_wp2;go_ret;exact ⟨_,rfl,by rw [<-HF.out];exact Kd.R_mono M.out.gotten (fun _ _=>trivial),M.out.below⟩
def readyIn (s:Sys):List Int:=pickTo (fun i=>ready s i) s.tasks.length
def readyB (p:Prog) (s:Sys):List Int:=if sysOk p s then readyIn s else []
theorem implReady_calls (p:Prog) (ps:List Value) (s:Sys) (ss:List Value) (w:World) (hp:kProg.K w p ps) (hs:kSys.K w s ss) (hpz:ProgSz p) (hsz:SysSz s) (a:Addr) (he:w.cell? ⟨0,0,none⟩=some (.iface 253 (.pointer (some a)))):
  Calls Tryz.prog 19 #[.agg ps.toArray,.agg ss.toArray] w fun e w'=>∃ v,e= .returned v/\(Kd.int .i64).R 3 w' w.heap.size (fun _=>True) v (readyB p s)/\Below w.heap.size w w':=by
 have HPK:=am hp;have HSK:=am hs;obtain ⟨Ac,cc,Ab,cb,rfl,-⟩:=kProg_open hp;obtain ⟨A0,c0,A1,c1,A3,c3,rfl,-⟩:=kSys_open hs;have HPZ:=am hpz;have HSZ:=am hsz;have HE:=am he;obtain ⟨ok,yo⟩:∃ b,sysOk p s=b:=⟨_,rfl⟩;have YO:=am yo;have M:=am (Own.nil w);have C:=M.out.cl;replace M:=am (M.out.far he);clear C;have C:=M.out.cl;simp only [Cl] at C;clear hp hs hpz hsz he yo;go_enter Tryz.func19,Tryz.ntmps19;cases ok
 ·have HU:=am (show readyB p s= [] by unfold readyB;rw [YO.out];rfl)
  go_wp2_with (first
  |((first|with_reducible refine gB ?_ | with_reducible refine gA ?_);refine oB rfl M.out ?_;clear M C;intro g W M C;simp only [Cl] at C)
  |((with_reducible refine gL ?_);refine oL rfl rfl M.out ?_)
  |(go_at_call 55;refine (newNo_calls p _ s _ a _ (kProg.K_below M.out.below HPK.out) (kSys.K_below M.out.below HSK.out) HPZ.out HSZ.out (pw_cell_below M.out.below HE.out) YO.out).mono ?_;rintro e W ⟨rfl,hb⟩;replace M:=am (M.out.step hb);clear C;have C:=M.out.cl;simp only [Cl] at C;clear hb)
  |(go_at_call 56;refine (is_same _ _).mono ?_;rintro e W ⟨rfl,rfl⟩))
  go_ret;rw [HU.out];exact ⟨_,rfl,Kd.R_nil _ _ _ _ _,M.out.below⟩
 ·have HI:=am (Inv.ofOk YO.out)
  have HU:=am (show readyB p s=pickTo (fun i=>ready s i) s.tasks.length by unfold readyB readyIn;rw [YO.out];rfl)
  go_wp2_with (first
  |((first|with_reducible refine gB ?_ | with_reducible refine gA ?_);refine oB rfl M.out ?_;clear M C;intro g W M C;simp only [Cl] at C)
  |((with_reducible refine gL ?_);refine oL rfl rfl M.out ?_)
  |(go_at_call 55;refine (newOk_calls p _ s _ a _ (kProg.K_below M.out.below HPK.out) (kSys.K_below M.out.below HSK.out) HPZ.out HSZ.out (pw_cell_below M.out.below HE.out) YO.out).mono ?_;rintro e W ⟨g,rfl,hr⟩;have HRU:=am hr.ru;obtain ⟨_,_,_,_,_,_,_,hM⟩:=hr;replace M:=am (M.out.step hM.below);clear C;have C:=M.out.cl;simp only [Cl] at C;clear hM)
  |(go_at_call 56;refine (is_nil _ _).mono ?_;rintro e W ⟨rfl,rfl⟩)
  |(go_at_call 57;refine (readyL_calls p s g _ HRU.out HI.out HSZ.out.tasks).mono ?_;rintro e W1 ⟨v,rfl,hv,hb⟩;obtain ⟨A,c,rfl⟩:=Kd.R_slice hv;replace M:=am (M.out.made hb hv);clear C;have C:=M.out.cl;simp only [Cl] at C;clear hb hv))
  go_ret;rw [HU.out];exact ⟨_,rfl,Kd.R_mono M.out.gotten (fun _ _=>trivial),M.out.below⟩
theorem specReady_calls (p:Prog) (ps:List Value) (s:Sys) (ss:List Value) (w:World) (hp:kProg.K w p ps) (hs:kSys.K w s ss) (hpz:ProgSz p) (hsz:SysSz s):
  Calls Tryz.prog 16 #[.agg ps.toArray,.agg ss.toArray] w fun e w'=>∃ v,e= .returned v/\(Kd.int .i64).R 3 w' w.heap.size (fun _=>True) v (readyB p s)/\Below w.heap.size w w':=by
 have HPK:=am hp;have HSK:=am hs;obtain ⟨Ac,cc,Ab,cb,rfl,-⟩:=kProg_open hp;obtain ⟨A0,c0,A1,c1,A3,c3,rfl,-⟩:=kSys_open hs;have HPZ:=am hpz;have HSZ:=am hsz;obtain ⟨ok,yo⟩:∃ b,sysOk p s=b:=⟨_,rfl⟩;have YO:=am yo;have M:=am (Own.nil w);have C:=M.out.cl;clear hp hs hpz hsz yo;go_enter Tryz.func16,Tryz.ntmps16;cases ok
 ·have HU:=am (show readyB p s= [] by unfold readyB;rw [YO.out];rfl)
  go_wp2_with (first
  |((first|with_reducible refine gB ?_ | with_reducible refine gA ?_);refine oB rfl M.out ?_;clear M C;intro g W M C;simp only [Cl] at C)
  |((with_reducible refine gate_dst (N:=8) rfl ?_);refine Kd.R_lit (w0:=_) (Kd.int .i64) _ 3 rfl (N:=8) rfl (xs:=([]:List Int)) (inner:= []) (ok:=fun _=>True) (okp:=fun _=>True) (by go_simp<;>rfl) (Reps.none _ _) (fun _ hk=>hk) trivial (Below.refl _ _) (Nat.le_refl _) (by simp) ?_;intro v0 W1 hr hb hg _;obtain ⟨A,c,rfl⟩:=Kd.R_slice hr;replace M:=am (M.out.made (grown_below_ hg) hr);clear C;have C:=M.out.cl;simp only [Cl] at C;clear hr hb hg)
  |((with_reducible refine gL ?_);refine oL rfl rfl M.out ?_)
  |(go_at_call 39;refine oCb M.out (sysOk_calls p _ s _ _ (kProg.K_below M.out.below HPK.out) (kSys.K_below M.out.below HSK.out) HPZ.out HSZ.out) YO.out ?_;clear M C;intro W M C;simp only [Cl] at C))
  go_ret;rw [HU.out];exact ⟨_,rfl,Kd.R_mono M.out.gotten (fun _ _=>trivial),M.out.below⟩
 ·have HU:=am (show readyB p s=pickTo (fun i=>ready s i) s.tasks.length by unfold readyB readyIn;rw [YO.out];rfl)
  go_wp2_with (first
  |((first|with_reducible refine gB ?_ | with_reducible refine gA ?_);refine oB rfl M.out ?_;clear M C;intro g W M C;simp only [Cl] at C)
  |((with_reducible refine gate_dst (N:=8) rfl ?_);refine Kd.R_lit (w0:=_) (Kd.int .i64) _ 3 rfl (N:=8) rfl (xs:=([]:List Int)) (inner:= []) (ok:=fun _=>True) (okp:=fun _=>True) (by go_simp<;>rfl) (Reps.none _ _) (fun _ hk=>hk) trivial (Below.refl _ _) (Nat.le_refl _) (by simp) ?_;intro v0 W1 hr hb hg _;obtain ⟨A,c,rfl⟩:=Kd.R_slice hr;replace M:=am (M.out.made (grown_below_ hg) hr);clear C;have C:=M.out.cl;simp only [Cl] at C;clear hr hb hg)
  |((with_reducible refine gL ?_);refine oL rfl rfl M.out ?_)
  |(go_at_call 39;refine oCb M.out (sysOk_calls p _ s _ _ (kProg.K_below M.out.below HPK.out) (kSys.K_below M.out.below HSK.out) HPZ.out HSZ.out) YO.out ?_;clear M C;intro W M C;simp only [Cl] at C))
  have M1:=am (M.out.perm (List.Perm.swap _ _ _));obtain ⟨L,EL,ML⟩:=Own.namedT M1;clear M1;go_loopw [5,7] (fun v j w'=>∃ (k:Nat) (ok:Nat->Prop),k<=s.tasks.length/\j= .int .i64 k/\Aside0 (Own w w' (.r ok (Rw (Kd.int .i64) 3 w.heap.size ok v (pickTo (fun i=>ready s i) k)) :: L))) (fun _ j _=>s.tasks.length - (intOf j).toNat)
  case atStart=>exact ⟨0,_,Nat.zero_le _,rfl,ML⟩
  case round=>
   obtain ⟨k,ok,hk,rfl,M2⟩:=hrel;have e:=EL.out;subst e;clear M C ML EL;have M:=M2;clear M2;have C:=M.out.cl;simp only [Cl] at C;have hlen:=pickTo_length (fun i=>ready s i) k;by_cases hlt:k < s.tasks.length
   ·have q0:(0:Int)<=(k:Int):=by omega
    have q1:(k:Int) < (s.tasks.length:Int):=by omega
    have q2:=HSZ.out.tasks;obtain ⟨b,yb⟩:∃ b,(fun i=>ready s i) k=b:=⟨_,rfl⟩;have YB:=am yb;clear yb;cases b
    ·go_wp2_with (first
     |(go_at_call 49;refine (ready_calls k _ ⟨M.out.lies.at_ (by repeat (first|exact .here | exact .kept | apply At.there)),(kProg.K_below M.out.below HPK.out),(kSys.K_below M.out.below HSK.out)⟩ hlt HSZ.out.tasks).mono ?_;rintro e W ⟨rfl,hb⟩;rw [show ready s k=_ from YB.out];replace M:=am (M.out.step hb);clear C;have C:=M.out.cl;simp only [Cl] at C;clear hb))
     go_roundw
     case rel=>exact ⟨k+1,ok,by omega,by go_num,⟨by rw [pickTo_no YB.out];exact M.out⟩⟩
     case measure=>simp [intOf];omega
    ·go_wp2_with (first
     |(go_at_call 49;refine (ready_calls k _ ⟨M.out.lies.at_ (by repeat (first|exact .here | exact .kept | apply At.there)),(kProg.K_below M.out.below HPK.out),(kSys.K_below M.out.below HSK.out)⟩ hlt HSZ.out.tasks).mono ?_;rintro e W ⟨rfl,hb⟩;rw [show ready s k=_ from YB.out];replace M:=am (M.out.step hb);clear C;have C:=M.out.cl;simp only [Cl] at C;clear hb)
     |((with_reducible refine gate_builtin (b:=.append) (xs:=#[.tmp 28,.tmp 30]) rfl ?_);at_builtin;refine Kd.R_append (Kd.int .i64) (w0:=w) w.heap.size rfl (.tmp 28) (.tmp 30) 22 3 (.int .i64 0) 8 rfl Tryz.underlying22 info_int rfl (by decide) (by omega) _ (pickTo (fun i=>ready s i) k) (k:Int) [.int .i64 (k:Int)] (fun q=>ok q\/W.heap.size<=q) (fun _=>False) rfl rfl rfl (fun _ hk=>hk.elim) (fun q hq=> .inr hq) (Kd.R_mono M.out.gotten (fun q hq=> .inl hq)) M.out.below M.out.below.size (by omega) ?_;intro v1 W1 hv hb hg _;obtain ⟨ok2,m2⟩:=M.out.grew hg hv;replace M:=am (m2);clear C;have C:=M.out.cl;simp only [Cl] at C;clear m2 hv hb hg))
     go_roundw
     case rel=>exact ⟨k+1,ok2,by omega,by go_num,⟨by rw [pickTo_yes YB.out];exact M.out⟩⟩
     case measure=>simp [intOf];omega
   ·obtain rfl:k=s.tasks.length:=by omega
    have q1:¬ (s.tasks.length:Int) < (s.tasks.length:Int):=by omega
    go_wp2;go_ret;exact ⟨_,rfl,by rw [HU.out];exact Kd.R_mono M.out.gotten (fun _ _=>trivial),M.out.below⟩
end Go.Proofs.YtclangliilnijaaGreatDoor.Eq
namespace Go.Proofs.YtclangliilnijaaGreatDoor.Eq
open Go.RowKit Go.Proofs.YtclangliilnijaaGreatDoorW.PrintWords Go.Proofs.YtclangliilnijaaGreatDoorW.PrintLast
def kDeedL:Kd Deed:=Kd.iso (Kd.pair (Kd.int .i64) (Kd.pair (Kd.int .i64) (Kd.int .i64))) (fun x:Deed=>(x.kind,x.a,x.b))
theorem kDeedL_open {w:World} {x:Deed} {cs:List Value} (h:kDeedL.K w x cs):cs= [.int .i64 x.kind,.int .i64 x.a,.int .i64 x.b]:=by
 obtain ⟨_,_,rfl,rfl,⟨_,_,rfl,rfl,rfl⟩⟩:=h;exact rfl
def kActL:Kd Act:=Kd.iso (Kd.pair (Kd.int .i64) (Kd.pair (Kd.slice 222 kDeedL) (Kd.pair (Kd.slice 3 (Kd.int .i64)) (Kd.int .i64)))) (fun x:Act=>(x.kind,x.deeds,x.kids,x.reg))
theorem kActL_open {w:World} {x:Act} {cs:List Value} (h:kActL.K w x cs):∃ A_deeds c_deeds A_kids c_kids,cs= [.int .i64 x.kind,.slice A_deeds x.deeds.length c_deeds,.slice A_kids x.kids.length c_kids,.int .i64 x.reg]/\x.deeds.length<=c_deeds/\kDeedL.C w A_deeds x.deeds.length x.deeds/\x.kids.length<=c_kids/\(Kd.int .i64).C w A_kids x.kids.length x.kids:=by
 obtain ⟨_,_,rfl,rfl,⟨_,_,rfl,⟨A_deeds,c_deeds,rfl,l_deeds,g_deeds⟩,⟨_,_,rfl,⟨A_kids,c_kids,rfl,l_kids,g_kids⟩,rfl⟩⟩⟩:=h;exact ⟨A_deeds,c_deeds,A_kids,c_kids,rfl,l_deeds,g_deeds,l_kids,g_kids⟩
def kProgL:Kd Prog:=Kd.iso (Kd.pair (Kd.slice 3 (Kd.int .i64)) (Kd.slice 122 (Kd.slice 165 kActL))) (fun x:Prog=>(x.cells,x.bodies))
theorem kProgL_open {w:World} {x:Prog} {cs:List Value} (h:kProgL.K w x cs):∃ A_cells c_cells A_bodies c_bodies,cs= [.slice A_cells x.cells.length c_cells,.slice A_bodies x.bodies.length c_bodies]/\x.cells.length<=c_cells/\(Kd.int .i64).C w A_cells x.cells.length x.cells/\x.bodies.length<=c_bodies/\(Kd.slice 165 kActL).C w A_bodies x.bodies.length x.bodies:=by
 obtain ⟨_,_,rfl,⟨A_cells,c_cells,rfl,l_cells,g_cells⟩,⟨A_bodies,c_bodies,rfl,l_bodies,g_bodies⟩⟩:=h;exact ⟨A_cells,c_cells,A_bodies,c_bodies,rfl,l_cells,g_cells,l_bodies,g_bodies⟩
end Go.Proofs.YtclangliilnijaaGreatDoor.Eq
namespace Go.Proofs.YtclangliilnijaaGreatDoor.Eq
open Go.RowKit Go.Proofs.YtclangliilnijaaGreatDoorW.PrintWords Go.Proofs.YtclangliilnijaaGreatDoorW.PrintLast Go.Proofs.YtclangliilnijaaGreatDoorW.PrintMore
def szA (x:Act):Nat:=x.deeds.length+x.kids.length
def szAS (x:List Act):Nat:=x.length+sumOf szA x
def szP (p:Prog):Nat:=p.cells.length+(p.bodies.length+sumOf szAS p.bodies)
theorem szDeedS_calls (n c:Nat) (A:Option Addr) (left:Int) (w:World) (h0:0<=left) (h1:left<=1048576) (hn:n<=9223372036854775807):
  Calls Tryz.prog 160 #[.slice A n c,.int .i64 left] w fun e w'=>∃ r,e= .returned (.int .i64 r)/\Sz left n r/\w=w':=by
 go_enter Tryz.func160,Tryz.ntmps160;go_wp2
 all_goals (go_ret;exact ⟨_,rfl,by unfold Sz;omega,rfl⟩)
theorem szAct_calls (x:Act) (cs:List Value) (left:Int) (w:World) (hx:kActL.K w x cs) (h0:0<=left) (h1:left<=1048576):
  Calls Tryz.prog 121 #[.agg cs.toArray,.int .i64 left] w fun e w'=>∃ r,e= .returned (.int .i64 r)/\Sz left (szA x) r/\Below w.heap.size w w':=by
 obtain ⟨Ad,cd,Ak,ck,rfl,-,gd,-,gk⟩:=kActL_open hx;have md:=Kd.C_max gd;have mk:=Kd.C_max gk;clear gd gk hx;go_enter Tryz.func121,Tryz.ntmps121
 go_wp2_with (first
 |(go_at_call 160;refine (szDeedS_calls _ _ _ _ _ (by first|omega|(unfold Sz at *;omega)) (by first|omega|(unfold Sz at *;omega)) (by assumption)).mono ?_;rintro e w1 ⟨r,rfl,hs,rfl⟩)
 |(go_at_call 44;refine (szIntS_calls _ _ _ _ _ (by first|omega|(unfold Sz at *;omega)) (by first|omega|(unfold Sz at *;omega)) (by assumption)).mono ?_;rintro e w1 ⟨r,rfl,hs,rfl⟩))
 all_goals (go_ret;exact ⟨_,rfl,by unfold Sz szA at *;omega,by repeat (first|exact Below.refl _ _ | apply below_alloc)⟩)
theorem szActS_calls (xs:List Act) (A:Option Addr) (c:Nat) (left:Int) (w:World) (hx:kActL.C w A xs.length xs) (h0:0<=left) (h1:left<=1048576):
  Calls Tryz.prog 81 #[.slice A xs.length c,.int .i64 left] w fun e w'=>∃ r,e= .returned (.int .i64 r)/\Sz left (xs.length+sumOf szA xs) r/\Below w.heap.size w w':=by
 have hm:=Kd.C_max hx;have HX:=am hx;clear hx;go_enter Tryz.func81,Tryz.ntmps81;by_cases h:left < xs.length
 ·have hb:decide (left - (xs.length:Int) < 0)=true:=decide_eq_true (by omega)
  go_wp2;go_ret;exact ⟨_,rfl,by unfold Sz;omega,Below.refl _ _⟩
 ·have hb:decide (left - (xs.length:Int) < 0)=false:=decide_eq_false (by omega)
  go_wp2;go_loopw [1,5] (fun l v w'=>∃ (k:Nat) (r:Int),k<=xs.length/\v= .int .i64 k/\l= .int .i64 r/\0<=r/\r<=1048576/\Aside0 (r=left - xs.length - sumOf szA (xs.take k))/\Aside0 (Own w w' [])) (fun _ v _=>xs.length - (intOf v).toNat)
  case atStart=>exact ⟨0,_,Nat.zero_le _,rfl,rfl,by omega,by omega,⟨by simp [sumOf]⟩,⟨Own.nil w⟩⟩
  case round=>
   obtain ⟨k,r,hk,rfl,rfl,hr0,hr1,HR,M⟩:=hrel;have C:=M.out.cl;simp only [Cl] at C;by_cases hlt:k < xs.length
   ·have q0:(0:Int)<=(k:Int):=by omega
    have q1:(k:Int) < (xs.length:Int):=by omega
    obtain ⟨b,o,cs,rfl,hcl,hK,hcc,-⟩:=C_field HX.out zAct k hlt (by decide);have HT:=am (sumOf_take szA xs k zAct hlt);have HC:=am hcc;have HK:=am hK;clear hcc hK
    go_wp2_with (first
    |((with_reducible refine gL ?_);refine oR rfl rfl M.out HC.out ?_ (hu:=by rw [hcl];kernel_rfl))
    |(go_at_call 121;refine (szAct_calls _ _ _ _ (kActL.K_below M.out.below HK.out) (by omega) (by omega)).mono ?_;rintro e W ⟨r1,rfl,hs,hb⟩;have HS:=am hs;have hs1:=hs;clear hs;replace M:=am (M.out.step hb);clear C;have C:=M.out.cl;simp only [Cl] at C;clear hb))
    ·go_ret
     have hle:=sumOf_le szA xs (k+1);exact ⟨_,rfl,by have:=HR.out;have:=HT.out;have:=HS.out;unfold Sz at *;omega,M.out.below⟩
    ·go_roundw
     case rel=>exact ⟨k+1,r1,by omega,by go_num,rfl,by omega,by have:=HS.out;unfold Sz at *;omega,⟨by have:=HR.out;have:=HT.out;have:=HS.out;unfold Sz at *;omega⟩,⟨M.out⟩⟩
     case measure=>simp [intOf];omega
   ·obtain rfl:k=xs.length:=by omega
    have q1:¬ (xs.length:Int) < (xs.length:Int):=by omega
    go_wp2;go_ret;exact ⟨_,rfl,by have:=HR.out;rw [List.take_length] at this;unfold Sz;omega,M.out.below⟩
theorem szActSS_calls (xs:List (List Act)) (A:Option Addr) (c:Nat) (left:Int) (w:World) (hx:(Kd.slice 165 kActL).C w A xs.length xs) (h0:0<=left) (h1:left<=1048576):
  Calls Tryz.prog 45 #[.slice A xs.length c,.int .i64 left] w fun e w'=>∃ r,e= .returned (.int .i64 r)/\Sz left (xs.length+sumOf szAS xs) r/\Below w.heap.size w w':=by
 have hm:=Kd.C_max hx;have HX:=am hx;clear hx;go_enter Tryz.func45,Tryz.ntmps45;by_cases h:left < xs.length
 ·have hb:decide (left - (xs.length:Int) < 0)=true:=decide_eq_true (by omega)
  go_wp2;go_ret;exact ⟨_,rfl,by unfold Sz;omega,Below.refl _ _⟩
 ·have hb:decide (left - (xs.length:Int) < 0)=false:=decide_eq_false (by omega)
  go_wp2;go_loopw [1,5] (fun l v w'=>∃ (k:Nat) (r:Int),k<=xs.length/\v= .int .i64 k/\l= .int .i64 r/\0<=r/\r<=1048576/\Aside0 (r=left - xs.length - sumOf szAS (xs.take k))/\Aside0 (Own w w' [])) (fun _ v _=>xs.length - (intOf v).toNat)
  case atStart=>exact ⟨0,_,Nat.zero_le _,rfl,rfl,by omega,by omega,⟨by simp [sumOf]⟩,⟨Own.nil w⟩⟩
  case round=>
   obtain ⟨k,r,hk,rfl,rfl,hr0,hr1,HR,M⟩:=hrel;have C:=M.out.cl;simp only [Cl] at C;by_cases hlt:k < xs.length
   ·have q0:(0:Int)<=(k:Int):=by omega
    have q1:(k:Int) < (xs.length:Int):=by omega
    obtain ⟨b,o,cs,rfl,hcl,hK,hcc,-⟩:=C_field HX.out ([]:List Act) k hlt (by decide);have HT:=am (sumOf_take szAS xs k ([]:List Act) hlt);obtain ⟨x,hxx⟩:∃ x,x=xs.getD k []:=⟨_,rfl⟩;rw [<-hxx] at hK HT;clear hxx;have hsa:szAS x=x.length+sumOf szA x:=rfl;obtain ⟨Aa,ca,rfl,la,ga2⟩:=hK;have p2:=hcc 0 _ rfl;simp only [show (Kd.slice 165 kActL).sz=1 from rfl,Nat.mul_one,Nat.add_zero] at p2;have GA:=am ga2;replace M:=am (M.out.far p2);clear C p2 hcc hcl ga2 la;have C:=M.out.cl;simp only [Cl] at C
    go_wp2_with (first
    |(go_at_call 81;refine (szActS_calls _ _ _ _ _ (Kd.C_below GA.out M.out.below) (by omega) (by omega)).mono ?_;rintro e W ⟨r1,rfl,hs,hb⟩;have HS:=am hs;have hs1:=hs;clear hs;replace M:=am (M.out.step hb);clear C;have C:=M.out.cl;simp only [Cl] at C;clear hb))
    ·go_ret
     have hle:=sumOf_le szAS xs (k+1);exact ⟨_,rfl,by have:=HR.out;have:=HT.out;have:=HS.out;unfold Sz at *;omega,M.out.below⟩
    ·go_roundw
     case rel=>exact ⟨k+1,r1,by omega,by go_num,rfl,by omega,by have:=HS.out;unfold Sz at *;omega,⟨by have:=HR.out;have:=HT.out;have:=HS.out;unfold Sz at *;omega⟩,⟨M.out.pop⟩⟩
     case measure=>simp [intOf];omega
   ·obtain rfl:k=xs.length:=by omega
    have q1:¬ (xs.length:Int) < (xs.length:Int):=by omega
    go_wp2;go_ret;exact ⟨_,rfl,by have:=HR.out;rw [List.take_length] at this;unfold Sz;omega,M.out.below⟩
theorem szProg_calls (x:Prog) (cs:List Value) (left:Int) (w:World) (hx:kProgL.K w x cs) (h0:0<=left) (h1:left<=1048576):
  Calls Tryz.prog 14 #[.agg cs.toArray,.int .i64 left] w fun e w'=>∃ r,e= .returned (.int .i64 r)/\Sz left (szP x) r/\Below w.heap.size w w':=by
 obtain ⟨Ac,cc,Ab,cb,rfl,-,gc,-,gb⟩:=kProgL_open hx;have mc:=Kd.C_max gc;have GB:=am gb;have M:=am (Own.nil w);have C:=M.out.cl;clear gc gb hx;go_enter Tryz.func14,Tryz.ntmps14
 go_wp2_with (first
 |((first|with_reducible refine gB ?_ | with_reducible refine gA ?_);refine oB rfl M.out ?_;clear M C;intro g W M C;simp only [Cl] at C)
 |(go_at_call 44;refine (szIntS_calls _ _ _ _ _ (by first|omega|(unfold Sz at *;omega)) (by first|omega|(unfold Sz at *;omega)) (by assumption)).mono ?_;rintro e w1 ⟨r,rfl,hs,rfl⟩)
 |(go_at_call 45;refine (szActSS_calls _ _ _ _ _ (Kd.C_below GB.out M.out.below) (by first|omega|(unfold Sz at *;omega)) (by first|omega|(unfold Sz at *;omega))).mono ?_;rintro e W ⟨r1,rfl,hs,hb⟩;have HS:=am hs;have hs1:=hs;clear hs;replace M:=am (M.out.step hb);clear C;have C:=M.out.cl;simp only [Cl] at C;clear hb))
 all_goals (go_ret;exact ⟨_,rfl,by unfold Sz szP at *;omega,M.out.below⟩)
theorem toDeed_calls (x:Deed) (cs:List Value) (w:World) (hx:kDeedL.K w x cs):
  Calls Tryz.prog 190 #[.agg cs.toArray] w fun e w'=>∃ ds,e= .returned (.agg ds.toArray)/\kDeed.M w' w.heap.size (fun _=>True) x ds/\Below w.heap.size w w':=by
 obtain rfl:=kDeedL_open hx;go_enter Tryz.func190,Tryz.ntmps190;go_wp2;refine bodyPost_ret (v:=.agg #[.int .i64 x.kind,.int .i64 x.a,.int .i64 x.b]) (by simp [results,Tryz.results190,go_sem]) rfl ⟨_,rfl,kDeed_mkM x, ?_⟩;repeat (first|exact Below.refl _ _ | refine below_alloc ?_ _)
theorem kDeed_zero (w:World) (base:Nat) (ok:Nat->Prop):kDeed.M w base ok zDeed [.int .i64 0,.int .i64 0,.int .i64 0]:=kDeed_mkM zDeed
theorem kAct_zero (w:World) (base:Nat) (ok:Nat->Prop):kAct.M w base ok zAct [.int .i64 0,.slice none 0 0,.slice none 0 0,.int .i64 0]:=kAct_mkM zAct (Kd.R_nil _ _ _ _ _) (Kd.R_nil _ _ _ _ _)
theorem kActs_zero (w:World) (base:Nat) (ok:Nat->Prop):(Kd.slice 68 kAct).M w base ok ([]:List Act) [.slice none 0 0]:=⟨_,rfl,Kd.R_nil _ _ _ _ _⟩
theorem toDeedS_calls (xs:List Deed) (A:Option Addr) (c:Nat) (w:World) (hx:kDeedL.C w A xs.length xs) (hn:xs.length<=1048576):
  Calls Tryz.prog 161 #[.slice A xs.length c] w fun e w'=>∃ v,e= .returned v/\kDeed.R 197 w' w.heap.size (fun _=>True) v xs/\Below w.heap.size w w':=by
 have HX:=am hx;clear hx;go_enter Tryz.func161,Tryz.ntmps161;go_wp2_with ((with_reducible refine gate_dst (N:=7) rfl ?_);refine Kd.R_make (w0:=w) kDeed w.heap.size 197 rfl (N:=7) rfl 66 _ _ rfl (xs.length:Int) rfl rfl Tryz.underlying66 (.agg #[.int .i64 0,.int .i64 0,.int .i64 0]) 24 (by kernel_rfl) rfl (by decide) (by omega) zDeed (ok:=fun _=>True) (okp:=fun _=>True) (kDeed_zero _ _ _) (fun _ hk=>hk) trivial (by omega) (by omega) (Below.refl _ _) (Nat.le_refl _) ?_;intro v w1 ho hb _ _;have HO:=am ho;have HB:=am hb;clear ho hb)
 go_loopw [4] (fun i w'=>∃ k:Nat,k<=xs.length/\i= .int .i64 k/\Aside0 (kDeed.R 197 w' w.heap.size (fun _=>True) v (upTo xs zDeed k))/\Aside0 (Below w.heap.size w w')) (fun i _=>xs.length - (intOf i).toNat)
 case atStart=>exact ⟨0,Nat.zero_le _,rfl,⟨by rw [upTo_zero];simpa using HO.out⟩,HB⟩
 case round=>
  clear HO HB;obtain ⟨k,hk,rfl,HO,HB⟩:=hrel;by_cases hlt:k < xs.length
  ·have hl:=upTo_length xs zDeed hk
   have HS:=am (upTo_set xs zDeed hlt);have q0:(0:Int)<=(k:Int):=by omega
   have q1:(k:Int) < (xs.length:Int):=by omega
   obtain ⟨ad,cs,rfl,hcl,hK,hcc⟩:=Kd.C_get (Kd.C_below HX.out HB.out) zDeed (k:Int) q0 q1;obtain ⟨g,cap,rfl,hg1,hg2,hg3⟩:=Kd.R_form HO.out (by omega);rw [hl] at*;simp only [Int.toNat_natCast] at hK hcc;have HK:=am hK;have HCC:=am hcc;clear hK hcc hg3
   go_wp2_with (first
   |((with_reducible refine gate_dst (N:=19) rfl ?_);refine load_struct rfl 222 (.tmp 18) rfl ad (k*3) rfl cs _ HCC.out (by rw [hcl];decide) Tryz.underlying222 rfl (by rw [hcl];kernel_rfl) ?_)
   |(go_at_call 190;refine (toDeed_calls _ _ _ HK.out).mono ?_;rintro e w1 ⟨ds,rfl,hm,hb⟩;have HM:=am hm;have HO2:=am (Kd.R_below HO.out hb);have HB2:=am (below_step HB.out hb);clear hm hb HO HB)
   |((with_reducible refine gate_store (t:=197) (p:=21) rfl ?_);obtain ⟨ce,hce,_,hcc2,_⟩:=Kd.R_elem HO2.out zDeed (k:Int) q0 q1;have hdl:=kDeed.K_len (kDeed.K_of_M HM.out);refine Kd.R_store (w0:=w) kDeed w.heap.size rfl rfl 197 (.tmp 21) (.tmp 20) rfl 197 (k:Int) 0 (upTo xs zDeed k) (xs.getD k zDeed) (.agg ds.toArray) ds ce (fun _=>True) (fun k'=>g < k') rfl (by simp;rfl) rfl rfl (by rw [hdl];kernel_rfl) (kDeed.K_one (kDeed.K_of_M HM.out)) HO2.out q0 q1 hce hcc2 (by rw [hdl];exact Nat.le_refl _) (M_all (by rw [hce,hdl];exact Nat.le_refl _) (by omega) (by omega) HM.out) (fun k' hk'=>⟨trivial,Nat.ne_of_gt hk'⟩) HB2.out ?_;intro w2 ho hb hgr;simp only [Int.toNat_natCast] at ho;rw [HS.out] at ho;have HO3:=am ho;have HB3:=am hb;clear ho hb hgr))
   go_roundw
   case rel=>exact ⟨k+1,by omega,by go_num,HO3,HB3⟩
   case measure=>simp [intOf];omega
  ·go_wp2
   go_ret;obtain rfl:k=xs.length:=by omega
   exact ⟨_,rfl,by rw [upTo_all] at HO;exact HO.out,HB.out⟩
theorem toAct_calls (x:Act) (cs:List Value) (w:World) (hx:kActL.K w x cs) (hn:szA x<=1048576):
  Calls Tryz.prog 123 #[.agg cs.toArray] w fun e w'=>∃ ds,e= .returned (.agg ds.toArray)/\kAct.M w' w.heap.size (fun _=>True) x ds/\Below w.heap.size w w':=by
 obtain ⟨A1,c1,A2,c2,rfl,l1,g1,l2,g2⟩:=kActL_open hx;unfold szA at hn;have G:=am (And.intro g1 g2);have HB:=am (Below.refl w.heap.size w);clear g1 g2 l1 l2 hx;go_enter Tryz.func123,Tryz.ntmps123;go_wp2_with fail
 refine (toDeedS_calls _ _ _ _ ?h1 (by omega)).mono ?_
 case h1=>exact Kd.C_below (w:=w) G.out.1 (by repeat (first|with_reducible exact HB.out | with_reducible refine below_alloc ?_ _ | with_reducible refine below_set ?_ ?_ | omega))
 rintro e w1 ⟨v1,rfl,ho,hb⟩;obtain ⟨A1',c1',rfl⟩:=Kd.R_slice ho;have O1:=am (R_up (base:=w.heap.size) (n:=w.heap.size+2) ho (by simp <;> omega) (by simp <;> omega));have hz:=bsize hb;(try simp at hz);have q10:w.heap.size < w1.heap.size:=(by omega);have q11:w.heap.size+1 < w1.heap.size:=(by omega);have q12:w.heap.size+1+1 < w1.heap.size:=(by omega);obtain ⟨hc1,hf1⟩:=bcell hb;have HB1:=am (below_step (w:=w) (by repeat (first|with_reducible exact HB.out | with_reducible refine below_alloc ?_ _ | with_reducible refine below_set ?_ ?_ | omega)) hb);clear HB;have HB:=HB1;clear HB1 hb ho hz;go_wp2_with fail
 refine (toIntS_calls _ _ _ _ ?h1 (by omega)).mono ?_
 case h1=>exact Kd.C_below (w:=w) G.out.2 (by repeat (first|with_reducible exact HB.out | with_reducible refine below_alloc ?_ _ | with_reducible refine below_set ?_ ?_ | omega))
 rintro e w2 ⟨v2,rfl,ho,hb⟩;obtain ⟨A2',c2',rfl⟩:=Kd.R_slice ho;have O2:=am (R_up (base:=w.heap.size) (n:=w.heap.size+2) ho (by simp <;> omega) (by simp <;> omega));have P1:=am (Kd.R_below (show Kd.R kDeed 197 _ w.heap.size (fun k=>w.heap.size+2 < k) (.slice A1' x.deeds.length c1') x.deeds from by repeat (first|with_reducible exact O1.out | with_reducible refine R_farN ?_ ?_ | omega)) hb);clear O1;have O1:=P1;clear P1;have hz:=bsize hb;(try simp at hz);have q20:w.heap.size < w2.heap.size:=(by omega);have q21:w.heap.size+1 < w2.heap.size:=(by omega);have q22:w.heap.size+1+1 < w2.heap.size:=(by omega);obtain ⟨hc2,hf2⟩:=bcell hb;have HB1:=am (below_step (w:=w) (by repeat (first|with_reducible exact HB.out | with_reducible refine below_alloc ?_ _ | with_reducible refine below_set ?_ ?_ | omega)) hb);clear HB;have HB:=HB1;clear HB1 hb ho hz;go_wp2_with fail
 refine bodyPost_ret (v:=.agg #[.int .i64 x.kind,.slice A1' x.deeds.length c1',.slice A2' x.kids.length c2',.int .i64 x.reg]) (by simp [results,Tryz.results123,go_sem,hc1,hf1,q10,q11,q12,hc2,hf2,q20,q21,q22]) rfl ⟨_,rfl,kAct_mkM x ?_ ?_,(by repeat (first|with_reducible exact HB.out | with_reducible refine below_alloc ?_ _ | with_reducible refine below_set ?_ ?_ | omega))⟩
 ·exact R_any (show Kd.R kDeed 197 _ w.heap.size (fun k=>w.heap.size+2 < k) (.slice A1' x.deeds.length c1') x.deeds from by repeat (first|with_reducible exact O1.out | with_reducible refine R_farN ?_ ?_ | omega))
 ·exact R_any (show Kd.R (Kd.int .i64) 3 _ w.heap.size (fun k=>w.heap.size+2 < k) (.slice A2' x.kids.length c2') x.kids from by repeat (first|with_reducible exact O2.out | with_reducible refine R_farN ?_ ?_ | omega))
theorem toActS_calls (xs:List Act) (A:Option Addr) (c:Nat) (w:World) (hx:kActL.C w A xs.length xs) (hn:xs.length<=1048576) (hs:sumOf szA xs<=1048576):
  Calls Tryz.prog 85 #[.slice A xs.length c] w fun e w'=>∃ v,e= .returned v/\kAct.R 68 w' w.heap.size (fun _=>True) v xs/\Below w.heap.size w w':=by
 have HX:=am hx;clear hx;go_enter Tryz.func85,Tryz.ntmps85;go_wp2_with ((with_reducible refine gate_dst (N:=7) rfl ?_);refine Kd.R_make (w0:=w) kAct w.heap.size 68 rfl (N:=7) rfl 60 _ _ rfl (xs.length:Int) rfl rfl Tryz.underlying60 (.agg #[.int .i64 0,.slice none 0 0,.slice none 0 0,.int .i64 0]) 64 (by kernel_rfl) rfl (by decide) (by omega) zAct (ok:=fun _=>True) (okp:=fun _=>True) (kAct_zero _ _ _) (fun _ hk=>hk) trivial (by omega) (by omega) (Below.refl _ _) (Nat.le_refl _) ?_;intro v w1 ho hb _ _;have HO:=am ho;have HB:=am hb;clear ho hb)
 go_loopw [4] (fun i w'=>∃ k:Nat,k<=xs.length/\i= .int .i64 k/\Aside0 (kAct.R 68 w' w.heap.size (fun _=>True) v (upTo xs zAct k))/\Aside0 (Below w.heap.size w w')) (fun i _=>xs.length - (intOf i).toNat)
 case atStart=>exact ⟨0,Nat.zero_le _,rfl,⟨by rw [upTo_zero];simpa using HO.out⟩,HB⟩
 case round=>
  clear HO HB;obtain ⟨k,hk,rfl,HO,HB⟩:=hrel;by_cases hlt:k < xs.length
  ·have hl:=upTo_length xs zAct hk
   have HS:=am (upTo_set xs zAct hlt);have q0:(0:Int)<=(k:Int):=by omega
   have q1:(k:Int) < (xs.length:Int):=by omega
   have hsz:szA (xs.getD k zAct)<=1048576:=by have h1:=sumOf_take szA xs k zAct hlt;have h2:=sumOf_le szA xs (k+1);omega
   obtain ⟨ad,cs,rfl,hcl,hK,hcc⟩:=Kd.C_get (Kd.C_below HX.out HB.out) zAct (k:Int) q0 q1;obtain ⟨g,cap,rfl,hg1,hg2,hg3⟩:=Kd.R_form HO.out (by omega);rw [hl] at*;simp only [Int.toNat_natCast] at hK hcc;have HK:=am hK;have HCC:=am hcc;clear hK hcc hg3
   go_wp2_with (first
   |((with_reducible refine gate_dst (N:=19) rfl ?_);refine load_struct rfl 165 (.tmp 18) rfl ad (k*4) rfl cs _ HCC.out (by rw [hcl];decide) Tryz.underlying165 rfl (by rw [hcl];kernel_rfl) ?_)
   |(go_at_call 123;refine (toAct_calls _ _ _ HK.out hsz).mono ?_;rintro e w1 ⟨ds,rfl,hm,hb⟩;have HM:=am hm;have HO2:=am (Kd.R_below HO.out hb);have HB2:=am (below_step HB.out hb);clear hm hb HO HB)
   |((with_reducible refine gate_store (t:=68) (p:=21) rfl ?_);obtain ⟨ce,hce,_,hcc2,_⟩:=Kd.R_elem HO2.out zAct (k:Int) q0 q1;have hdl:=kAct.K_len (kAct.K_of_M HM.out);refine Kd.R_store (w0:=w) kAct w.heap.size rfl rfl 68 (.tmp 21) (.tmp 20) rfl 68 (k:Int) 0 (upTo xs zAct k) (xs.getD k zAct) (.agg ds.toArray) ds ce (fun _=>True) (fun k'=>g < k') rfl (by simp;rfl) rfl rfl (by rw [hdl];kernel_rfl) (kAct.K_one (kAct.K_of_M HM.out)) HO2.out q0 q1 hce hcc2 (by rw [hdl];exact Nat.le_refl _) (M_all (by rw [hce,hdl];exact Nat.le_refl _) (by omega) (by omega) HM.out) (fun k' hk'=>⟨trivial,Nat.ne_of_gt hk'⟩) HB2.out ?_;intro w2 ho hb hgr;simp only [Int.toNat_natCast] at ho;rw [HS.out] at ho;have HO3:=am ho;have HB3:=am hb;clear ho hb hgr))
   go_roundw
   case rel=>exact ⟨k+1,by omega,by go_num,HO3,HB3⟩
   case measure=>simp [intOf];omega
  ·go_wp2
   go_ret;obtain rfl:k=xs.length:=by omega
   exact ⟨_,rfl,by rw [upTo_all] at HO;exact HO.out,HB.out⟩
theorem toActSS_calls (xs:List (List Act)) (A:Option Addr) (c:Nat) (w:World) (hx:(Kd.slice 165 kActL).C w A xs.length xs) (hn:xs.length<=1048576) (hs:sumOf szAS xs<=1048576):
  Calls Tryz.prog 51 #[.slice A xs.length c] w fun e w'=>∃ v,e= .returned v/\(Kd.slice 68 kAct).R 60 w' w.heap.size (fun _=>True) v xs/\Below w.heap.size w w':=by
 have HX:=am hx;clear hx;go_enter Tryz.func51,Tryz.ntmps51;go_wp2_with ((with_reducible refine gate_dst (N:=7) rfl ?_);refine Kd.R_make (w0:=w) (Kd.slice 68 kAct) w.heap.size 60 rfl (N:=7) rfl 34 _ _ rfl (xs.length:Int) rfl rfl Tryz.underlying34 (.slice none 0 0) 24 (by kernel_rfl) rfl (by decide) (by omega) ([]:List Act) (ok:=fun _=>True) (okp:=fun _=>True) (kActs_zero _ _ _) (fun _ hk=>hk) trivial (by omega) (by omega) (Below.refl _ _) (Nat.le_refl _) ?_;intro v w1 ho hb _ _;have HO:=am ho;have HB:=am hb;clear ho hb)
 go_loopw [4] (fun i w'=>∃ k:Nat,k<=xs.length/\i= .int .i64 k/\Aside0 ((Kd.slice 68 kAct).R 60 w' w.heap.size (fun _=>True) v (upTo xs ([]:List Act) k))/\Aside0 (Below w.heap.size w w')) (fun i _=>xs.length - (intOf i).toNat)
 case atStart=>exact ⟨0,Nat.zero_le _,rfl,⟨by rw [upTo_zero];simpa using HO.out⟩,HB⟩
 case round=>
  clear HO HB;obtain ⟨k,hk,rfl,HO,HB⟩:=hrel;by_cases hlt:k < xs.length
  ·have hl:=upTo_length xs ([]:List Act) hk
   have HS:=am (upTo_set xs ([]:List Act) hlt);have q0:(0:Int)<=(k:Int):=by omega
   have q1:(k:Int) < (xs.length:Int):=by omega
   have hsz:szAS (xs.getD k ([]:List Act))<=1048576:=by have h1:=sumOf_take szAS xs k ([]:List Act) hlt;have h2:=sumOf_le szAS xs (k+1);omega
   obtain ⟨ad,cs,rfl,hcl,hK,hcc⟩:=Kd.C_get (Kd.C_below HX.out HB.out) ([]:List Act) (k:Int) q0 q1;obtain ⟨g,cap,rfl,hg1,hg2,hg3⟩:=Kd.R_form HO.out (by omega);rw [hl] at*;simp only [Int.toNat_natCast] at hK hcc;obtain ⟨x,hxx⟩:∃ x,x=xs.getD k ([]:List Act):=⟨_,rfl⟩;rw [<-hxx] at hK hsz HS;have hsa:x.length<=1048576/\sumOf szA x<=1048576:=by unfold szAS at hsz;omega
   clear hxx hsz;obtain ⟨Aa,ca,rfl,la,ga2⟩:=hK;have p2:=hcc 0 _ rfl;simp only [show (Kd.slice 165 kActL).sz=1 from rfl,Nat.mul_one,Nat.add_zero] at p2;have GA:=am ga2;clear hcc hcl ga2 la hg3
   go_wp2_with (first
   |(go_at_call 85;refine (toActS_calls _ _ _ _ GA.out hsa.1 hsa.2).mono ?_;rintro e w1 ⟨v1,rfl,hm,hb⟩;obtain ⟨A9,c9,rfl⟩:=Kd.R_slice hm;have HM:=am hm;have HO2:=am (Kd.R_below HO.out hb);have HB2:=am (below_step HB.out hb);clear hm hb HO HB)
   |((with_reducible refine gate_store (t:=60) (p:=21) rfl ?_);obtain ⟨ce,hce,_,hcc2,_⟩:=Kd.R_elem HO2.out ([]:List Act) (k:Int) q0 q1;(refine Kd.R_store (w0:=w) (Kd.slice 68 kAct) w.heap.size rfl rfl 60 (.tmp 21) (.tmp 20) rfl 60 (k:Int) 0 (upTo xs ([]:List Act) k) x (.slice A9 x.length c9) [.slice A9 x.length c9] ce (fun _=>True) (fun k'=>g < k') rfl (by simp [show (Kd.slice 68 kAct).sz=1 from rfl]) rfl rfl (by kernel_rfl) (fun q hq=>by rw [List.mem_singleton.1 hq];rfl) HO2.out q0 q1 hce hcc2 (Nat.le_refl _) (M_all (by rw [hce];exact Nat.le_refl _) (by omega) (by omega) ⟨_,rfl,HM.out⟩) (fun k' hk'=>⟨trivial,Nat.ne_of_gt hk'⟩) HB2.out ?_);intro w2 ho hb hgr;simp only [Int.toNat_natCast] at ho;rw [HS.out] at ho;have HO3:=am ho;have HB3:=am hb;clear ho hb hgr))
   go_roundw
   case rel=>exact ⟨k+1,by omega,by go_num,HO3,HB3⟩
   case measure=>simp [intOf];omega
  ·go_wp2
   go_ret;obtain rfl:k=xs.length:=by omega
   exact ⟨_,rfl,by rw [upTo_all] at HO;exact HO.out,HB.out⟩
theorem toProg_calls (x:Prog) (cs:List Value) (w:World) (hx:kProgL.K w x cs) (hn:szP x<=1048576):
  Calls Tryz.prog 17 #[.agg cs.toArray] w fun e w'=>∃ ds,e= .returned (.agg ds.toArray)/\kProg.M w' w.heap.size (fun _=>True) x ds/\Below w.heap.size w w':=by
 obtain ⟨A0,c0,A1,c1,rfl,l0,g0,l1,g1⟩:=kProgL_open hx;unfold szP at hn;have G:=am (And.intro g0 g1);have HB:=am (Below.refl w.heap.size w);clear g0 g1 l0 l1 hx;go_enter Tryz.func17,Tryz.ntmps17;go_wp2_with fail
 refine (toIntS_calls _ _ _ _ ?h1 (by omega)).mono ?_
 case h1=>exact Kd.C_below (w:=w) G.out.1 (by repeat (first|with_reducible exact HB.out | with_reducible refine below_alloc ?_ _ | with_reducible refine below_set ?_ ?_ | omega))
 rintro e w0 ⟨v0,rfl,ho,hb⟩;obtain ⟨A0',c0',rfl⟩:=Kd.R_slice ho;have O0:=am (R_up (base:=w.heap.size) (n:=w.heap.size+2) ho (by simp <;> omega) (by simp <;> omega));have hz:=bsize hb;(try simp at hz);have q00:w.heap.size < w0.heap.size:=(by omega);have q01:w.heap.size+1 < w0.heap.size:=(by omega);have q02:w.heap.size+1+1 < w0.heap.size:=(by omega);obtain ⟨hc0,hf0⟩:=bcell hb;have HB1:=am (below_step (w:=w) (by repeat (first|with_reducible exact HB.out | with_reducible refine below_alloc ?_ _ | with_reducible refine below_set ?_ ?_ | omega)) hb);clear HB;have HB:=HB1;clear HB1 hb ho hz;go_wp2_with fail
 refine (toActSS_calls _ _ _ _ ?h1 (by omega) (by omega)).mono ?_
 case h1=>exact Kd.C_below (w:=w) G.out.2 (by repeat (first|with_reducible exact HB.out | with_reducible refine below_alloc ?_ _ | with_reducible refine below_set ?_ ?_ | omega))
 rintro e w1 ⟨v1,rfl,ho,hb⟩;obtain ⟨A1',c1',rfl⟩:=Kd.R_slice ho;have O1:=am (R_up (base:=w.heap.size) (n:=w.heap.size+2) ho (by simp <;> omega) (by simp <;> omega));have P0:=am (Kd.R_below (show Kd.R (Kd.int .i64) 3 _ w.heap.size (fun k=>w.heap.size+2 < k) (.slice A0' x.cells.length c0') x.cells from by repeat (first|with_reducible exact O0.out | with_reducible refine R_farN ?_ ?_ | omega)) hb);clear O0;have O0:=P0;clear P0;have hz:=bsize hb;(try simp at hz);have q10:w.heap.size < w1.heap.size:=(by omega);have q11:w.heap.size+1 < w1.heap.size:=(by omega);have q12:w.heap.size+1+1 < w1.heap.size:=(by omega);obtain ⟨hc1,hf1⟩:=bcell hb;have HB1:=am (below_step (w:=w) (by repeat (first|with_reducible exact HB.out | with_reducible refine below_alloc ?_ _ | with_reducible refine below_set ?_ ?_ | omega)) hb);clear HB;have HB:=HB1;clear HB1 hb ho hz;go_wp2_with fail
 refine bodyPost_ret (v:=.agg #[.slice A0' x.cells.length c0',.slice A1' x.bodies.length c1']) (by simp [results,Tryz.results17,go_sem,hc0,hf0,q00,q01,q02,hc1,hf1,q10,q11,q12]) rfl ⟨_,rfl,kProg_mkM x ?_ ?_,(by repeat (first|with_reducible exact HB.out | with_reducible refine below_alloc ?_ _ | with_reducible refine below_set ?_ ?_ | omega))⟩
 ·exact R_any (show Kd.R (Kd.int .i64) 3 _ w.heap.size (fun k=>w.heap.size+2 < k) (.slice A0' x.cells.length c0') x.cells from by repeat (first|with_reducible exact O0.out | with_reducible refine R_farN ?_ ?_ | omega))
 ·exact R_any (show Kd.R (Kd.slice 68 kAct) 60 _ w.heap.size (fun k=>w.heap.size+2 < k) (.slice A1' x.bodies.length c1') x.bodies from by repeat (first|with_reducible exact O1.out | with_reducible refine R_farN ?_ ?_ | omega))
theorem Deed_ext (x y:Deed):x=y ↔ x.kind=y.kind/\x.a=y.a/\x.b=y.b:=by cases x;cases y;simp
theorem eqDeed_calls (x y:Deed) (cs ds:List Value) (w:World) (hx:kDeed.K w x cs) (hy:kDeed.K w y ds):
  Calls Tryz.prog 193 #[.agg cs.toArray,.agg ds.toArray] w fun e w'=>e= .returned (.bool (decide (x=y)))/\Below w.heap.size w w':=by
 obtain rfl:=kDeed_open hx;obtain rfl:=kDeed_open hy;clear hx hy;have HB:=am (Below.refl w.heap.size w);go_enter Tryz.func193,Tryz.ntmps193;go_wp2_with fail
 all_goals (go_ret;refine ⟨ret_bool ?_,(by repeat (first|with_reducible exact HB.out | with_reducible refine below_alloc ?_ _ | with_reducible refine pw_below_drewN ?_ _))⟩)
 all_goals (first|(rw [decide_eq_true];simp_all [Deed_ext];done)|(rw [decide_eq_false];simp_all [Deed_ext];done))
theorem eqDeedS_calls (xs ys:List Deed) (A B:Option Addr) (c d:Nat) (w:World) (hx:kDeed.C w A xs.length xs) (hy:kDeed.C w B ys.length ys):
  Calls Tryz.prog 172 #[.slice A xs.length c,.slice B ys.length d] w fun e w'=>e= .returned (.bool (decide (xs=ys)))/\Below w.heap.size w w':=by
 have HX:=am hx;have HY:=am hy;have hm:=Kd.C_max hx;clear hx hy;by_cases hl:xs.length=ys.length
 ·have hlb:((xs.length:Int) != (ys.length:Int))=false:=by rw [hl];simp
  have HL:=am hl;clear hl;go_enter Tryz.func172,Tryz.ntmps172;go_wp2;have HLB:=am hlb;clear hlb;go_loopw [5] (fun v w'=>∃ k:Nat,k<=xs.length/\v= .int .i64 k/\Aside0 (∀ j,j < k->xs[j]? = ys[j]?)/\Aside0 (Below w.heap.size w w')) (fun v _=>xs.length - (intOf v).toNat)
  case atStart=>exact ⟨0,Nat.zero_le _,rfl,⟨fun j hj=>by omega⟩,⟨Below.refl _ _⟩⟩
  case round=>
   obtain ⟨k,hk,rfl,HJ,HB⟩:=hrel;by_cases hlt:k < xs.length
   ·have hlt2:k < ys.length:=by rw [<-HL.out];exact hlt
    have h0:(0:Int)<=(k:Int):=by omega
    have h1:(k:Int) < (xs.length:Int):=by omega
    have h2:(k:Int) < (ys.length:Int):=by omega
    obtain ⟨ax,cs,rfl,hcl,hK,hcc⟩:=Kd.C_get (Kd.C_below HX.out HB.out) zDeed (k:Int) h0 h1;obtain ⟨ay,ds,rfl,hdl,hL,hdd⟩:=Kd.C_get (Kd.C_below HY.out HB.out) zDeed (k:Int) h0 h2;simp only [Int.toNat_natCast] at hK hcc hL hdd;have HK:=am hK;have HCC:=am hcc;have HK2:=am hL;have HDD:=am hdd;clear hK hcc hL hdd;go_wp2;refine wp_region_still_tail 8 (by kernel_rfl) (by kernel_rfl) ?_;simp only [List.take_succ_cons,List.take_zero,List.drop_succ_cons,List.drop_zero];iterate 3 still_step
    refine still_load_struct rfl 197 (.tmp 19) rfl ax (k*3) rfl cs _ HCC.out (by rw [hcl];decide) Tryz.underlying197 rfl (by rw [hcl];kernel_rfl) ?_;iterate 3 still_step
    refine still_load_struct rfl 197 (.tmp 23) rfl ay (k*3) rfl ds _ HDD.out (by rw [hdl];decide) Tryz.underlying197 rfl (by rw [hdl];kernel_rfl) ?_;refine wpStill_nil ?_;by_cases he:xs.getD k zDeed=ys.getD k zDeed
    ·have HE:=am he
     clear he;go_wp2_with (go_at_call 193;refine (eqDeed_calls _ _ _ _ _ (kDeed.K_below (below_drew (Below.refl _ _)) HK.out) (kDeed.K_below (below_drew (Below.refl _ _)) HK2.out)).mono ?_;rw [decide_eq_true HE.out];rintro e w1 ⟨rfl,hb⟩;have HB1:=am (below_step (below_drew HB.out) hb);clear hb HB)
     go_roundw
     case rel=>exact ⟨k+1,by omega,by go_num,⟨fun j hj=>agree_step HJ.out hlt hlt2 HE.out hj⟩,HB1⟩
     case measure=>simp [intOf];omega
    ·have HE:=am he
     clear he;go_wp2_with (go_at_call 193;refine (eqDeed_calls _ _ _ _ _ (kDeed.K_below (below_drew (Below.refl _ _)) HK.out) (kDeed.K_below (below_drew (Below.refl _ _)) HK2.out)).mono ?_;rw [decide_eq_false HE.out];rintro e w1 ⟨rfl,hb⟩;have HB1:=am (below_step (below_drew HB.out) hb);clear hb HB)
     go_ret;exact ⟨ret_bool (decide_eq_false (fun h=>HE.out (by rw [h]))).symm,HB1.out⟩
   ·go_wp2
    go_ret;exact ⟨ret_bool (decide_eq_true (agree_all xs ys HL.out (fun j hj=>HJ.out j (by omega)))).symm,HB.out⟩
 ·have hlb:((xs.length:Int) != (ys.length:Int))=true:=by simp;omega
  have hlc:(xs.length != ys.length)=true:=by simp;omega
  have hld:(xs.length == ys.length)=false:=by simp;omega
  have HL:=am hl;clear hl;go_enter Tryz.func172,Tryz.ntmps172;go_wp2;go_ret;exact ⟨ret_bool (decide_eq_false (fun h=>HL.out (by rw [h]))).symm,Below.refl _ _⟩
theorem Act_ext (x y:Act):x=y ↔ x.kind=y.kind/\x.deeds=y.deeds/\x.kids=y.kids/\x.reg=y.reg:=by cases x;cases y;simp
theorem eqAct_calls (x y:Act) (cs ds:List Value) (w:World) (hx:kAct.K w x cs) (hy:kAct.K w y ds):
  Calls Tryz.prog 138 #[.agg cs.toArray,.agg ds.toArray] w fun e w'=>e= .returned (.bool (decide (x=y)))/\Below w.heap.size w w':=by
 obtain ⟨A3,c3,A8,c8,rfl,l3,g3,l8,g8⟩:=kAct_open hx;obtain ⟨B3,d3,B8,d8,rfl,m3,h3,m8,h8⟩:=kAct_open hy;have G:=am (And.intro g3 g8);have H:=am (And.intro h3 h8);clear g3 g8 h3 h8 l3 l8 m3 m8 hx hy;go_enter Tryz.func138,Tryz.ntmps138;have HB:=am (Below.refl w.heap.size w)
 go_wp2_with (first
 |(go_at_call 172;refine (eqDeedS_calls _ _ _ _ _ _ _ ?h1 ?h2).mono ?_;(case h1=>exact Kd.C_below (w:=w) (by first|exact G.out.1) (by repeat (first|with_reducible exact HB.out | with_reducible refine below_alloc ?_ _ | with_reducible refine pw_below_drewN ?_ _)));(case h2=>exact Kd.C_below (w:=w) (by first|exact H.out.1) (by repeat (first|with_reducible exact HB.out | with_reducible refine below_alloc ?_ _ | with_reducible refine pw_below_drewN ?_ _)));rintro e w1 ⟨rfl,hb⟩;replace HB:=am (below_step (w:=w) (by repeat (first|with_reducible exact HB.out | with_reducible refine below_alloc ?_ _ | with_reducible refine pw_below_drewN ?_ _)) hb);have hz:=bsize hb;(try simp at hz);have q0:w.heap.size < w1.heap.size:=(by omega);have q1:w.heap.size+1 < w1.heap.size:=(by omega);clear hz;obtain ⟨hc,hf⟩:=bcell hb;clear hb)
 |(go_at_call 20;refine (eqIntS_calls _ _ _ _ _ _ _ ?h1 ?h2).mono ?_;(case h1=>exact Kd.C_below (w:=w) (by first|exact G.out.2) (by repeat (first|with_reducible exact HB.out | with_reducible refine below_alloc ?_ _ | with_reducible refine pw_below_drewN ?_ _)));(case h2=>exact Kd.C_below (w:=w) (by first|exact H.out.2) (by repeat (first|with_reducible exact HB.out | with_reducible refine below_alloc ?_ _ | with_reducible refine pw_below_drewN ?_ _)));rintro e w1 ⟨rfl,⟨n,rfl⟩⟩))
 all_goals (go_ret;refine ⟨ret_bool ?_,(by repeat (first|with_reducible exact HB.out | with_reducible refine below_alloc ?_ _ | with_reducible refine pw_below_drewN ?_ _))⟩)
 all_goals (first|(rw [decide_eq_true];simp_all [Act_ext];done)|(rw [decide_eq_false];simp_all [Act_ext];done))
theorem eqActS_calls (xs ys:List Act) (A B:Option Addr) (c d:Nat) (w:World) (hx:kAct.C w A xs.length xs) (hy:kAct.C w B ys.length ys):
  Calls Tryz.prog 94 #[.slice A xs.length c,.slice B ys.length d] w fun e w'=>e= .returned (.bool (decide (xs=ys)))/\Below w.heap.size w w':=by
 have HX:=am hx;have HY:=am hy;have hm:=Kd.C_max hx;clear hx hy;by_cases hl:xs.length=ys.length
 ·have hlb:((xs.length:Int) != (ys.length:Int))=false:=by rw [hl];simp
  have HL:=am hl;clear hl;go_enter Tryz.func94,Tryz.ntmps94;go_wp2;have HLB:=am hlb;clear hlb;go_loopw [5] (fun v w'=>∃ k:Nat,k<=xs.length/\v= .int .i64 k/\Aside0 (∀ j,j < k->xs[j]? = ys[j]?)/\Aside0 (Below w.heap.size w w')) (fun v _=>xs.length - (intOf v).toNat)
  case atStart=>exact ⟨0,Nat.zero_le _,rfl,⟨fun j hj=>by omega⟩,⟨Below.refl _ _⟩⟩
  case round=>
   obtain ⟨k,hk,rfl,HJ,HB⟩:=hrel;by_cases hlt:k < xs.length
   ·have hlt2:k < ys.length:=by rw [<-HL.out];exact hlt
    have h0:(0:Int)<=(k:Int):=by omega
    have h1:(k:Int) < (xs.length:Int):=by omega
    have h2:(k:Int) < (ys.length:Int):=by omega
    obtain ⟨ax,cs,rfl,hcl,hK,hcc⟩:=Kd.C_get (Kd.C_below HX.out HB.out) zAct (k:Int) h0 h1;obtain ⟨ay,ds,rfl,hdl,hL,hdd⟩:=Kd.C_get (Kd.C_below HY.out HB.out) zAct (k:Int) h0 h2;simp only [Int.toNat_natCast] at hK hcc hL hdd;have HK:=am hK;have HCC:=am hcc;have HK2:=am hL;have HDD:=am hdd;clear hK hcc hL hdd;go_wp2;refine wp_region_still_tail 8 (by kernel_rfl) (by kernel_rfl) ?_;simp only [List.take_succ_cons,List.take_zero,List.drop_succ_cons,List.drop_zero];iterate 3 still_step
    refine still_load_struct rfl 68 (.tmp 19) rfl ax (k*4) rfl cs _ HCC.out (by rw [hcl];decide) Tryz.underlying68 rfl (by rw [hcl];kernel_rfl) ?_;iterate 3 still_step
    refine still_load_struct rfl 68 (.tmp 23) rfl ay (k*4) rfl ds _ HDD.out (by rw [hdl];decide) Tryz.underlying68 rfl (by rw [hdl];kernel_rfl) ?_;refine wpStill_nil ?_;by_cases he:xs.getD k zAct=ys.getD k zAct
    ·have HE:=am he
     clear he;go_wp2_with (go_at_call 138;refine (eqAct_calls _ _ _ _ _ (kAct.K_below (below_drew (Below.refl _ _)) HK.out) (kAct.K_below (below_drew (Below.refl _ _)) HK2.out)).mono ?_;rw [decide_eq_true HE.out];rintro e w1 ⟨rfl,hb⟩;have HB1:=am (below_step (below_drew HB.out) hb);clear hb HB)
     go_roundw
     case rel=>exact ⟨k+1,by omega,by go_num,⟨fun j hj=>agree_step HJ.out hlt hlt2 HE.out hj⟩,HB1⟩
     case measure=>simp [intOf];omega
    ·have HE:=am he
     clear he;go_wp2_with (go_at_call 138;refine (eqAct_calls _ _ _ _ _ (kAct.K_below (below_drew (Below.refl _ _)) HK.out) (kAct.K_below (below_drew (Below.refl _ _)) HK2.out)).mono ?_;rw [decide_eq_false HE.out];rintro e w1 ⟨rfl,hb⟩;have HB1:=am (below_step (below_drew HB.out) hb);clear hb HB)
     go_ret;exact ⟨ret_bool (decide_eq_false (fun h=>HE.out (by rw [h]))).symm,HB1.out⟩
   ·go_wp2
    go_ret;exact ⟨ret_bool (decide_eq_true (agree_all xs ys HL.out (fun j hj=>HJ.out j (by omega)))).symm,HB.out⟩
 ·have hlb:((xs.length:Int) != (ys.length:Int))=true:=by simp;omega
  have hlc:(xs.length != ys.length)=true:=by simp;omega
  have hld:(xs.length == ys.length)=false:=by simp;omega
  have HL:=am hl;clear hl;go_enter Tryz.func94,Tryz.ntmps94;go_wp2;go_ret;exact ⟨ret_bool (decide_eq_false (fun h=>HL.out (by rw [h]))).symm,Below.refl _ _⟩
theorem eqActSS_calls (xs ys:List (List Act)) (A B:Option Addr) (c d:Nat) (w:World) (hx:(Kd.slice 68 kAct).C w A xs.length xs) (hy:(Kd.slice 68 kAct).C w B ys.length ys):
  Calls Tryz.prog 58 #[.slice A xs.length c,.slice B ys.length d] w fun e w'=>e= .returned (.bool (decide (xs=ys)))/\Below w.heap.size w w':=by
 have HX:=am hx;have HY:=am hy;have hm:=Kd.C_max hx;clear hx hy;by_cases hl:xs.length=ys.length
 ·have hlb:((xs.length:Int) != (ys.length:Int))=false:=by rw [hl];simp
  have HL:=am hl;clear hl;go_enter Tryz.func58,Tryz.ntmps58;go_wp2;have HLB:=am hlb;clear hlb;go_loopw [5] (fun v w'=>∃ k:Nat,k<=xs.length/\v= .int .i64 k/\Aside0 (∀ j,j < k->xs[j]? = ys[j]?)/\Aside0 (Below w.heap.size w w')) (fun v _=>xs.length - (intOf v).toNat)
  case atStart=>exact ⟨0,Nat.zero_le _,rfl,⟨fun j hj=>by omega⟩,⟨Below.refl _ _⟩⟩
  case round=>
   obtain ⟨k,hk,rfl,HJ,HB⟩:=hrel;by_cases hlt:k < xs.length
   ·have hlt2:k < ys.length:=by rw [<-HL.out];exact hlt
    have h0:(0:Int)<=(k:Int):=by omega
    have h1:(k:Int) < (xs.length:Int):=by omega
    have h2:(k:Int) < (ys.length:Int):=by omega
    obtain ⟨ax,cs,rfl,hcl,hK,hcc⟩:=Kd.C_get (Kd.C_below HX.out HB.out) ([]:List Act) (k:Int) h0 h1;obtain ⟨ay,ds,rfl,hdl,hL,hdd⟩:=Kd.C_get (Kd.C_below HY.out HB.out) ([]:List Act) (k:Int) h0 h2;simp only [Int.toNat_natCast] at hK hcc hL hdd;obtain ⟨x,hxx⟩:∃ x,x=xs.getD k ([]:List Act):=⟨_,rfl⟩;obtain ⟨y,hyy⟩:∃ y,y=ys.getD k ([]:List Act):=⟨_,rfl⟩;rw [<-hxx] at hK;rw [<-hyy] at hL;obtain ⟨Aa,ca,rfl,-,ga⟩:=hK;obtain ⟨Ba,da,rfl,-,gb⟩:=hL;have p1:=hcc 0 _ rfl;have p2:=hdd 0 _ rfl;simp only [show (Kd.slice 68 kAct).sz=1 from rfl,Nat.mul_one,Nat.add_zero] at p1 p2;have HK:=am ga;have HK2:=am gb;have HXX:=am hxx;have HYY:=am hyy;clear hcc hdd ga gb hcl hdl hxx hyy;go_wp2;refine wp_region_still_tail 8 (by kernel_rfl) (by kernel_rfl) ?_;simp only [List.take_succ_cons,List.take_zero,List.drop_succ_cons,List.drop_zero];iterate 8 still_step
    refine wpStill_nil ?_;clear p1 p2;by_cases he:x=y
    ·have HE:=am he
     clear he;go_wp2_with (go_at_call 94;refine (eqActS_calls _ _ _ _ _ _ _ (Kd.C_below HK.out (below_drew (Below.refl _ _))) (Kd.C_below HK2.out (below_drew (Below.refl _ _)))).mono ?_;rw [decide_eq_true HE.out];rintro e w1 ⟨rfl,hb⟩;have HB1:=am (below_step (below_drew HB.out) hb);clear hb HB)
     go_roundw
     case rel=>exact ⟨k+1,by omega,by go_num,⟨fun j hj=>agree_step HJ.out hlt hlt2 (HXX.out ▸ HYY.out ▸ HE.out) hj⟩,HB1⟩
     case measure=>simp [intOf];omega
    ·have HE:=am he
     clear he;go_wp2_with (go_at_call 94;refine (eqActS_calls _ _ _ _ _ _ _ (Kd.C_below HK.out (below_drew (Below.refl _ _))) (Kd.C_below HK2.out (below_drew (Below.refl _ _)))).mono ?_;rw [decide_eq_false HE.out];rintro e w1 ⟨rfl,hb⟩;have HB1:=am (below_step (below_drew HB.out) hb);clear hb HB)
     go_ret;exact ⟨ret_bool (decide_eq_false (fun h=>HE.out (by rw [HXX.out,HYY.out,h]))).symm,HB1.out⟩
   ·go_wp2
    go_ret;exact ⟨ret_bool (decide_eq_true (agree_all xs ys HL.out (fun j hj=>HJ.out j (by omega)))).symm,HB.out⟩
 ·have hlb:((xs.length:Int) != (ys.length:Int))=true:=by simp;omega
  have hlc:(xs.length != ys.length)=true:=by simp;omega
  have hld:(xs.length == ys.length)=false:=by simp;omega
  have HL:=am hl;clear hl;go_enter Tryz.func58,Tryz.ntmps58;go_wp2;go_ret;exact ⟨ret_bool (decide_eq_false (fun h=>HL.out (by rw [h]))).symm,Below.refl _ _⟩
theorem Prog_ext (x y:Prog):x=y ↔ x.cells=y.cells/\x.bodies=y.bodies:=by cases x;cases y;simp
theorem eqProg_calls (x y:Prog) (cs ds:List Value) (w:World) (hx:kProg.K w x cs) (hy:kProg.K w y ds):
  Calls Tryz.prog 21 #[.agg cs.toArray,.agg ds.toArray] w fun e w'=>e= .returned (.bool (decide (x=y)))/\Below w.heap.size w w':=by
 obtain ⟨A0,c0,A1,c1,rfl,l0,g0,l1,g1⟩:=kProg_open hx;obtain ⟨B0,d0,B1,d1,rfl,m0,h0,m1,h1⟩:=kProg_open hy;have G:=am (And.intro g0 g1);have H:=am (And.intro h0 h1);clear g0 g1 h0 h1 l0 l1 m0 m1 hx hy;go_enter Tryz.func21,Tryz.ntmps21;have HB:=am (Below.refl w.heap.size w)
 go_wp2_with (first
 |(go_at_call 20;refine (eqIntS_calls _ _ _ _ _ _ _ ?h1 ?h2).mono ?_;(case h1=>exact Kd.C_below (w:=w) (by first|exact G.out.1) (by repeat (first|with_reducible exact HB.out | with_reducible refine below_alloc ?_ _ | with_reducible refine pw_below_drewN ?_ _)));(case h2=>exact Kd.C_below (w:=w) (by first|exact H.out.1) (by repeat (first|with_reducible exact HB.out | with_reducible refine below_alloc ?_ _ | with_reducible refine pw_below_drewN ?_ _)));rintro e w1 ⟨rfl,⟨n,rfl⟩⟩)
 |(go_at_call 58;refine (eqActSS_calls _ _ _ _ _ _ _ ?h1 ?h2).mono ?_;(case h1=>exact Kd.C_below (w:=w) (by first|exact G.out.2) (by repeat (first|with_reducible exact HB.out | with_reducible refine below_alloc ?_ _ | with_reducible refine pw_below_drewN ?_ _)));(case h2=>exact Kd.C_below (w:=w) (by first|exact H.out.2) (by repeat (first|with_reducible exact HB.out | with_reducible refine below_alloc ?_ _ | with_reducible refine pw_below_drewN ?_ _)));rintro e w1 ⟨rfl,hb⟩;replace HB:=am (below_step (w:=w) (by repeat (first|with_reducible exact HB.out | with_reducible refine below_alloc ?_ _ | with_reducible refine pw_below_drewN ?_ _)) hb);have hz:=bsize hb;(try simp at hz);have q0:w.heap.size < w1.heap.size:=(by omega);have q1:w.heap.size+1 < w1.heap.size:=(by omega);clear hz;obtain ⟨hc,hf⟩:=bcell hb;clear hb))
 all_goals (go_ret;refine ⟨ret_bool ?_,(by repeat (first|with_reducible exact HB.out | with_reducible refine below_alloc ?_ _ | with_reducible refine pw_below_drewN ?_ _))⟩)
 all_goals (first|(rw [decide_eq_true];simp_all [Prog_ext];done)|(rw [decide_eq_false];simp_all [Prog_ext];done))
theorem sumOf_get {α:Type} (f:α->Nat) (l:List α) {k:Nat} (z:α) (h:k < l.length):f (l.getD k z)<=sumOf f l:=by
 have h1:=sumOf_take f l k z h;have h2:=sumOf_le f l (k+1);omega
theorem sumOf_in {α:Type} (f:α->Nat) {l:List α} {x:α} (h:x ∈ l):f x<=sumOf f l:=by
 obtain ⟨k,hk,rfl⟩:=List.mem_iff_getElem.1 h
 have:=sumOf_get f l l[k] hk
 simpa [hk] using this
theorem sysSz_of {s:Sys} (h:szS s<=1048576):SysSz s:=by
 unfold szS at h;refine ⟨by omega,by omega,by omega,fun i hi=> ?_,fun i hi=> ?_⟩
 ·have h1:szT (taskAt s.tasks i)<=sumOf szT s.tasks:=sumOf_get szT s.tasks zTask hi
  have h2:szT (taskAt s.tasks i)=(taskAt s.tasks i).regs.length+(taskAt s.tasks i).old.length+(taskAt s.tasks i).reads.length+(taskAt s.tasks i).puts.length:=rfl;refine ⟨by omega,by omega,by omega,by omega⟩
 ·have h1:szE (entryAt s.log i)<=sumOf szE s.log:=sumOf_get szE s.log zEntry hi
  have h2:szE (entryAt s.log i)=(entryAt s.log i).reads.length+(entryAt s.log i).puts.length:=rfl;exact ⟨by omega,by omega⟩
theorem progSz_of {p:Prog} (h:szP p<=1048576):ProgSz p:=by
 unfold szP at h;refine ⟨by omega,by omega,fun b hb=> ?_⟩;have h1:=sumOf_in szAS hb;have h3:szAS b=b.length+sumOf szA b:=rfl;refine ⟨by omega,fun a ha=> ?_⟩;have h2:=sumOf_in szA ha;have h4:szA a=a.deeds.length+a.kids.length:=rfl;exact ⟨by omega,by omega⟩
theorem exEF {q:Prop} (h:q:=by
  go_wp2;go_ret;exact ⟨rfl,M.out.below⟩):q:=h
structure Chg (ok:Nat->Prop) (T:List Nat) (W W':World):Prop where
 os:W'.os=W.os
 tape:W'.tape=W.tape
 output:W'.output=W.output
 size:W'.heap.size=W.heap.size
 keep:∀ i,¬ ok i->W'.heap[i]? = W.heap[i]?
 typed:∀ (i:Nat) (cs:Array Value) (t:Nat),W.heap[i]? = some (Obj.cells cs t (0,0))->(t ∈ T\/W'.heap[i]? = W.heap[i]?)/\∃ cs':Array Value,W'.heap[i]? = some (Obj.cells cs' t (0,0))/\cs'.size=cs.size
theorem Chg.refl (ok:Nat->Prop) (T:List Nat) (W:World):Chg ok T W W:=⟨rfl,rfl,rfl,rfl,fun _ _=>rfl,fun i cs t h=>⟨.inr rfl,cs,h,rfl⟩⟩
theorem Chg.trans {ok:Nat->Prop} {T:List Nat} {W W1 W2:World} (h:Chg ok T W W1) (k:Chg ok T W1 W2):Chg ok T W W2:=
 ⟨k.os.trans h.os,k.tape.trans h.tape,k.output.trans h.output,k.size.trans h.size,fun i hi=>(k.keep i hi).trans (h.keep i hi),fun i cs t hi=>by
  obtain ⟨a1,cs1,b1,c1⟩:=h.typed i cs t hi;obtain ⟨a2,cs2,b2,c2⟩:=k.typed i cs1 t b1;refine ⟨?_,cs2,b2,c2.trans c1⟩;rcases a1 with a1 | a1
  ·exact .inl a1
  ·rcases a2 with a2 | a2
   ·exact .inl a2
   ·exact .inr (a2.trans a1)⟩
theorem Chg.more {ok:Nat->Prop} {T T':List Nat} {W W1:World} (h:Chg ok T W W1) (hT:∀ t,t ∈ T->t ∈ T'):Chg ok T' W W1:=
 ⟨h.os,h.tape,h.output,h.size,h.keep,fun i cs t hi=>⟨(h.typed i cs t hi).1.imp (hT t) id,(h.typed i cs t hi).2⟩⟩
theorem Chg.store {ok:Nat->Prop} {T:List Nat} {W:World} {g:Nat} {cs:Array Value} {t:Nat} (hb:W.heap[g]? = some (Obj.cells cs t (0,0))) (hg:ok g) (ht:t ∈ T) (j:Nat) (u:Value):Chg ok T W (W.setCell ⟨g,j,none⟩ u):=by
 have h1:=blk_set hb j u;refine ⟨rfl,rfl,rfl,by simp [World.setCell],fun i hi=>Below.heap_setCell W ⟨g,j,none⟩ u i (fun he=>hi (by rw [show i=g from he];exact hg)),fun i cs1 t1 hi=> ?_⟩;by_cases he:i=g
 ·subst he
  rw [hb] at hi;cases hi;exact ⟨.inl ht,_,h1,by simp⟩
 ·have:=Below.heap_setCell W ⟨g,j,none⟩ u i he
  exact ⟨.inr this,cs1,this.trans hi,rfl⟩
def ShRow (ok:Nat->Prop) (e sz:Nat) (W:World) (v:Value) (n:Nat):Prop:=n<=1048576/\((n=0/\∃ A c,v= .slice A 0 c)\/∃ (g cap:Nat) (cs:Array Value),v= .slice (some ⟨g,0,none⟩) n cap/\ok g/\W.heap[g]? = some (Obj.cells cs e (0,0))/\n*sz<=cs.size)
theorem ShRow.chg {ok:Nat->Prop} {T:List Nat} {e sz n:Nat} {W W1:World} {v:Value} (h:ShRow ok e sz W v n) (k:Chg ok T W W1):ShRow ok e sz W1 v n:=by
 refine ⟨h.1, ?_⟩;rcases h.2 with h | ⟨g,cap,cs,rfl,h1,h2,h3⟩
 ·exact .inl h
 ·obtain ⟨_,cs',h4,h5⟩:=k.typed g cs e h2
  exact .inr ⟨g,cap,cs',rfl,h1,h4,by omega⟩
theorem ShRow.slice {ok:Nat->Prop} {e sz n:Nat} {W:World} {v:Value} (h:ShRow ok e sz W v n):∃ A c,v= .slice A n c:=by
 rcases h.2 with ⟨rfl,A,c,rfl⟩ | ⟨g,cap,cs,rfl,_⟩
 ·exact ⟨A,c,rfl⟩
 ·exact ⟨_,cap,rfl⟩
theorem ShRow.of_R {α:Type} {d:Kd α} {e base:Nat} {ok:Nat->Prop} {W:World} {v:Value} {xs:List α} (h:d.R e W base ok v xs) (hn:xs.length<=1048576):ShRow ok e d.sz W v xs.length:=by
 refine ⟨hn, ?_⟩;obtain ⟨h0,inner,ho,hr⟩:=h;rcases ho.2 with ⟨rfl,hi⟩ | ⟨g,cap,cur,rfl,hb,hh,hnc,hm,hcs,ht⟩
 ·exact .inl ⟨hi,none,0,rfl⟩
 ·exact .inr ⟨g,cap,cur,rfl,h0 g rfl,hh,by rw [hcs];exact Nat.mul_le_mul_right _ hnc⟩
theorem blk_ready {W:World} {g:Nat} {cs:Array Value} {t:Nat} (hb:W.heap[g]? = some (Obj.cells cs t (0,0))) {j:Nat} (hj:j < cs.size):(∃ u,W.cell? ⟨g,j,none⟩=some u)/\W.frozen? ⟨g,j,none⟩=false:=
 ⟨⟨cs[j],(zc8 hb j).trans (Array.getElem?_eq_getElem hj)⟩,blk_frozen hb j⟩
theorem markIntS_calls (ok:Nat->Prop) (A:Option Addr) (n c:Nat) (k0:Int) (w:World) (hv:ShRow ok 3 1 w (.slice A n c) n) (h0:0<=k0) (h1:k0<=1152921504606846976):
  Calls Tryz.prog 25 #[.slice A n c,.int .i64 k0] w fun e w'=>∃ r:Int,e= .returned (.int .i64 r)/\k0<=r/\r<=k0+4194304/\Chg ok [3] w w':=by
 obtain ⟨hn,hv⟩:=hv;rcases hv with ⟨rfl,_⟩ | ⟨g,cap,cs,he,hg,hb,hsz⟩
 ·go_enter Tryz.func25,Tryz.ntmps25
  go_wp2;have hb0:decide ((0:Int) < ((0:Nat):Int))=false:=by decide
  go_loopw [1,5] (fun a i w'=>a= .int .i64 k0/\i= .int .i64 0/\w'=w) (fun _ _ _=>0)
  case atStart=>exact ⟨rfl,rfl,rfl⟩
  case round=>
   obtain ⟨rfl,rfl,rfl⟩:=hrel;go_wp2;go_ret;exact ⟨_,rfl,by omega,by omega,Chg.refl _ _ _⟩
 ·cases he
  have HB:=am hb;have HG:=am hg;clear hb hg;go_enter Tryz.func25,Tryz.ntmps25;go_wp2;go_loopw [1,5] (fun a i w'=>∃ (k:Nat) (r:Int),k<=n/\i= .int .i64 k/\a= .int .i64 r/\Aside0 (r=k0+k*1)/\Aside0 (Chg ok [3] w w')) (fun _ i _=>n - (intOf i).toNat)
  case atStart=>exact ⟨0,k0,Nat.zero_le _,rfl,rfl,⟨by omega⟩,⟨Chg.refl _ _ _⟩⟩
  case round=>
   obtain ⟨k,r,hk,rfl,rfl,HR,HC⟩:=hrel;have hr0:0<=r:=by have:=HR.out;omega
   have hr1:r<=1152921504606846976+1048576*1:=by have:=HR.out;omega
   by_cases hlt:k < n
   ·obtain ⟨_,cs',hb,hsz'⟩:=HC.out.typed g cs _ HB.out
    have hg:=HG.out;obtain ⟨⟨u0,hu0⟩,hf0⟩:=blk_ready hb (j:=k) (by omega);have q0:(0:Int)<=(k:Int):=by omega
    have q1:(k:Int) < (n:Int):=by omega
    have hs0:=Chg.store (ok:=ok) (T:= [3]) hb hg (by simp) (k) (.int .i64 r);have HC2:=am (HC.out.trans hs0);clear hs0 hb hg;go_wp2;go_roundw
    case rel=>exact ⟨k+1,_,by omega,by go_num,rfl,⟨by have:=HR.out;omega⟩,HC2⟩
    case measure=>simp [intOf];omega
   ·go_wp2
    go_ret;obtain rfl:k=n:=by omega
    exact ⟨_,rfl,by have:=HR.out;omega,by have:=HR.out;omega,HC.out⟩
theorem markPutS_calls (ok:Nat->Prop) (A:Option Addr) (n c:Nat) (k0:Int) (w:World) (hv:ShRow ok 65 2 w (.slice A n c) n) (h0:0<=k0) (h1:k0<=1152921504606846976):
  Calls Tryz.prog 99 #[.slice A n c,.int .i64 k0] w fun e w'=>∃ r:Int,e= .returned (.int .i64 r)/\k0<=r/\r<=k0+4194304/\Chg ok [65] w w':=by
 obtain ⟨hn,hv⟩:=hv;rcases hv with ⟨rfl,_⟩ | ⟨g,cap,cs,he,hg,hb,hsz⟩
 ·go_enter Tryz.func99,Tryz.ntmps99
  go_wp2;have hb0:decide ((0:Int) < ((0:Nat):Int))=false:=by decide
  go_loopw [1,5] (fun a i w'=>a= .int .i64 k0/\i= .int .i64 0/\w'=w) (fun _ _ _=>0)
  case atStart=>exact ⟨rfl,rfl,rfl⟩
  case round=>
   obtain ⟨rfl,rfl,rfl⟩:=hrel;go_wp2;go_ret;exact ⟨_,rfl,by omega,by omega,Chg.refl _ _ _⟩
 ·cases he
  have HB:=am hb;have HG:=am hg;clear hb hg;go_enter Tryz.func99,Tryz.ntmps99;go_wp2;go_loopw [1,5] (fun a i w'=>∃ (k:Nat) (r:Int),k<=n/\i= .int .i64 k/\a= .int .i64 r/\Aside0 (r=k0+k*2)/\Aside0 (Chg ok [65] w w')) (fun _ i _=>n - (intOf i).toNat)
  case atStart=>exact ⟨0,k0,Nat.zero_le _,rfl,rfl,⟨by omega⟩,⟨Chg.refl _ _ _⟩⟩
  case round=>
   obtain ⟨k,r,hk,rfl,rfl,HR,HC⟩:=hrel;have hr0:0<=r:=by have:=HR.out;omega
   have hr1:r<=1152921504606846976+1048576*2:=by have:=HR.out;omega
   by_cases hlt:k < n
   ·obtain ⟨_,cs',hb,hsz'⟩:=HC.out.typed g cs _ HB.out
    have hg:=HG.out;obtain ⟨⟨u0,hu0⟩,hf0⟩:=blk_ready hb (j:=k*2) (by omega);obtain ⟨⟨u1,hu1⟩,hf1⟩:=blk_ready hb (j:=k*2+1) (by omega);have q0:(0:Int)<=(k:Int):=by omega
    have q1:(k:Int) < (n:Int):=by omega
    have hs0:=Chg.store (ok:=ok) (T:= [65]) hb hg (by simp) (k*2) (.int .i64 r);obtain ⟨_,cs0,hb0,_⟩:=hs0.typed g _ _ hb;have hs1:=Chg.store (ok:=ok) (T:= [65]) hb0 hg (by simp) (k*2+1) (.int .i64 (r+1));have HC2:=am ((HC.out.trans hs0).trans hs1);clear hs0 hs1 hb0 hb hg;go_wp2;go_roundw
    case rel=>exact ⟨k+1,_,by omega,by go_num,rfl,⟨by have:=HR.out;omega⟩,HC2⟩
    case measure=>simp [intOf];omega
   ·go_wp2
    go_ret;obtain rfl:k=n:=by omega
    exact ⟨_,rfl,by have:=HR.out;omega,by have:=HR.out;omega,HC.out⟩
theorem markCellS_calls (ok:Nat->Prop) (A:Option Addr) (n c:Nat) (k0:Int) (w:World) (hv:ShRow ok 63 3 w (.slice A n c) n) (h0:0<=k0) (h1:k0<=1152921504606846976):
  Calls Tryz.prog 63 #[.slice A n c,.int .i64 k0] w fun e w'=>∃ r:Int,e= .returned (.int .i64 r)/\k0<=r/\r<=k0+4194304/\Chg ok [63] w w':=by
 obtain ⟨hn,hv⟩:=hv;rcases hv with ⟨rfl,_⟩ | ⟨g,cap,cs,he,hg,hb,hsz⟩
 ·go_enter Tryz.func63,Tryz.ntmps63
  go_wp2;have hb0:decide ((0:Int) < ((0:Nat):Int))=false:=by decide
  go_loopw [1,5] (fun a i w'=>a= .int .i64 k0/\i= .int .i64 0/\w'=w) (fun _ _ _=>0)
  case atStart=>exact ⟨rfl,rfl,rfl⟩
  case round=>
   obtain ⟨rfl,rfl,rfl⟩:=hrel;go_wp2;go_ret;exact ⟨_,rfl,by omega,by omega,Chg.refl _ _ _⟩
 ·cases he
  have HB:=am hb;have HG:=am hg;clear hb hg;go_enter Tryz.func63,Tryz.ntmps63;go_wp2;go_loopw [1,5] (fun a i w'=>∃ (k:Nat) (r:Int),k<=n/\i= .int .i64 k/\a= .int .i64 r/\Aside0 (r=k0+k*3)/\Aside0 (Chg ok [63] w w')) (fun _ i _=>n - (intOf i).toNat)
  case atStart=>exact ⟨0,k0,Nat.zero_le _,rfl,rfl,⟨by omega⟩,⟨Chg.refl _ _ _⟩⟩
  case round=>
   obtain ⟨k,r,hk,rfl,rfl,HR,HC⟩:=hrel;have hr0:0<=r:=by have:=HR.out;omega
   have hr1:r<=1152921504606846976+1048576*3:=by have:=HR.out;omega
   by_cases hlt:k < n
   ·obtain ⟨_,cs',hb,hsz'⟩:=HC.out.typed g cs _ HB.out
    have hg:=HG.out;obtain ⟨⟨u0,hu0⟩,hf0⟩:=blk_ready hb (j:=k*3) (by omega);obtain ⟨⟨u1,hu1⟩,hf1⟩:=blk_ready hb (j:=k*3+1) (by omega);obtain ⟨⟨u2,hu2⟩,hf2⟩:=blk_ready hb (j:=k*3+2) (by omega);have q0:(0:Int)<=(k:Int):=by omega
    have q1:(k:Int) < (n:Int):=by omega
    have hs0:=Chg.store (ok:=ok) (T:= [63]) hb hg (by simp) (k*3) (.int .i64 r);obtain ⟨_,cs0,hb0,_⟩:=hs0.typed g _ _ hb;have hs1:=Chg.store (ok:=ok) (T:= [63]) hb0 hg (by simp) (k*3+1) (.int .i64 (r+1));obtain ⟨_,cs1,hb1,_⟩:=hs1.typed g _ _ hb0;have hs2:=Chg.store (ok:=ok) (T:= [63]) hb1 hg (by simp) (k*3+2) (.int .i64 (r+1+1));have HC2:=am (((HC.out.trans hs0).trans hs1).trans hs2);clear hs0 hs1 hs2 hb0 hb1 hb hg;go_wp2;go_roundw
    case rel=>exact ⟨k+1,_,by omega,by go_num,rfl,⟨by have:=HR.out;omega⟩,HC2⟩
    case measure=>simp [intOf];omega
   ·go_wp2
    go_ret;obtain rfl:k=n:=by omega
    exact ⟨_,rfl,by have:=HR.out;omega,by have:=HR.out;omega,HC.out⟩
def MSt (ok:Nat->Prop) (TT:List Nat) (e sz n:Nat) (pos:List Nat) (g:Nat) (cs:Array Value) (w W:World):Prop:=
 Chg ok TT w W/\∃ cs':Array Value,W.heap[g]? = some (Obj.cells cs' e (0,0))/\cs'.size=cs.size/\∀ q,q < n->∀ j,j ∈ pos->cs'[q*sz+j]? = cs[q*sz+j]?
section
variable {ok:Nat->Prop} {TT:List Nat} {e sz n:Nat} {pos:List Nat} {g:Nat} {cs:Array Value} {w W W1:World}
theorem MSt.start (hb:w.heap[g]? = some (Obj.cells cs e (0,0))):MSt ok TT e sz n pos g cs w w:=⟨Chg.refl _ _ _,cs,hb,rfl,fun _ _ _ _=>rfl⟩
theorem place_inj {q k j i sz:Nat} (hj:j < sz) (hi:i < sz) (h:q*sz+j=k*sz+i):j=i:=by
 have h1:(q*sz+j) % sz=j:=by rw [Nat.mul_comm,Nat.mul_add_mod];exact Nat.mod_eq_of_lt hj
 have h2:(k*sz+i) % sz=i:=by rw [Nat.mul_comm,Nat.mul_add_mod];exact Nat.mod_eq_of_lt hi
 rw [<-h1,h,h2]
theorem MSt.store (h:MSt ok TT e sz n pos g cs w W) (hg:ok g) (he:e ∈ TT) (hp:∀ j,j ∈ pos->j < sz) (k:Nat) {off:Nat} (hoff:∃ i,off=k*sz+i/\i < sz/\i ∉ pos) (u:Value):MSt ok TT e sz n pos g cs w (W.setCell ⟨g,off,none⟩ u):=by
 obtain ⟨h1,cs',hb,hs,hq⟩:=h;obtain ⟨i,rfl,hi,hni⟩:=hoff;refine ⟨h1.trans (Chg.store hb hg he _ u),_,blk_set hb _ u,by simpa using hs,fun q hqn j hj=> ?_⟩;rw [Array.getElem?_setIfInBounds_ne (fun he=>hni (by rw [<-place_inj hi (hp j hj) he] at hj;exact hj))];exact hq q hqn j hj
theorem MSt.stored (h:MSt ok TT e sz n pos g cs w W) (hg:ok g) (he:e ∈ TT) (hp:∀ j,j ∈ pos->j < sz) (k:Nat) {off:Nat} {u:Value} (hw:W1=W.setCell ⟨g,off,none⟩ u) (hoff:∃ i,off=k*sz+i/\i < sz/\i ∉ pos):MSt ok TT e sz n pos g cs w W1:=by
 rw [hw];exact h.store hg he hp k hoff u
theorem MSt.chg {T:List Nat} (h:MSt ok TT e sz n pos g cs w W) (k:Chg ok T W W1) (he:e ∉ T) (hT:∀ t,t ∈ T->t ∈ TT):MSt ok TT e sz n pos g cs w W1:=by
 obtain ⟨h1,cs',hb,hs,hq⟩:=h;refine ⟨h1.trans (k.more hT),cs', ?_,hs,hq⟩;rw [(k.typed g cs' e hb).1.resolve_left he];exact hb
theorem MSt.at (h:MSt ok TT e sz n pos g cs w W) {q:Nat} (hq:q < n) {j:Nat} (hj:j ∈ pos) {v:Value} (hv:cs[q*sz+j]? = some v):W.cell? ⟨g,q*sz+j,none⟩=some v:=by
 obtain ⟨_,cs',hb,_,h2⟩:=h;rw [zc8 hb,h2 q hq j hj,hv]
theorem MSt.ready (h:MSt ok TT e sz n pos g cs w W) {off:Nat} (ho:off < cs.size):(∃ u,W.cell? ⟨g,off,none⟩=some u)/\W.frozen? ⟨g,off,none⟩=false:=by
 obtain ⟨_,cs',hb,hs,_⟩:=h;exact blk_ready hb (by omega)
end
section
variable {P:Program} {ops:Array Oper} {rest:List Oper} {o:Oper} {a:Go.Act} {Q:Exit->Go.Act->World->Prop}
theorem mark_store_ev {W:World} {t:TypeId} (hgd:o.guard=none) (hN:o.dst=none) (p x:Operand) (ho:o.op= .store t p x) {g off:Nat} (hp:a.eval p= .pointer (some ⟨g,off,none⟩)) {u:Int} (hx:a.eval x= .int .i64 u) (hi:(P.info? t).map (·.size)=some 1)
  (hr:(∃ u,W.cell? ⟨g,off,none⟩=some u)/\W.frozen? ⟨g,off,none⟩=false) (h:∀ w1,w1=W.setCell ⟨g,off,none⟩ (.int .i64 u)->wpList P ops Q rest a w1):wpList P ops Q (o :: rest) a W:=by
 obtain ⟨⟨z,hz⟩,hf⟩:=hr;refine wpList_plain hgd fun K hK=> ?_
 obtain ⟨info,hinfo,hsz⟩:=Option.map_eq_some_iff.1 hi;unfold Oper.wp execOp
 have hrun:(Instr.storeAt t (.pointer (some ⟨g,off,none⟩)) (.int .i64 u)).run P W= .ok () (W.setCell ⟨g,off,none⟩ (.int .i64 u)):=by
  simp [Instr.storeAt,Instr.sureAddr,storeVar,storeCells,sizeOf,typeInfo,program,store,Value.cells,Sem.run,hinfo,hsz,hz,hf,Sem.run_bind,Addr.add]
 simp only [ho,hp,hx,Sem.run_bind,hrun,Result.andThen_ok,Sem.run_pure,Oper.upon_skip];rw [hN];exact hK _ _ (h _ rfl)
end
def ShEntry (ok:Nat->Prop) (W:World) (cs:Array Value) (k:Nat):Prop:=(∃ (v:Value) (n:Nat),cs[k*6+3]? = some v/\ShRow ok 65 2 W v n)/\(∃ (v:Value) (n:Nat),cs[k*6+4]? = some v/\ShRow ok 65 2 W v n)
theorem markEntryS_calls (ok:Nat->Prop) (v:Value) (n:Nat) (k0:Int) (w:World) (hn:n<=1048576) (hv:(n=0/\∃ A c,v= .slice A 0 c)\/∃ (g cap:Nat) (cs:Array Value),v= .slice (some ⟨g,0,none⟩) n cap/\ok g/\w.heap[g]? = some (Obj.cells cs 136 (0,0))/\n*6<=cs.size/\∀ k,k < n->ShEntry ok w cs k) (h0:0<=k0) (h1:k0<=72057594037927936):
  Calls Tryz.prog 65 #[v,.int .i64 k0] w fun e w'=>∃ r:Int,e= .returned (.int .i64 r)/\k0<=r/\r<=k0+n*33554432/\Chg ok [136,65] w w':=by
 rcases hv with ⟨rfl,A,c,rfl⟩ | ⟨g,cap,cs,rfl,hg,hb,hsz,hSh⟩
 ·go_enter Tryz.func65,Tryz.ntmps65
  go_wp2;have hb0:decide ((0:Int) < ((0:Nat):Int))=false:=by decide
  go_loopw [1,5] (fun a i w'=>a= .int .i64 k0/\i= .int .i64 0/\w'=w) (fun _ _ _=>0)
  case atStart=>exact ⟨rfl,rfl,rfl⟩
  case round=>
   obtain ⟨rfl,rfl,rfl⟩:=hrel;go_wp2;go_ret;exact ⟨_,rfl,by omega,by omega,Chg.refl _ _ _⟩
 ·have HT0:=am (MSt.start (ok:=ok) (TT:= [136,65]) (sz:=6) (n:=n) (pos:= [3,4]) hb)
  have HG:=am hg;have HSH:=am hSh;clear hb hg hSh;go_enter Tryz.func65,Tryz.ntmps65;go_wp2;go_loopw [1,5] (fun a i w'=>∃ (k:Nat) (r:Int),k<=n/\i= .int .i64 k/\a= .int .i64 r/\k0<=r/\r<=k0+k*33554432/\Aside0 (MSt ok [136,65] 136 6 n [3,4] g cs w w')) (fun _ i _=>n - (intOf i).toNat)
  case atStart=>exact ⟨0,k0,Nat.zero_le _,rfl,rfl,by omega,by omega,HT0⟩
  case round=>
   clear HT0;obtain ⟨k,r,hk,rfl,rfl,hr0,hr1,HT⟩:=hrel;by_cases hlt:k < n
   ·obtain ⟨⟨v3,n3,e3,S3⟩,⟨v4,n4,e4,S4⟩⟩:=HSH.out k hlt
    have E3:=am e3;have R3:=am S3;obtain ⟨A3,c3,rfl⟩:=S3.slice;clear S3 e3;have E4:=am e4;have R4:=am S4;obtain ⟨A4,c4,rfl⟩:=S4.slice;clear S4 e4;have d3:=HT.out.at hlt (j:=3) (by decide) E3.out;have d4:=HT.out.at hlt (j:=4) (by decide) E4.out;have q0:(0:Int)<=(k:Int):=by omega
    have q1:(k:Int) < (n:Int):=by omega
    have hks:k*6+6<=cs.size:=Nat.le_trans (by rw [<-Nat.succ_mul];exact Nat.mul_le_mul_right _ hlt) hsz
    go_wp2_with (first
    |((with_reducible refine gate_store (t:=3) rfl ?_);refine mark_store_ev rfl rfl _ _ rfl rfl rfl (by kernel_rfl) (HT.out.ready (by omega)) ?_;intro w1 hw;replace HT:=am (HT.out.stored HG.out (by decide) (by decide) k hw (by first|exact ⟨_,rfl,by decide,by decide⟩ | exact ⟨0,(Nat.add_zero _).symm,by decide,by decide⟩));clear d3 d4 hw;have d3:=HT.out.at hlt (j:=3) (by decide) E3.out;have d4:=HT.out.at hlt (j:=4) (by decide) E4.out)
    |(go_at_call 99;refine (markPutS_calls ok _ _ _ _ _ ?h1 (by omega) (by omega)).mono ?_;(case h1=>(first|exact R3.out.chg HT.out.1 | exact R4.out.chg HT.out.1));rintro e w1 ⟨r1,rfl,hra,hrb,hc⟩;replace HT:=am (HT.out.chg hc (by decide) (by decide));clear d3 d4 hc;have d3:=HT.out.at hlt (j:=3) (by decide) E3.out;have d4:=HT.out.at hlt (j:=4) (by decide) E4.out))
    go_roundw
    case rel=>exact ⟨k+1,_,by omega,by go_num,rfl,by omega,by omega,HT⟩
    case measure=>simp [intOf];omega
   ·go_wp2
    go_ret;obtain rfl:k=n:=by omega
    exact ⟨_,rfl,by omega,by omega,HT.out.1⟩
def ShTask (ok:Nat->Prop) (W:World) (cs:Array Value) (k:Nat):Prop:=(∃ (v:Value) (n:Nat),cs[k*13+3]? = some v/\ShRow ok 3 1 W v n)/\(∃ (v:Value) (n:Nat),cs[k*13+8]? = some v/\ShRow ok 3 1 W v n)/\(∃ (v:Value) (n:Nat),cs[k*13+9]? = some v/\ShRow ok 65 2 W v n)/\(∃ (v:Value) (n:Nat),cs[k*13+10]? = some v/\ShRow ok 65 2 W v n)
theorem markTaskS_calls (ok:Nat->Prop) (v:Value) (n:Nat) (k0:Int) (w:World) (hn:n<=1048576) (hv:(n=0/\∃ A c,v= .slice A 0 c)\/∃ (g cap:Nat) (cs:Array Value),v= .slice (some ⟨g,0,none⟩) n cap/\ok g/\w.heap[g]? = some (Obj.cells cs 59 (0,0))/\n*13<=cs.size/\∀ k,k < n->ShTask ok w cs k) (h0:0<=k0) (h1:k0<=72057594037927936):
  Calls Tryz.prog 64 #[v,.int .i64 k0] w fun e w'=>∃ r:Int,e= .returned (.int .i64 r)/\k0<=r/\r<=k0+n*33554432/\Chg ok [59,3,65] w w':=by
 rcases hv with ⟨rfl,A,c,rfl⟩ | ⟨g,cap,cs,rfl,hg,hb,hsz,hSh⟩
 ·go_enter Tryz.func64,Tryz.ntmps64
  go_wp2;have hb0:decide ((0:Int) < ((0:Nat):Int))=false:=by decide
  go_loopw [1,5] (fun a i w'=>a= .int .i64 k0/\i= .int .i64 0/\w'=w) (fun _ _ _=>0)
  case atStart=>exact ⟨rfl,rfl,rfl⟩
  case round=>
   obtain ⟨rfl,rfl,rfl⟩:=hrel;go_wp2;go_ret;exact ⟨_,rfl,by omega,by omega,Chg.refl _ _ _⟩
 ·have HT0:=am (MSt.start (ok:=ok) (TT:= [59,3,65]) (sz:=13) (n:=n) (pos:= [3,8,9,10]) hb)
  have HG:=am hg;have HSH:=am hSh;clear hb hg hSh;go_enter Tryz.func64,Tryz.ntmps64;go_wp2;go_loopw [1,5] (fun a i w'=>∃ (k:Nat) (r:Int),k<=n/\i= .int .i64 k/\a= .int .i64 r/\k0<=r/\r<=k0+k*33554432/\Aside0 (MSt ok [59,3,65] 59 13 n [3,8,9,10] g cs w w')) (fun _ i _=>n - (intOf i).toNat)
  case atStart=>exact ⟨0,k0,Nat.zero_le _,rfl,rfl,by omega,by omega,HT0⟩
  case round=>
   clear HT0;obtain ⟨k,r,hk,rfl,rfl,hr0,hr1,HT⟩:=hrel;by_cases hlt:k < n
   ·obtain ⟨⟨v3,n3,e3,S3⟩,⟨v8,n8,e8,S8⟩,⟨v9,n9,e9,S9⟩,⟨v10,n10,e10,S10⟩⟩:=HSH.out k hlt
    have E3:=am e3;have R3:=am S3;obtain ⟨A3,c3,rfl⟩:=S3.slice;clear S3 e3;have E8:=am e8;have R8:=am S8;obtain ⟨A8,c8,rfl⟩:=S8.slice;clear S8 e8;have E9:=am e9;have R9:=am S9;obtain ⟨A9,c9,rfl⟩:=S9.slice;clear S9 e9;have E10:=am e10;have R10:=am S10;obtain ⟨A10,c10,rfl⟩:=S10.slice;clear S10 e10;have d3:=HT.out.at hlt (j:=3) (by decide) E3.out;have d8:=HT.out.at hlt (j:=8) (by decide) E8.out;have d9:=HT.out.at hlt (j:=9) (by decide) E9.out;have d10:=HT.out.at hlt (j:=10) (by decide) E10.out;have q0:(0:Int)<=(k:Int):=by omega
    have q1:(k:Int) < (n:Int):=by omega
    have hks:k*13+13<=cs.size:=Nat.le_trans (by rw [<-Nat.succ_mul];exact Nat.mul_le_mul_right _ hlt) hsz
    go_wp2_with (first
    |((with_reducible refine gate_store (t:=3) rfl ?_);refine mark_store_ev rfl rfl _ _ rfl rfl rfl (by kernel_rfl) (HT.out.ready (by omega)) ?_;intro w1 hw;replace HT:=am (HT.out.stored HG.out (by decide) (by decide) k hw (by first|exact ⟨_,rfl,by decide,by decide⟩ | exact ⟨0,(Nat.add_zero _).symm,by decide,by decide⟩));clear d3 d8 d9 d10 hw;have d3:=HT.out.at hlt (j:=3) (by decide) E3.out;have d8:=HT.out.at hlt (j:=8) (by decide) E8.out;have d9:=HT.out.at hlt (j:=9) (by decide) E9.out;have d10:=HT.out.at hlt (j:=10) (by decide) E10.out)
    |(go_at_call 25;refine (markIntS_calls ok _ _ _ _ _ ?h1 (by omega) (by omega)).mono ?_;(case h1=>(first|exact R3.out.chg HT.out.1 | exact R8.out.chg HT.out.1));rintro e w1 ⟨r1,rfl,hra,hrb,hc⟩;replace HT:=am (HT.out.chg hc (by decide) (by decide));clear d3 d8 d9 d10 hc;have d3:=HT.out.at hlt (j:=3) (by decide) E3.out;have d8:=HT.out.at hlt (j:=8) (by decide) E8.out;have d9:=HT.out.at hlt (j:=9) (by decide) E9.out;have d10:=HT.out.at hlt (j:=10) (by decide) E10.out)
    |(go_at_call 99;refine (markPutS_calls ok _ _ _ _ _ ?h1 (by omega) (by omega)).mono ?_;(case h1=>(first|exact R9.out.chg HT.out.1 | exact R10.out.chg HT.out.1));rintro e w1 ⟨r1,rfl,hra,hrb,hc⟩;replace HT:=am (HT.out.chg hc (by decide) (by decide));clear d3 d8 d9 d10 hc;have d3:=HT.out.at hlt (j:=3) (by decide) E3.out;have d8:=HT.out.at hlt (j:=8) (by decide) E8.out;have d9:=HT.out.at hlt (j:=9) (by decide) E9.out;have d10:=HT.out.at hlt (j:=10) (by decide) E10.out))
    go_roundw
    case rel=>exact ⟨k+1,_,by omega,by go_num,rfl,by omega,by omega,HT⟩
    case measure=>simp [intOf];omega
   ·go_wp2
    go_ret;obtain rfl:k=n:=by omega
    exact ⟨_,rfl,by omega,by omega,HT.out.1⟩
structure Kp (ok:Nat->Prop) (W W':World):Prop where
 os:W'.os=W.os
 tape:W'.tape=W.tape
 output:W'.output=W.output
 size:W.heap.size<=W'.heap.size
 keep:∀ i,i < W.heap.size->¬ ok i->W'.heap[i]? = W.heap[i]?
theorem Kp.below {ok:Nat->Prop} {w W W':World} (h:Below w.heap.size w W) (k:Kp ok W W') (hok:∀ i,ok i->w.heap.size<=i):Below w.heap.size w W':=
 ⟨k.os.trans h.os,k.tape.trans h.tape,k.output.trans h.output,Nat.le_trans h.size k.size,fun i hi=>(k.keep i (Nat.lt_of_lt_of_le hi h.size) (fun hk=>by have:=hok i hk;omega)).trans (h.block i hi)⟩
theorem cells_of {W:World} {g:Nat} {cs:Array Value} {t:Nat} (hb:W.heap[g]? = some (Obj.cells cs t (0,0))) {j:Nat} {u:Value} (h:W.cell? ⟨g,j,none⟩=some u):cs[j]? = some u:=by rw [<-zc8 hb j];exact h
theorem sumOf_mem {α:Type} (f:α->Nat) (l:List α) (k:Nat) (z:α) (h:k < l.length):f (l.getD k z)<=sumOf f l:=by
 have h1:=sumOf_take f l k z h;have h2:=sumOf_le f l (k+1);omega
theorem shTasks {base:Nat} {ok:Nat->Prop} {W:World} {v:Value} {xs:List Task} (h:kTask.R 59 W base ok v xs) (hn:xs.length<=1048576) (hs:sumOf szT xs<=1048576):
  (xs.length=0/\∃ A c,v= .slice A 0 c)\/∃ (g cap:Nat) (cs:Array Value),v= .slice (some ⟨g,0,none⟩) xs.length cap/\ok g/\W.heap[g]? = some (Obj.cells cs 59 (0,0))/\xs.length*13<=cs.size/\∀ k,k < xs.length->ShTask ok W cs k:=by
 rcases (ShRow.of_R h hn).2 with h0 | ⟨g,cap,cs,rfl,hg,hb,hsz⟩
 ·exact .inl h0
 ·refine .inr ⟨g,cap,cs,rfl,hg,hb,hsz,fun k hk=> ?_⟩
  obtain ⟨c,hcl,hM,hcc,_⟩:=Kd.R_elem h zTask (k:Int) (by omega) (by omega);simp only [Int.toNat_natCast] at hM hcc;obtain ⟨v3,v8,v9,v10,rfl,r3,r8,r9,r10⟩:=kTask_openM hM;have hb1:=sumOf_mem szT xs k zTask hk;unfold szT at hb1;have mono:∀ i,(ok i/\i ≠ g)->ok i:=fun i hi=>hi.1
  exact ⟨⟨v3,_,cells_of hb (hcc 3 _ rfl),ShRow.of_R (Kd.R_mono r3 mono) (by unfold szT at hs;omega)⟩,⟨v8,_,cells_of hb (hcc 8 _ rfl),ShRow.of_R (Kd.R_mono r8 mono) (by unfold szT at hs;omega)⟩,
   ⟨v9,_,cells_of hb (hcc 9 _ rfl),ShRow.of_R (Kd.R_mono r9 mono) (by unfold szT at hs;omega)⟩,⟨v10,_,cells_of hb (hcc 10 _ rfl),ShRow.of_R (Kd.R_mono r10 mono) (by unfold szT at hs;omega)⟩⟩
theorem shEntries {base:Nat} {ok:Nat->Prop} {W:World} {v:Value} {xs:List Entry} (h:kEntry.R 136 W base ok v xs) (hn:xs.length<=1048576) (hs:sumOf szE xs<=1048576):
  (xs.length=0/\∃ A c,v= .slice A 0 c)\/∃ (g cap:Nat) (cs:Array Value),v= .slice (some ⟨g,0,none⟩) xs.length cap/\ok g/\W.heap[g]? = some (Obj.cells cs 136 (0,0))/\xs.length*6<=cs.size/\∀ k,k < xs.length->ShEntry ok W cs k:=by
 rcases (ShRow.of_R h hn).2 with h0 | ⟨g,cap,cs,rfl,hg,hb,hsz⟩
 ·exact .inl h0
 ·refine .inr ⟨g,cap,cs,rfl,hg,hb,hsz,fun k hk=> ?_⟩
  obtain ⟨c,hcl,hM,hcc,_⟩:=Kd.R_elem h zEntry (k:Int) (by omega) (by omega);simp only [Int.toNat_natCast] at hM hcc;obtain ⟨v3,v4,rfl,r3,r4⟩:=kEntry_openM hM;have hb1:=sumOf_mem szE xs k zEntry hk;unfold szE at hb1;have mono:∀ i,(ok i/\i ≠ g)->ok i:=fun i hi=>hi.1
  exact ⟨⟨v3,_,cells_of hb (hcc 3 _ rfl),ShRow.of_R (Kd.R_mono r3 mono) (by unfold szE at hs;omega)⟩,⟨v4,_,cells_of hb (hcc 4 _ rfl),ShRow.of_R (Kd.R_mono r4 mono) (by unfold szE at hs;omega)⟩⟩
theorem shTasks_chg {ok:Nat->Prop} {T:List Nat} {W W':World} {v:Value} {n:Nat} (h:(n=0/\∃ A c,v= .slice A 0 c)\/∃ (g cap:Nat) (cs:Array Value),v= .slice (some ⟨g,0,none⟩) n cap/\ok g/\W.heap[g]? = some (Obj.cells cs 59 (0,0))/\n*13<=cs.size/\∀ k,k < n->ShTask ok W cs k)
  (k:Chg ok T W W') (hT:59 ∉ T):(n=0/\∃ A c,v= .slice A 0 c)\/∃ (g cap:Nat) (cs:Array Value),v= .slice (some ⟨g,0,none⟩) n cap/\ok g/\W'.heap[g]? = some (Obj.cells cs 59 (0,0))/\n*13<=cs.size/\∀ k,k < n->ShTask ok W' cs k:=by
 rcases h with h | ⟨g,cap,cs,rfl,hg,hb,hs,hk⟩
 ·exact .inl h
 ·refine .inr ⟨g,cap,cs,rfl,hg,((k.typed g cs _ hb).1.resolve_left hT).trans hb,hs,fun q hq=> ?_⟩
  obtain ⟨⟨a1,b1,c1,d1⟩,⟨a2,b2,c2,d2⟩,⟨a3,b3,c3,d3⟩,⟨a4,b4,c4,d4⟩⟩:=hk q hq;exact ⟨⟨a1,b1,c1,d1.chg k⟩,⟨a2,b2,c2,d2.chg k⟩,⟨a3,b3,c3,d3.chg k⟩,⟨a4,b4,c4,d4.chg k⟩⟩
theorem shEntries_chg {ok:Nat->Prop} {T:List Nat} {W W':World} {v:Value} {n:Nat} (h:(n=0/\∃ A c,v= .slice A 0 c)\/∃ (g cap:Nat) (cs:Array Value),v= .slice (some ⟨g,0,none⟩) n cap/\ok g/\W.heap[g]? = some (Obj.cells cs 136 (0,0))/\n*6<=cs.size/\∀ k,k < n->ShEntry ok W cs k)
  (k:Chg ok T W W') (hT:136 ∉ T):(n=0/\∃ A c,v= .slice A 0 c)\/∃ (g cap:Nat) (cs:Array Value),v= .slice (some ⟨g,0,none⟩) n cap/\ok g/\W'.heap[g]? = some (Obj.cells cs 136 (0,0))/\n*6<=cs.size/\∀ k,k < n->ShEntry ok W' cs k:=by
 rcases h with h | ⟨g,cap,cs,rfl,hg,hb,hs,hk⟩
 ·exact .inl h
 ·refine .inr ⟨g,cap,cs,rfl,hg,((k.typed g cs _ hb).1.resolve_left hT).trans hb,hs,fun q hq=> ?_⟩
  obtain ⟨⟨a1,b1,c1,d1⟩,⟨a2,b2,c2,d2⟩⟩:=hk q hq;exact ⟨⟨a1,b1,c1,d1.chg k⟩,⟨a2,b2,c2,d2.chg k⟩⟩
theorem Kp.chg {ok:Nat->Prop} {T:List Nat} {w W W':World} (h:Kp ok w W) (k:Chg ok T W W'):Kp ok w W':=
 ⟨k.os.trans h.os,k.tape.trans h.tape,k.output.trans h.output,by rw [k.size];exact h.size,fun i hi ho=>(k.keep i ho).trans (h.keep i hi ho)⟩
theorem Kp.alloc (ok:Nat->Prop) (w:World) (o:Obj):Kp ok w (w.alloc o):=
 let b:=below_alloc (Below.refl w.heap.size w) o
 ⟨b.os,b.tape,b.output,b.size,fun i hi _=>b.block i hi⟩
theorem cell_kept_of {ok:Nat->Prop} {T:List Nat} {W W':World} {g:Nat} (k:Chg ok T W W') (hg:¬ ok g):(∀ o,W'.cell? ⟨g,o,none⟩=W.cell? ⟨g,o,none⟩):=fun o=>by simp [World.cell?,k.keep g hg]
def seqFrom (k:Int) (n:Nat):List Int:=(List.range n).map fun (i:Nat)=>k+(i:Int)
theorem seqFrom_length (k:Int) (n:Nat):(seqFrom k n).length=n:=by simp [seqFrom]
theorem seqFrom_at (k:Int) (n i:Nat) (h:i < n):rd (seqFrom k n) (i:Int)=k+i:=by
 simp [rd,seqFrom,List.getD_eq_getElem?_getD,h]
def partSeq (k:Int) (xs:List Int) (i:Nat):List Int:=seqFrom k i ++ xs.drop i
theorem partSeq_length (k:Int) (xs:List Int) (i:Nat) (h:i<=xs.length):(partSeq k xs i).length=xs.length:=by
 simp [partSeq,seqFrom_length];omega
theorem partSeq_set (k:Int) (xs:List Int) (i:Nat) (h:i < xs.length):(partSeq k xs i).set i (k+i)=partSeq k xs (i+1):=by
 unfold partSeq;rw [List.set_append_right _ _ (by rw [seqFrom_length];exact Nat.le_refl _),seqFrom_length,Nat.sub_self,List.drop_eq_getElem_cons h,List.set_cons_zero];simp [seqFrom,List.range_succ]
theorem markIntR_calls (xs:List Int) (A:Option Addr) (c:Nat) (base:Nat) (ok:Nat->Prop) (w:World) (hv:(Kd.int .i64).R 3 w base ok (.slice A xs.length c) xs) (hn:xs.length<=1048576):
  Calls Tryz.prog 25 #[.slice A xs.length c,.int .i64 1] w fun e w'=>e= .returned (.int .i64 (1+xs.length))/\(Kd.int .i64).R 3 w' base ok (.slice A xs.length c) (seqFrom 1 xs.length)/\w.grownBy w' (Value.slice A xs.length c).ownBlock:=by
 have HV:=am hv;clear hv;go_enter Tryz.func25,Tryz.ntmps25;go_wp2;go_loopw [1,5] (fun a i w'=>∃ k:Nat,k<=xs.length/\i= .int .i64 k/\a= .int .i64 (1+(k:Int))/\Aside0 ((Kd.int .i64).R 3 w' base ok (.slice A xs.length c) (partSeq 1 xs k))/\Aside0 (w.grownBy w' (Value.slice A xs.length c).ownBlock)) (fun _ i _=>xs.length - (intOf i).toNat)
 case atStart=>exact ⟨0,Nat.zero_le _,rfl,rfl,⟨by simpa [partSeq,seqFrom] using HV.out⟩,⟨grown_of_below (Below.refl _ _) _⟩⟩
 case round=>
  clear HV;obtain ⟨k,hk,rfl,rfl,HO,HG⟩:=hrel;have hl:=partSeq_length 1 xs k hk;by_cases hlt:k < xs.length
  ·have q0:(0:Int)<=(k:Int):=by omega
   have q1:(k:Int) < (xs.length:Int):=by omega
   have HS:=am (partSeq_set 1 xs k hlt);obtain ⟨g,cap,he,hg1,hg2,hg3⟩:=Kd.R_form HO.out (by omega);rw [hl] at he;cases he;rw [<-hl] at HO;obtain ⟨hc,hf⟩:=Kd.R_celln 0 HO.out (k:Int) q0 (by rw [hl];exact q1);obtain ⟨hp,hgr⟩:=Kd.R_putg HO.out (k:Int) (1+(k:Int));simp only [Int.toNat_natCast] at hc hf hp hgr;rw [hl] at hp;rw [HS.out] at hp;have HP:=am hp;have HGR:=am (HG.out.trans hgr);clear hp hgr hg3 HG HO hl;go_wp2;go_roundw
   case rel=>exact ⟨k+1,by omega,by go_num,by go_num,HP,HGR⟩
   case measure=>simp [intOf];omega
  ·go_wp2
   go_ret;obtain rfl:k=xs.length:=by omega
   exact ⟨rfl,by have h:=HO.out;unfold partSeq at h;simpa using h,HG.out⟩
theorem heldIntS_calls (n:Nat) (A:Option Addr) (c:Nat) (w:World) (hv:(Kd.int .i64).C w A n (seqFrom 1 n)) (hn:n<=1048576):
  Calls Tryz.prog 26 #[.slice A n c,.int .i64 1] w fun e w'=>e= .returned (.int .i64 (1+n))/\w=w':=by
 have HV:=am hv;clear hv;go_enter Tryz.func26,Tryz.ntmps26;go_wp2;go_loop [1,5] (fun a i=>∃ k:Nat,k<=n/\i= .int .i64 k/\a= .int .i64 (1+(k:Int))) (fun _ i=>n - (intOf i).toNat)
 case atStart=>exact ⟨0,Nat.zero_le _,rfl,rfl⟩
 case round=>
  obtain ⟨k,hk,rfl,rfl⟩:=hrel;by_cases hlt:k < n
  ·have q0:(0:Int)<=(k:Int):=by omega
   have q1:(k:Int) < (n:Int):=by omega
   obtain ⟨ad,rfl,gx⟩:=Kd.at_int HV.out (k:Int) q0 q1;rw [seqFrom_at 1 n k hlt,Int.toNat_natCast] at gx;have y:(1+(k:Int) != 1+(k:Int))=false:=by simp
   go_wp2;go_round
   case rel=>exact ⟨k+1,by omega,by go_num,by go_num⟩
   case measure=>simp [intOf];omega
  ·go_wp2
   go_ret;obtain rfl:k=n:=by omega
   exact ⟨rfl,rfl⟩
theorem markDeedS_calls (ok:Nat->Prop) (A:Option Addr) (n c:Nat) (k0:Int) (w:World) (hv:ShRow ok 197 3 w (.slice A n c) n) (h0:0<=k0) (h1:k0<=1152921504606846976):
  Calls Tryz.prog 140 #[.slice A n c,.int .i64 k0] w fun e w'=>∃ r:Int,e= .returned (.int .i64 r)/\k0<=r/\r<=k0+4194304/\Chg ok [197] w w':=by
 obtain ⟨hn,hv⟩:=hv;rcases hv with ⟨rfl,_⟩ | ⟨g,cap,cs,he,hg,hb,hsz⟩
 ·go_enter Tryz.func140,Tryz.ntmps140
  go_wp2;have hb0:decide ((0:Int) < ((0:Nat):Int))=false:=by decide
  go_loopw [1,5] (fun a i w'=>a= .int .i64 k0/\i= .int .i64 0/\w'=w) (fun _ _ _=>0)
  case atStart=>exact ⟨rfl,rfl,rfl⟩
  case round=>
   obtain ⟨rfl,rfl,rfl⟩:=hrel;go_wp2;go_ret;exact ⟨_,rfl,by omega,by omega,Chg.refl _ _ _⟩
 ·cases he
  have HB:=am hb;have HG:=am hg;clear hb hg;go_enter Tryz.func140,Tryz.ntmps140;go_wp2;go_loopw [1,5] (fun a i w'=>∃ (k:Nat) (r:Int),k<=n/\i= .int .i64 k/\a= .int .i64 r/\Aside0 (r=k0+k*3)/\Aside0 (Chg ok [197] w w')) (fun _ i _=>n - (intOf i).toNat)
  case atStart=>exact ⟨0,k0,Nat.zero_le _,rfl,rfl,⟨by omega⟩,⟨Chg.refl _ _ _⟩⟩
  case round=>
   obtain ⟨k,r,hk,rfl,rfl,HR,HC⟩:=hrel;have hr0:0<=r:=by have:=HR.out;omega
   have hr1:r<=1152921504606846976+1048576*3:=by have:=HR.out;omega
   by_cases hlt:k < n
   ·obtain ⟨_,cs',hb,hsz'⟩:=HC.out.typed g cs _ HB.out
    have hg:=HG.out;obtain ⟨⟨u0,hu0⟩,hf0⟩:=blk_ready hb (j:=k*3) (by omega);obtain ⟨⟨u1,hu1⟩,hf1⟩:=blk_ready hb (j:=k*3+1) (by omega);obtain ⟨⟨u2,hu2⟩,hf2⟩:=blk_ready hb (j:=k*3+2) (by omega);have q0:(0:Int)<=(k:Int):=by omega
    have q1:(k:Int) < (n:Int):=by omega
    have hs0:=Chg.store (ok:=ok) (T:= [197]) hb hg (by simp) (k*3) (.int .i64 r);obtain ⟨_,cs0,hb0,_⟩:=hs0.typed g _ _ hb;have hs1:=Chg.store (ok:=ok) (T:= [197]) hb0 hg (by simp) (k*3+1) (.int .i64 (r+1));obtain ⟨_,cs1,hb1,_⟩:=hs1.typed g _ _ hb0;have hs2:=Chg.store (ok:=ok) (T:= [197]) hb1 hg (by simp) (k*3+2) (.int .i64 (r+1+1));have HC2:=am (((HC.out.trans hs0).trans hs1).trans hs2);clear hs0 hs1 hs2 hb0 hb1 hb hg;go_wp2;go_roundw
    case rel=>exact ⟨k+1,_,by omega,by go_num,rfl,⟨by have:=HR.out;omega⟩,HC2⟩
    case measure=>simp [intOf];omega
   ·go_wp2
    go_ret;obtain rfl:k=n:=by omega
    exact ⟨_,rfl,by have:=HR.out;omega,by have:=HR.out;omega,HC.out⟩
def KA (W W':World):Prop:=∀ (g:Nat) (cs:Array Value),W.heap[g]? = some (Obj.cells cs 68 (0,0))->∃ cs':Array Value,W'.heap[g]? = some (Obj.cells cs' 68 (0,0))/\cs'.size=cs.size/\∀ k,cs'[k*4+1]? = cs[k*4+1]? /\cs'[k*4+2]? = cs[k*4+2]?
def ASt (ok:Nat->Prop) (w W:World):Prop:=Chg ok [68,197,3] w W/\KA w W
theorem KA.refl (W:World):KA W W:=fun g cs h=>⟨cs,h,rfl,fun _=>⟨rfl,rfl⟩⟩
theorem KA.trans {W W1 W2:World} (h:KA W W1) (k:KA W1 W2):KA W W2:=fun g cs hb=>by
 obtain ⟨c1,h1,s1,e1⟩:=h g cs hb;obtain ⟨c2,h2,s2,e2⟩:=k g c1 h1;exact ⟨c2,h2,s2.trans s1,fun q=>⟨(e2 q).1.trans (e1 q).1,(e2 q).2.trans (e1 q).2⟩⟩
theorem ASt.refl (ok:Nat->Prop) (W:World):ASt ok W W:=⟨Chg.refl _ _ _,KA.refl _⟩
theorem ASt.trans {ok:Nat->Prop} {W W1 W2:World} (h:ASt ok W W1) (k:ASt ok W1 W2):ASt ok W W2:=⟨h.1.trans k.1,h.2.trans k.2⟩
theorem ASt.chg {ok:Nat->Prop} {T:List Nat} {w W W1:World} (h:ASt ok w W) (k:Chg ok T W W1) (he:68 ∉ T) (hT:∀ t,t ∈ T->t ∈ [68,197,3]):ASt ok w W1:=
 h.trans ⟨k.more hT,fun g cs hb=>⟨cs,((k.typed g cs _ hb).1.resolve_left he).trans hb,rfl,fun _=>⟨rfl,rfl⟩⟩⟩
theorem ASt.stored {ok:Nat->Prop} {w W W1:World} {g:Nat} {cs:Array Value} (h:ASt ok w W) (hb:w.heap[g]? = some (Obj.cells cs 68 (0,0))) (hg:ok g) (k:Nat) {off:Nat} {u:Value} (hw:W1=W.setCell ⟨g,off,none⟩ u) (hoff:off=k*4\/off=k*4+3):ASt ok w W1:=by
 subst hw;obtain ⟨c1,h1,s1,e1⟩:=h.2 g cs hb;refine h.trans ⟨Chg.store h1 hg (by simp) _ u,fun g' cs' hb'=> ?_⟩;by_cases he:g'=g
 ·subst he
  rw [h1] at hb';cases hb';refine ⟨_,blk_set h1 _ u,by simp,fun q=>⟨?_, ?_⟩⟩ <;> rw [Array.getElem?_setIfInBounds_ne (by omega)]
 ·exact ⟨cs',(Below.heap_setCell W ⟨g,off,none⟩ u g' he).trans hb',rfl,fun _=>⟨rfl,rfl⟩⟩
theorem ASt.at {ok:Nat->Prop} {w W:World} {g:Nat} {cs:Array Value} (h:ASt ok w W) (hb:w.heap[g]? = some (Obj.cells cs 68 (0,0))) {k:Nat} {v1 v2:Value} (h1:cs[k*4+1]? = some v1) (h2:cs[k*4+2]? = some v2):W.cell? ⟨g,k*4+1,none⟩=some v1/\W.cell? ⟨g,k*4+2,none⟩=some v2:=by
 obtain ⟨c1,hb1,_,e1⟩:=h.2 g cs hb;rw [zc8 hb1,zc8 hb1,(e1 k).1,(e1 k).2];exact ⟨h1,h2⟩
theorem ASt.ready {ok:Nat->Prop} {w W:World} {g:Nat} {cs:Array Value} (h:ASt ok w W) (hb:w.heap[g]? = some (Obj.cells cs 68 (0,0))) {off:Nat} (ho:off < cs.size):(∃ u,W.cell? ⟨g,off,none⟩=some u)/\W.frozen? ⟨g,off,none⟩=false:=by
 obtain ⟨c1,hb1,s1,_⟩:=h.2 g cs hb;exact blk_ready hb1 (by omega)
def ShAct (ok:Nat->Prop) (W:World) (cs:Array Value) (k:Nat):Prop:=(∃ (v:Value) (n:Nat),cs[k*4+1]? = some v/\ShRow ok 197 3 W v n)/\(∃ (v:Value) (n:Nat),cs[k*4+2]? = some v/\ShRow ok 3 1 W v n)
def ShActs (ok:Nat->Prop) (W:World) (v:Value) (n:Nat):Prop:=n<=1048576/\((n=0/\∃ A c,v= .slice A 0 c)\/∃ (g cap:Nat) (cs:Array Value),v= .slice (some ⟨g,0,none⟩) n cap/\ok g/\W.heap[g]? = some (Obj.cells cs 68 (0,0))/\n*4<=cs.size/\∀ k,k < n->ShAct ok W cs k)
theorem ShActs.slice {ok:Nat->Prop} {W:World} {v:Value} {n:Nat} (h:ShActs ok W v n):∃ A c,v= .slice A n c:=by
 obtain ⟨_,⟨rfl,A,c,rfl⟩ | ⟨g,cap,cs,rfl,_⟩⟩:=h
 ·exact ⟨A,c,rfl⟩
 ·exact ⟨_,_,rfl⟩
theorem ShActs.ast {ok:Nat->Prop} {W W1:World} {v:Value} {n:Nat} (h:ShActs ok W v n) (k:ASt ok W W1):ShActs ok W1 v n:=by
 obtain ⟨hn,h0 | ⟨g,cap,cs,rfl,hg,hb,hs,hk⟩⟩:=h
 ·exact ⟨hn,.inl h0⟩
 ·obtain ⟨c1,h1,s1,e1⟩:=k.2 g cs hb
  refine ⟨hn,.inr ⟨g,cap,c1,rfl,hg,h1,by omega,fun q hq=> ?_⟩⟩;obtain ⟨⟨v1,n1,a1,b1⟩,⟨v2,n2,a2,b2⟩⟩:=hk q hq;exact ⟨⟨v1,n1,(e1 q).1.trans a1,b1.chg k.1⟩,⟨v2,n2,(e1 q).2.trans a2,b2.chg k.1⟩⟩
theorem markActS_calls (ok:Nat->Prop) (v:Value) (n:Nat) (k0:Int) (w:World) (hv:ShActs ok w v n) (h0:0<=k0) (h1:k0<=72057594037927936):
  Calls Tryz.prog 98 #[v,.int .i64 k0] w fun e w'=>∃ r:Int,e= .returned (.int .i64 r)/\k0<=r/\r<=k0+n*33554432/\ASt ok w w':=by
 obtain ⟨hn,⟨rfl,A,c,rfl⟩ | ⟨g,cap,cs,rfl,hg,hb,hsz,hSh⟩⟩:=hv
 ·go_enter Tryz.func98,Tryz.ntmps98
  go_wp2;have hb0:decide ((0:Int) < ((0:Nat):Int))=false:=by decide
  go_loopw [1,5] (fun a i w'=>a= .int .i64 k0/\i= .int .i64 0/\w'=w) (fun _ _ _=>0)
  case atStart=>exact ⟨rfl,rfl,rfl⟩
  case round=>
   obtain ⟨rfl,rfl,rfl⟩:=hrel;go_wp2;go_ret;exact ⟨_,rfl,by omega,by omega,ASt.refl _ _⟩
 ·have HT0:=am (ASt.refl ok w)
  have HB:=am hb;have HG:=am hg;have HSH:=am hSh;clear hb hg hSh;go_enter Tryz.func98,Tryz.ntmps98;go_wp2;go_loopw [1,5] (fun a i w'=>∃ (k:Nat) (r:Int),k<=n/\i= .int .i64 k/\a= .int .i64 r/\k0<=r/\r<=k0+k*33554432/\Aside0 (ASt ok w w')) (fun _ i _=>n - (intOf i).toNat)
  case atStart=>exact ⟨0,k0,Nat.zero_le _,rfl,rfl,by omega,by omega,HT0⟩
  case round=>
   clear HT0;obtain ⟨k,r,hk,rfl,rfl,hr0,hr1,HT⟩:=hrel;by_cases hlt:k < n
   ·obtain ⟨⟨v1,n1,e1,S1⟩,⟨v2,n2,e2,S2⟩⟩:=HSH.out k hlt
    have E1:=am e1;have R1:=am S1;obtain ⟨A1,c1,rfl⟩:=S1.slice;clear S1 e1;have E2:=am e2;have R2:=am S2;obtain ⟨A2,c2,rfl⟩:=S2.slice;clear S2 e2;have d1:=(HT.out.at HB.out E1.out E2.out).1;have d2:=(HT.out.at HB.out E1.out E2.out).2;have q0:(0:Int)<=(k:Int):=by omega
    have q1:(k:Int) < (n:Int):=by omega
    have hks:k*4+4<=cs.size:=Nat.le_trans (by rw [<-Nat.succ_mul];exact Nat.mul_le_mul_right _ hlt) hsz
    go_wp2_with (first
    |((with_reducible refine gate_store (t:=3) rfl ?_);refine mark_store_ev rfl rfl _ _ rfl rfl rfl (by kernel_rfl) (HT.out.ready HB.out (by omega)) ?_;intro w1 hw;replace HT:=am (HT.out.stored HB.out HG.out k hw (by first|exact .inl rfl | exact .inr rfl));clear d1 d2 hw;have d1:=(HT.out.at HB.out E1.out E2.out).1;have d2:=(HT.out.at HB.out E1.out E2.out).2)
    |(go_at_call 140;refine (markDeedS_calls ok _ _ _ _ _ (R1.out.chg HT.out.1) (by omega) (by omega)).mono ?_;rintro e w1 ⟨r1,rfl,hra,hrb,hc⟩;replace HT:=am (HT.out.chg hc (by decide) (by decide));clear d1 d2 hc;have d1:=(HT.out.at HB.out E1.out E2.out).1;have d2:=(HT.out.at HB.out E1.out E2.out).2)
    |(go_at_call 25;refine (markIntS_calls ok _ _ _ _ _ (R2.out.chg HT.out.1) (by omega) (by omega)).mono ?_;rintro e w1 ⟨r2,rfl,hra2,hrb2,hc⟩;replace HT:=am (HT.out.chg hc (by decide) (by decide));clear d1 d2 hc;have d1:=(HT.out.at HB.out E1.out E2.out).1;have d2:=(HT.out.at HB.out E1.out E2.out).2))
    go_roundw
    case rel=>exact ⟨k+1,_,by omega,by go_num,rfl,by omega,by omega,HT⟩
    case measure=>simp [intOf];omega
   ·go_wp2
    go_ret;obtain rfl:k=n:=by omega
    exact ⟨_,rfl,by omega,by omega,HT.out⟩
def ShBodies (ok:Nat->Prop) (W:World) (v:Value) (xs:List (List Act)):Prop:=(xs.length=0/\∃ A c,v= .slice A 0 c)\/∃ (g cap:Nat) (cs:Array Value),v= .slice (some ⟨g,0,none⟩) xs.length cap/\W.heap[g]? = some (Obj.cells cs 60 (0,0))/\xs.length<=cs.size/\∀ k,k < xs.length->∃ u,cs[k]? = some u/\ShActs ok W u (xs.getD k []).length
theorem markActSS_calls (ok:Nat->Prop) (v:Value) (xs:List (List Act)) (k0:Int) (w:World) (hn:xs.length<=1048576) (hs:sumOf szAS xs<=1048576) (hv:ShBodies ok w v xs) (h0:0<=k0) (h1:k0<=1125899906842624):
  Calls Tryz.prog 62 #[v,.int .i64 k0] w fun e w'=>∃ r:Int,e= .returned (.int .i64 r)/\k0<=r/\r<=k0+35184372088832/\ASt ok w w':=by
 rcases hv with ⟨hz,A,c,rfl⟩ | ⟨g,cap,cs,rfl,hb,hsz,hSh⟩
 ·clear hn hs
  go_enter Tryz.func62,Tryz.ntmps62;go_wp2;have hb0:decide ((0:Int) < ((0:Nat):Int))=false:=by decide
  go_loopw [1,5] (fun a i w'=>a= .int .i64 k0/\i= .int .i64 0/\w'=w) (fun _ _ _=>0)
  case atStart=>exact ⟨rfl,rfl,rfl⟩
  case round=>
   obtain ⟨rfl,rfl,rfl⟩:=hrel;go_wp2;go_ret;exact ⟨_,rfl,by omega,by omega,ASt.refl _ _⟩
 ·have HT0:=am (ASt.refl ok w)
  have HB:=am hb;have HSH:=am hSh;have HS:=am hs;clear hb hSh hs;go_enter Tryz.func62,Tryz.ntmps62;go_wp2;go_loopw [1,5] (fun a i w'=>∃ (k:Nat) (r:Int) (m:Nat),k<=xs.length/\i= .int .i64 k/\a= .int .i64 r/\k0<=r/\r<=k0+m*33554432/\Aside0 (m=sumOf szAS (xs.take k))/\m<=1048576/\Aside0 (ASt ok w w')) (fun _ i _=>xs.length - (intOf i).toNat)
  case atStart=>exact ⟨0,k0,0,Nat.zero_le _,rfl,rfl,by omega,by omega,⟨rfl⟩,by omega,HT0⟩
  case round=>
   clear HT0;obtain ⟨k,r,m,hk,rfl,rfl,hr0,hr1,HM,hm,HT⟩:=hrel;by_cases hlt:k < xs.length
   ·obtain ⟨u,e1,S1⟩:=HSH.out k hlt
    have R1:=am S1;have d1:_:=(zc8 (((HT.out.1.typed g cs _ HB.out).1.resolve_left (by decide)).trans HB.out) k).trans e1
    have hm2:m+(xs.getD k []).length<=sumOf szAS (xs.take (k+1)):=by
     have h2:=sumOf_take szAS xs k [] hlt;have h3:szAS (xs.getD k [])=(xs.getD k []).length+sumOf szA (xs.getD k []):=rfl;have h4:=HM.out;omega
    have hm3:=Nat.le_trans (sumOf_le szAS xs (k+1)) HS.out;generalize hL:(xs.getD k []).length=nl at R1 hm2;generalize hM2:sumOf szAS (xs.take (k+1))=m2 at hm2 hm3;have HM2:=am hM2;obtain ⟨A1,c1,rfl⟩:=R1.out.slice;clear S1 e1 hL hM2;have q0:(0:Int)<=(k:Int):=by omega
    have q1:(k:Int) < (xs.length:Int):=by omega
    go_wp2_with (go_at_call 98;refine (markActS_calls ok _ _ _ _ (R1.out.ast HT.out) (by omega) (by omega)).mono ?_;rintro e w1 ⟨r1,rfl,hra,hrb,hc⟩;replace HT:=am (HT.out.trans hc);clear hc)
    go_roundw
    case rel=>exact ⟨k+1,_,m2,by omega,by go_num,rfl,by omega,by omega,⟨HM2.out.symm⟩,by omega,HT⟩
    case measure=>simp [intOf];omega
   ·go_wp2
    go_ret;exact ⟨_,rfl,by omega,by omega,HT.out⟩
theorem shActs {base:Nat} {ok:Nat->Prop} {W:World} {v:Value} {xs:List Act} (h:kAct.R 68 W base ok v xs) (hs:szAS xs<=1048576):ShActs ok W v xs.length:=by
 have h3:szAS xs=xs.length+sumOf szA xs:=rfl;refine ⟨by omega, ?_⟩;rcases (ShRow.of_R h (by omega)).2 with h0 | ⟨g,cap,cs,rfl,hg,hb,hsz⟩
 ·exact .inl h0
 ·refine .inr ⟨g,cap,cs,rfl,hg,hb,hsz,fun k hk=> ?_⟩
  obtain ⟨c,hcl,hM,hcc,_⟩:=Kd.R_elem h zAct (k:Int) (by omega) (by omega);simp only [Int.toNat_natCast] at hM hcc;obtain ⟨v1,v2,rfl,r1,r2⟩:=kAct_openM hM;have hb1:=sumOf_mem szA xs k zAct hk;unfold szA at hb1;have mono:∀ i,(ok i/\i ≠ g)->ok i:=fun i hi=>hi.1
  exact ⟨⟨v1,_,cells_of hb (hcc 1 _ rfl),ShRow.of_R (Kd.R_mono r1 mono) (by unfold szA at h3;omega)⟩,⟨v2,_,cells_of hb (hcc 2 _ rfl),ShRow.of_R (Kd.R_mono r2 mono) (by unfold szA at h3;omega)⟩⟩
theorem shBodies {base:Nat} {ok:Nat->Prop} {W:World} {v:Value} {xs:List (List Act)} (h:(Kd.slice 68 kAct).R 60 W base ok v xs) (hn:xs.length<=1048576) (hs:sumOf szAS xs<=1048576):ShBodies ok W v xs:=by
 have hz:(Kd.slice 68 kAct).sz=1:=rfl;rcases (ShRow.of_R h hn).2 with h0 | ⟨g,cap,cs,rfl,hg,hb,hsz⟩
 ·exact .inl h0
 ·refine .inr ⟨g,cap,cs,rfl,hb,by rw [hz,Nat.mul_one] at hsz;exact hsz,fun k hk=> ?_⟩
  obtain ⟨c,hcl,hM,hcc,_⟩:=Kd.R_elem h ([]:List Act) (k:Int) (by omega) (by omega);simp only [Int.toNat_natCast] at hM hcc;obtain ⟨v1,rfl,r1⟩:=hM;have mono:∀ i,(ok i/\i ≠ g)->ok i:=fun i hi=>hi.1
  have hb1:=sumOf_mem szAS xs k ([]:List Act) hk;have h0:=hcc 0 v1 rfl;rw [hz,Nat.mul_one] at h0;exact ⟨v1,cells_of hb (by simpa using h0),shActs (Kd.R_mono r1 mono) (by omega)⟩
theorem ShBodies.chg {ok:Nat->Prop} {W W1:World} {v:Value} {xs:List (List Act)} (h:ShBodies ok W v xs) (k:ASt ok W W1):ShBodies ok W1 v xs:=by
 rcases h with h0 | ⟨g,cap,cs,rfl,hb,hsz,hk⟩
 ·exact .inl h0
 ·exact .inr ⟨g,cap,cs,rfl,((k.1.typed g cs _ hb).1.resolve_left (by decide)).trans hb,hsz,fun q hq=>by obtain ⟨u,h1,h2⟩:=hk q hq;exact ⟨u,h1,h2.ast k⟩⟩
theorem markProg_calls (x:Prog) (cs:List Value) (base:Nat) (ok:Nat->Prop) (w:World) (hx:kProg.M w base ok x cs) (hn:szP x<=1048576):
  Calls Tryz.prog 23 #[.agg cs.toArray,.int .i64 1] w fun e w'=>∃ r:Int,e= .returned (.int .i64 r)/\0<=r/\r<=70368744177664/\Kp (fun k=>ok k/\k < w.heap.size) w w':=by
 obtain ⟨v0,v1,rfl,r0,r1⟩:=kProg_openM hx;clear hx;unfold szP at hn;obtain ⟨A0,c0,rfl⟩:=Kd.R_slice r0;obtain ⟨A1,c1,rfl⟩:=Kd.R_slice r1;have hl0:x.cells.length<=1048576:=by omega
 have hl1:x.bodies.length<=1048576:=by omega
 have hl2:sumOf szAS x.bodies<=1048576:=by omega
 generalize hbox:Obj.cells #[.slice A0 x.cells.length c0,.slice A1 x.bodies.length c1] 36 (0,0)=box;have s0:=am (ShRow.of_R (Kd.R_alloc (Kd.R_mono (Kd.R_bound r0) (fun i hi=>(⟨hi.1,hi.2.2.1⟩:ok i/\i < w.heap.size))) box) hl0);have s1:=am (shBodies (Kd.R_alloc (Kd.R_mono (Kd.R_bound r1) (fun i hi=>(⟨hi.1,hi.2.2.1⟩:ok i/\i < w.heap.size))) box) hl1 hl2);have HBX:=am hbox;clear hbox r0 r1;have HK:=am (Kp.alloc (fun k=>ok k/\k < w.heap.size) w box);have HN:=am (show ¬ (ok w.heap.size/\w.heap.size < w.heap.size) by omega);go_enter Tryz.func23,Tryz.ntmps23;rw [<-HBX.out] at s0 s1 HK;clear HBX
 go_wp2_with (first
 |(go_at_call 25;refine (markIntS_calls _ _ _ _ _ _ s0.out (by omega) (by omega)).mono ?_;rintro e w1 ⟨r1,rfl,ha1,hb1,hc⟩;have t1:=am (s1.out.chg ((ASt.refl _ _).chg hc (by decide) (by decide)));have HK1:=am (HK.out.chg hc);have hd:=cell_kept_of hc HN.out;clear s0 s1 hc HK)
 |(go_at_call 62;refine (markActSS_calls _ _ _ _ _ hl1 hl2 t1.out (by omega) (by omega)).mono ?_;rintro e w2 ⟨r2,rfl,ha2,hb2,hc⟩;have HK2:=am (HK1.out.chg hc.1);clear t1 hc HK1))
 go_ret;exact ⟨_,rfl,by omega,by omega,HK2.out⟩
theorem markSysK_calls (k0:Int) (h0:0<=k0) (h1:k0<=70368744177664) (x:Sys) (cs:List Value) (base:Nat) (ok:Nat->Prop) (w:World) (hx:kSys.M w base ok x cs) (hn:szS x<=1048576):
  Calls Tryz.prog 24 #[.agg cs.toArray,.int .i64 k0] w fun e w'=>∃ r:Int,e= .returned (.int .i64 r)/\0<=r/\Kp (fun k=>ok k/\k < w.heap.size) w w':=by
 obtain ⟨v0,v1,v3,rfl,r0,r1,r3⟩:=kSys_openM hx;clear hx;unfold szS at hn;have mono:∀ i,(ok i/\base<=i/\i < w.heap.size/\True)->(ok i/\i < w.heap.size):=fun i hi=>⟨hi.1,hi.2.2.1⟩
 obtain ⟨A0,c0,rfl⟩:=Kd.R_slice r0;obtain ⟨A1,c1,rfl⟩:=Kd.R_slice r1;obtain ⟨A3,c3,rfl⟩:=Kd.R_slice r3;have hl0:x.cells.length<=1048576:=by omega
 have hl1:x.tasks.length<=1048576:=by omega
 have hl3:x.log.length<=1048576:=by omega
 generalize hbox:Obj.cells #[.slice A0 x.cells.length c0,.slice A1 x.tasks.length c1,.int .i64 x.clock,.slice A3 x.log.length c3] 42 (0,0)=box;have s0:=am (ShRow.of_R (Kd.R_alloc (Kd.R_mono (Kd.R_bound r0) (fun i hi=>(⟨hi.1,hi.2.2.1⟩:ok i/\i < w.heap.size))) box) hl0);have s1:=am (shTasks (Kd.R_alloc (Kd.R_mono (Kd.R_bound r1) (fun i hi=>(⟨hi.1,hi.2.2.1⟩:ok i/\i < w.heap.size))) box) hl1 (by omega));have s3:=am (shEntries (Kd.R_alloc (Kd.R_mono (Kd.R_bound r3) (fun i hi=>(⟨hi.1,hi.2.2.1⟩:ok i/\i < w.heap.size))) box) hl3 (by omega));have HBX:=am hbox;clear hbox r0 r1 r3 mono;have HK:=am (Kp.alloc (fun k=>ok k/\k < w.heap.size) w box);have HN:=am (show ¬ (ok w.heap.size/\w.heap.size < w.heap.size) by omega);go_enter Tryz.func24,Tryz.ntmps24;rw [<-HBX.out] at s0 s1 s3 HK;clear HBX
 go_wp2_with (first
 |(go_at_call 63;refine (markCellS_calls _ _ _ _ _ _ s0.out (by omega) (by omega)).mono ?_;rintro e w1 ⟨r1,rfl,ha1,hb1,hc⟩;have t1:=am (shTasks_chg s1.out hc (by decide));have t3:=am (shEntries_chg s3.out hc (by decide));have HK1:=am (HK.out.chg hc);have hd:=cell_kept_of hc HN.out;clear s0 s1 s3 hc HK)
 |(go_at_call 64;refine (markTaskS_calls _ _ _ _ _ hl1 t1.out (by omega) (by omega)).mono ?_;rintro e w2 ⟨r2,rfl,ha2,hb2,hc⟩;have u3:=am (shEntries_chg t3.out hc (by decide));have HK2:=am (HK1.out.chg hc);have hd2:=cell_kept_of hc HN.out;clear t1 t3 hc HK1)
 |(go_at_call 65;refine (markEntryS_calls _ _ _ _ _ hl3 u3.out (by omega) (by omega)).mono ?_;rintro e w3 ⟨r3,rfl,ha3,hb3,hc⟩;have HK3:=am (HK2.out.chg hc);clear u3 hc HK2))
 go_ret;exact ⟨_,rfl,by omega,HK3.out⟩
theorem stab_and {ok:Nat->Prop} {F G:World->Prop} (h:Stab ok F) (k:Stab ok G):Stab ok (fun V=>F V/\G V):=fun V V' hs hk hV=>⟨h V V' hs hk hV.1,k V V' hs hk hV.2⟩
theorem stab_Rw {α:Type} {d:Kd α} {e lo:Nat} {ok:Nat->Prop} {v:Value} {xs:List α}:Stab ok (Rw d e lo ok v xs):=fun V V' hs hk hV=>Kd.R_step hV (fun k h1 h2=>hk k h1 h2)
def FPr (lo:Nat) (ok:Nat->Prop) (p:Prog) (v0 v1:Value):World->Prop:=fun V=>Rw (Kd.int .i64) 3 lo ok v0 p.cells V/\Rw (Kd.slice 68 kAct) 60 lo ok v1 p.bodies V
def FSs (lo:Nat) (ok:Nat->Prop) (s:Sys) (v0 v1 v3:Value):World->Prop:=fun V=>Rw kCell 63 lo ok v0 s.cells V/\(Rw kTask 59 lo ok v1 s.tasks V/\Rw kEntry 136 lo ok v3 s.log V)
theorem readyB_length (p:Prog) (s:Sys) (h:SysSz s):(readyB p s).length<=1048576:=by
 unfold readyB;split
 ·exact Nat.le_trans (pickTo_length _ _) h.tasks
 ·exact Nat.zero_le _
section
variable {w W W1:World} {l l':Bx}
theorem lowered {α:Type} {d:Kd α} {e:Nat} {v:Value} {xs:List α} (M:Own w W l) (r:d.R e W1 W.heap.size (fun _=>True) v xs):Rw d e w.heap.size (Rng W.heap.size W1.heap.size) v xs W1:=Kd.R_lower (Kd.R_mono (Kd.R_bound r) (fun k hk=>⟨hk.2.1,hk.2.2.1⟩)) M.below.size
theorem Own.prog {p:Prog} {ds:List Value} (M:Own w W l) (hb:Below W.heap.size W W1) (h:kProg.M W1 W.heap.size (fun _=>True) p ds):∃ A0 c0 A1 c1,ds= [.slice A0 p.cells.length c0,.slice A1 p.bodies.length c1]/\Own w W1 (.r (Rng W.heap.size W1.heap.size) (FPr w.heap.size (Rng W.heap.size W1.heap.size) p (.slice A0 p.cells.length c0) (.slice A1 p.bodies.length c1)) :: l):=by
 obtain ⟨v0,v1,rfl,r0,r1⟩:=kProg_openM h;obtain ⟨A0,c0,rfl⟩:=Kd.R_slice r0;obtain ⟨A1,c1,rfl⟩:=Kd.R_slice r1;exact ⟨A0,c0,A1,c1,rfl,M.row hb (fun k hk=>hk) (stab_and stab_Rw stab_Rw) ⟨lowered M r0,lowered M r1⟩⟩
theorem Own.sys {s:Sys} {ds:List Value} (M:Own w W l) (hb:Below W.heap.size W W1) (h:kSys.M W1 W.heap.size (fun _=>True) s ds):∃ A0 c0 A1 c1 A3 c3,ds= [.slice A0 s.cells.length c0,.slice A1 s.tasks.length c1,.int .i64 s.clock,.slice A3 s.log.length c3]/\Own w W1 (.r (Rng W.heap.size W1.heap.size) (FSs w.heap.size (Rng W.heap.size W1.heap.size) s (.slice A0 s.cells.length c0) (.slice A1 s.tasks.length c1) (.slice A3 s.log.length c3)) :: l):=by
 obtain ⟨v0,v1,v3,rfl,r0,r1,r3⟩:=kSys_openM h;obtain ⟨A0,c0,rfl⟩:=Kd.R_slice r0;obtain ⟨A1,c1,rfl⟩:=Kd.R_slice r1;obtain ⟨A3,c3,rfl⟩:=Kd.R_slice r3;exact ⟨A0,c0,A1,c1,A3,c3,rfl,M.row hb (fun k hk=>hk) (stab_and stab_Rw (stab_and stab_Rw stab_Rw)) ⟨lowered M r0,lowered M r1,lowered M r3⟩⟩
theorem Own.getP {lo:Nat} {ok:Nat->Prop} {p:Prog} {v0 v1:Value} (M:Own w W l) (h:Has l (FPr lo ok p v0 v1):=by repeat (first|exact .here | exact .kept | apply Has.there)):kProg.M W lo ok p [v0,v1]:=let g:=M.lies.get h;kProg_mkM p g.1 g.2
theorem Own.getS {lo:Nat} {ok:Nat->Prop} {s:Sys} {v0 v1 v3:Value} (M:Own w W l) (h:Has l (FSs lo ok s v0 v1 v3):=by repeat (first|exact .here | exact .kept | apply Has.there)):kSys.M W lo ok s [v0,v1,.int .i64 s.clock,v3]:=let g:=M.lies.get h;kSys_mkM s g.1 g.2.1 g.2.2
inductive Rm:Bx->En->Bx->Prop
 | here {e l}:Rm (e :: l) e l
 | there {b e l l'}:Rm l e l'->Rm (b :: l) e (b :: l')
theorem Rm.perm {e:En}:∀ {l l':Bx},Rm l e l'->l.Perm (e :: l')
 | _,_,.here=>List.Perm.refl _
 | _,_,.there h=>((Rm.perm h).cons _).trans (List.Perm.swap _ _ _)
theorem Own.front {e:En} (M:Own w W l) (h:Rm l e l'):Own w W (e :: l'):=M.perm h.perm
theorem Own.marked {ok:Nat->Prop} {F:World->Prop} (M:Own w W (.r ok F :: l)) (k:Kp (fun j=>ok j/\j < W.heap.size) W W1):Own w W1 l:=by
 have hfr:∀ j,ok j->w.heap.size<=j:=M.fresh (.r ok F) List.mem_cons_self;have hap:=(List.pairwise_cons.1 M.apart).1;have hsz:=M.below.size
 have key:∀ l:Bx,(∀ e ∈ l,e.ok w)->(∀ e ∈ l,∀ j,ok j->¬ e.key j)->Lies W l->Lies W1 l:=by
  intro l
  induction l with
  | nil=>exact fun _ _ _=>trivial
  | cons e l ih=>
   intro h1 h2 h3;have i1:=ih (fun x hx=>h1 x (List.mem_cons_of_mem _ hx)) (fun x hx=>h2 x (List.mem_cons_of_mem _ hx));have o1:=h1 e List.mem_cons_self;have o2:=h2 e List.mem_cons_self
   cases e with
   | b g cs t=>exact ⟨(k.keep g (blk_lt h3.1) (fun h=>o2 g h.1 rfl)).trans h3.1,i1 h3.2⟩
   | kp g cs t=>exact ⟨(k.keep g (blk_lt h3.1) (fun h=>Nat.lt_irrefl _ (Nat.lt_of_lt_of_le o1 (hfr g h.1)))).trans h3.1,i1 h3.2⟩
   | f ad v=>
    refine ⟨?_,i1 h3.2⟩;have hk:=k.keep ad.block (Nat.lt_of_lt_of_le o1 hsz) (fun h=>Nat.lt_irrefl _ (Nat.lt_of_lt_of_le o1 (hfr _ h.1)));have h4:=h3.1;unfold World.cell? at h4 ⊢;rw [hk]
    exact h4
   | r ok2 F2=>exact ⟨⟨fun j hj=>Nat.lt_of_lt_of_le (h3.1.1 j hj) k.size,h3.1.2.1,h3.1.2.1 W W1 k.size (fun j hj hl=>k.keep j hl (fun h=>o2 j h.1 hj)) h3.1.2.2⟩,i1 h3.2⟩
   | rk ok2 F2=>exact ⟨⟨fun j hj=>Nat.lt_of_lt_of_le (h3.1.1 j hj) k.size,h3.1.2.1,h3.1.2.1 W W1 k.size (fun j hj hl=>k.keep j hl (fun h=>Nat.lt_irrefl _ (Nat.lt_of_lt_of_le (o1 j hj) (hfr j h.1)))) h3.1.2.2⟩,i1 h3.2⟩
 exact ⟨k.below M.below (fun i h=>hfr i h.1),key l (fun e he=>M.fresh e (List.mem_cons_of_mem _ he)) (fun e he j h=>hap e he j h) M.lies.2,fun e he=>M.fresh e (List.mem_cons_of_mem _ he),(List.pairwise_cons.1 M.apart).2⟩
theorem Own.turnR {α:Type} {d:Kd α} {e:Nat} {ok:Nat->Prop} {v:Value} {xs ys:List α} (M:Own w W l) (h:Rm l (.r ok (Rw d e w.heap.size ok v xs)) l') (hg:W.grownBy W1 v.ownBlock) (hr:d.R e W1 w.heap.size ok v ys):Own w W1 (.r ok (Rw d e w.heap.size ok v ys) :: l'):=
 (M.front h).turn hg (fun k hk=>hr.1 k hk) (fun k hk=>⟨.inl hk,Nat.lt_of_lt_of_le ((M.front h).lies.1.1 k hk) hg.size⟩) stab_Rw hr
theorem Own.rdC {xs:List Int} {c lo:Nat} {ok:Nat->Prop} (M:Own w W l) (A:Option Addr) (n:Nat) (h:Has l (Rw (Kd.int .i64) 3 lo ok (.slice A n c) xs):=by repeat (first|exact .here | exact .kept | apply Has.there)):(Kd.int .i64).C W A n xs:=
 by
  have hC:=(Kd.R_reads' (M.gotten h)).2.2;have hl:=(Kd.R_reads' (M.gotten h)).1;first | exact hC|(rw [hl];exact hC)|(rw [<-hl];exact hC)
end
theorem fnExactSysReady_calls (p:Prog) (pcs:List Value) (s:Sys) (cs:List Value) (w:World) (hp:kProgL.K w p pcs) (hs:kSysL.K w s cs) (a:Addr) (he:w.cell? ⟨0,0,none⟩=some (.iface 253 (.pointer (some a)))):
  Calls Tryz.prog 3 #[.agg pcs.toArray,.agg cs.toArray] w fun e w'=>e= .returned (.bool true)/\Below w.heap.size w w':=by
 have HE:=am he;have HPL:=am hp;have HSL:=am hs;obtain ⟨Ac,cc,Ab,cb,rfl,-⟩:=kProgL_open hp;obtain ⟨A0,c0,A1,c1,A3,c3,rfl,-⟩:=kSysL_open hs;have M:=am (Own.nil w);have C:=M.out.cl;clear hp hs he;go_enter Tryz.func3,Tryz.ntmps3
 go_upto_if 18 with (first
 |((first|with_reducible refine gB ?_ | with_reducible refine gA ?_);refine oB rfl M.out ?_;clear M C;intro g W M C;simp only [Cl] at C)
 |((with_reducible refine gL ?_);refine oL rfl rfl M.out ?_)
 |(go_at_call 14;refine (szProg_calls p _ 1048576 _ (kProgL.K_below M.out.below HPL.out) (by omega) (by omega)).mono ?_;rintro e W ⟨r,rfl,hr,hb⟩;have HR:=am hr;clear hr;replace M:=am (M.out.step hb);clear C;have C:=M.out.cl;simp only [Cl] at C;clear hb))
 by_cases hneg:r < 0
 ·have yr:decide (r < 0)=true:=decide_eq_true hneg
  exact exEF
 have yr:decide (r < 0)=false:=decide_eq_false hneg;have hr0:0<=r:=by omega
 have hr1:r<=1048576:=by have:=HR.out;unfold Sz at this;omega
 have HP:=am (show szP p<=1048576 by have:=HR.out;unfold Sz at this;omega);clear hneg
 go_upto_if 23 with (first
 |((with_reducible refine gL ?_);refine oL rfl rfl M.out ?_)
 |(go_at_call 15;refine (szSys_calls s _ r _ (kSysL.K_below M.out.below HSL.out) hr0 hr1).mono ?_;rintro e W ⟨r2,rfl,hr2,hb⟩;have HR2:=am hr2;clear hr2;replace M:=am (M.out.step hb);clear C;have C:=M.out.cl;simp only [Cl] at C;clear hb))
 by_cases hneg:r2 < 0
 ·have yr2:decide (r2 < 0)=true:=decide_eq_true hneg
  exact exEF
 have yr2:decide (r2 < 0)=false:=decide_eq_false hneg;have HS:=am (show szS s<=1048576 by have:=HR2.out;unfold Sz at this;omega);have HPZ:=am (progSz_of HP.out);have HSZ:=am (sysSz_of HS.out);clear hneg;simp only [yr2]
 go_wp2_with (first
  | fail)
 obtain ⟨R,hR⟩:∃ R,readyB p s=R:=⟨_,rfl⟩;have YO:=am hR;have HRL:=am (show R.length<=1048576 by rw [<-hR];exact readyB_length p s HSZ.out);clear hR;refine dS M.out ?_;clear M C;intro W M;refine dN [0,2] M.out ?_;refine sL rfl rfl ?_;refine sL rfl rfl ?_;refine stillS_nil ?_;refine dC 1 rfl ?_;refine (toProg_calls p _ _ (kProgL.K_below M.out.below HPL.out) HP.out).mono ?_;rintro e W2 ⟨d1,rfl,hm,hb⟩;have K1:=am (kProg.K_of_M hm);clear hm;replace M:=am (M.out.step hb);clear hb;refine ⟨_,rfl,M,dA ?_⟩;refine dC 3 rfl ?_;refine (toSys_calls s _ _ (kSysL.K_below M.out.below HSL.out) HS.out).mono ?_;rintro e W2 ⟨d2,rfl,hm,hb⟩;have K2:=am (kSys.K_of_M hm);replace K1:=am (kProg.K_below hb K1.out);clear hm;replace M:=am (M.out.step hb);clear hb;refine ⟨_,rfl,M,dA ?_⟩;refine dC 4 rfl ?_;refine (specReady_calls p d1 s d2 _ K1.out K2.out HPZ.out HSZ.out).mono ?_;rintro e W2 ⟨v,rfl,hv,hb⟩;rw [YO.out] at hv;obtain ⟨A6,c6,rfl⟩:=Kd.R_slice hv;replace M:=am (M.out.made hb hv);clear hb hv K1 K2;refine ⟨_,rfl,⟨M.out.pop⟩,dA ?_⟩;refine dN [5] M.out.pop ?_;(first|refine sP rfl ?_ | refine sG rfl ?_ | refine sU rfl ?_ | refine sN rfl ?_);refine stillS_nil ?_;refine dD ?_;have C:=M.out.cl;simp only [Cl] at C
 go_upto_region 10 with (first
 |((first|with_reducible refine gB ?_ | with_reducible refine gA ?_);refine oB rfl M.out ?_;clear M C;intro g W M C;simp only [Cl] at C)
 |((with_reducible refine gS ?_);refine oS rfl rfl rfl M.out ?_;clear M C;intro W M C;simp only [Cl] at C)
 |((with_reducible refine gL ?_);refine oL rfl rfl M.out ?_)
 |(go_at_call 17;refine (toProg_calls p _ _ (kProgL.K_below M.out.below HPL.out) HP.out).mono ?_;rintro e W2 ⟨ds,rfl,hm,hb⟩;obtain ⟨P0,p0,P1,p1,rfl,M1⟩:=M.out.prog hb hm;replace M:=am M1;clear C hm hb;have C:=M.out.cl;simp only [Cl] at C))
 go_upto_region 11 with (first
 |((first|with_reducible refine gB ?_ | with_reducible refine gA ?_);refine oB rfl M.out ?_;clear M C;intro g W M C;simp only [Cl] at C)
 |((with_reducible refine gS ?_);refine oS rfl rfl rfl M.out ?_;clear M C;intro W M C;simp only [Cl] at C)
 |((with_reducible refine gL ?_);refine oL rfl rfl M.out ?_)
 |(go_at_call 18;refine (toSys_calls s _ _ (kSysL.K_below M.out.below HSL.out) HS.out).mono ?_;rintro e W2 ⟨ds,rfl,hm,hb⟩;obtain ⟨S0,s0,S1,s1,S3,s3,rfl,M1⟩:=M.out.sys hb hm;replace M:=am M1;clear C hm hb;have C:=M.out.cl;simp only [Cl] at C))
 go_upto_region 12 with (first
 |((with_reducible refine gL ?_);refine oL rfl rfl M.out ?_)
 |(go_at_call 19;refine (implReady_calls p _ s _ _ (kProg.K_of_M M.out.getP) (kSys.K_of_M M.out.getS) HPZ.out HSZ.out a (pw_cell_below M.out.below HE.out)).mono ?_;rintro e W2 ⟨v,rfl,hv,hb⟩;rw [YO.out] at hv;obtain ⟨A9,c9,rfl⟩:=Kd.R_slice hv;replace M:=am (M.out.made hb hv);clear C hv hb;have C:=M.out.cl;simp only [Cl] at C))
 go_upto_region 14 with (first
 |(go_at_call 20;refine oCb M.out ((eqIntS_calls R R A9 A6 c9 c6 _ (M.out.rdC A9 R.length) (M.out.rdC A6 R.length)).mono (fun e W h=>⟨h.1,h.2.below⟩)) (decide_eq_true rfl) ?_;clear M C;intro W M C;simp only [Cl] at C))
 refine dS M.out ?_;clear M C;intro W M;refine dN [0,1] M.out ?_;refine sL rfl rfl ?_;refine sL rfl rfl ?_;refine stillS_nil ?_;refine dC 2 rfl ?_;refine (toProg_calls p _ _ (kProgL.K_below M.out.below HPL.out) HP.out).mono ?_;rintro e W2 ⟨d1,rfl,hm,hb⟩;have K1:=am (kProg.K_of_M hm);clear hm;replace M:=am (M.out.step hb);clear hb;refine ⟨_,rfl,M,dA ?_⟩;refine dC 3 rfl ?_;refine oCb M.out (eqProg_calls p p _ d1 _ (kProg.K_of_M M.out.getP) K1.out) (decide_eq_true rfl) ?_;intro W M C;clear K1;refine ⟨_,rfl,M,dA ?_⟩;refine dN [4] M.out ?_;iterate 1 (first|refine sP rfl ?_ | refine sG rfl ?_ | refine sU rfl ?_ | refine sN rfl ?_)
 refine stillS_nil ?_;refine dD ?_;clear C;have C:=M.out.cl;simp only [Cl] at C
 go_wp2_with (first
  | fail)
 refine dS M.out ?_;clear M C;intro W M;refine dN [0,1] M.out ?_;refine sL rfl rfl ?_;refine sL rfl rfl ?_;refine stillS_nil ?_;refine dC 2 rfl ?_;refine (toSys_calls s _ _ (kSysL.K_below M.out.below HSL.out) HS.out).mono ?_;rintro e W2 ⟨d2,rfl,hm,hb⟩;have K2:=am (kSys.K_of_M hm);clear hm;replace M:=am (M.out.step hb);clear hb;refine ⟨_,rfl,M,dA ?_⟩;refine dC 3 rfl ?_;refine oCb M.out (eqSys_calls s s _ d2 _ (kSys.K_of_M M.out.getS) K2.out) (decide_eq_true rfl) ?_;intro W M C;clear K2;refine ⟨_,rfl,M,dA ?_⟩;refine dN [4] M.out ?_;iterate 1 (first|refine sP rfl ?_ | refine sG rfl ?_ | refine sU rfl ?_ | refine sN rfl ?_)
 refine stillS_nil ?_;refine dD ?_;clear C;have C:=M.out.cl;simp only [Cl] at C
 go_upto_region 20 with (first
 |((with_reducible refine gL ?_);refine oL rfl rfl M.out ?_)
 |(go_at_call 23;refine (markProg_calls p _ _ _ _ M.out.getP HP.out).mono ?_;rintro e W2 ⟨r5,rfl,h50,h51,hk⟩;replace M:=am ((M.out.front (by repeat (first|exact .here | apply Rm.there))).marked hk);clear C hk;have C:=M.out.cl;simp only [Cl] at C))
 go_upto_region 21 with (first
 |((with_reducible refine gL ?_);refine oL rfl rfl M.out ?_)
 |(go_at_call 24;refine (markSysK_calls _ h50 h51 s _ _ _ _ M.out.getS HS.out).mono ?_;rintro e W2 ⟨r6,rfl,h60,hk⟩;replace M:=am ((M.out.front (by repeat (first|exact .here | apply Rm.there))).marked hk);clear C hk;have C:=M.out.cl;simp only [Cl] at C;have y6:decide (r6 < 0)=false:=decide_eq_false (by omega)))
 go_upto_region 24 with (first
 |(go_at_call 20;refine oCb M.out ((eqIntS_calls R R A9 A6 c9 c6 _ (M.out.rdC A9 R.length) (M.out.rdC A6 R.length)).mono (fun e W h=>⟨h.1,h.2.below⟩)) (decide_eq_true rfl) ?_;clear M C;intro W M C;simp only [Cl] at C))
 go_upto_region 25 with (first
 |(go_at_call 25;refine (markIntR_calls R A9 c9 _ _ _ M.out.gotten HRL.out).mono ?_;rintro e W2 ⟨rfl,hr,hg⟩;replace M:=am (M.out.turnR (by repeat (first|exact .here | apply Rm.there)) hg hr);clear C hr hg;have C:=M.out.cl;simp only [Cl] at C))
 have y7:decide ((1:Int)+(R.length:Int) < 0)=false:=decide_eq_false (by omega);have y8:((1:Int)+(R.length:Int) != 1+(R.length:Int))=false:=by simp
 go_upto_region 31 with (first
 |(go_at_call 26;refine (heldIntS_calls R.length A9 c9 _ (M.out.rdC A9 R.length) HRL.out).mono ?_;rintro e W2 ⟨rfl,rfl⟩))
 refine dS M.out ?_;clear M C;intro W M;refine dN [0,2] M.out ?_;refine sL rfl rfl ?_;refine sL rfl rfl ?_;refine stillS_nil ?_;refine dC 1 rfl ?_;refine (toProg_calls p _ _ (kProgL.K_below M.out.below HPL.out) HP.out).mono ?_;rintro e W2 ⟨d1,rfl,hm,hb⟩;have K1:=am (kProg.K_of_M hm);clear hm;replace M:=am (M.out.step hb);clear hb;refine ⟨_,rfl,M,dA ?_⟩;refine dC 3 rfl ?_;refine (toSys_calls s _ _ (kSysL.K_below M.out.below HSL.out) HS.out).mono ?_;rintro e W2 ⟨d2,rfl,hm,hb⟩;have K2:=am (kSys.K_of_M hm);replace K1:=am (kProg.K_below hb K1.out);clear hm;replace M:=am (M.out.step hb);clear hb;refine ⟨_,rfl,M,dA ?_⟩;refine dC 4 rfl ?_;refine (implReady_calls p d1 s d2 _ K1.out K2.out HPZ.out HSZ.out a (pw_cell_below M.out.below HE.out)).mono ?_;rintro e W2 ⟨v,rfl,hv,hb⟩;rw [YO.out] at hv;obtain ⟨A13,c13,rfl⟩:=Kd.R_slice hv;replace M:=am (M.out.made hb hv);clear hb hv K1 K2;refine ⟨_,rfl,⟨M.out.pop⟩,dA ?_⟩;refine dN [5] M.out.pop ?_;(first|refine sP rfl ?_ | refine sG rfl ?_ | refine sU rfl ?_ | refine sN rfl ?_);refine stillS_nil ?_;refine dD ?_;have C:=M.out.cl;simp only [Cl] at C
 go_upto_region 34 with (first
 |(go_at_call 20;refine oCb M.out ((eqIntS_calls R R A13 A6 c13 c6 _ (M.out.rdC A13 R.length) (M.out.rdC A6 R.length)).mono (fun e W h=>⟨h.1,h.2.below⟩)) (decide_eq_true rfl) ?_;clear M C;intro W M C;simp only [Cl] at C))
 go_wp2_with (first
 |(go_at_call 26;refine (heldIntS_calls R.length A9 c9 _ (M.out.rdC A9 R.length) HRL.out).mono ?_;rintro e W2 ⟨rfl,rfl⟩))
 go_ret;exact ⟨rfl,M.out.below⟩
end Go.Proofs.YtclangliilnijaaGreatDoor.Eq
