import Derived.Test.YtimamoimphjakaaX3
set_option maxHeartbeats 8000000
set_option maxRecDepth 100000
set_option linter.unusedVariables false
set_option linter.unusedSimpArgs false
namespace Go.Proofs.Ytimamoimphjakaa.Eq
open Go.RowKit Go.Proofs.YtimamoimphjakaaW.PrintWords Go.Proofs.YtimamoimphjakaaW.PrintLast Go.Proofs.YtimamoimphjakaaW.PrintMore
theorem actNF {q:Prop} (h:q:=by
  go_enter Try.func98,Try.ntmps98;go_wp2;go_ret;rw [HU.out];exact ⟨rfl,M.out.below⟩):q:=h
theorem actOk_calls (a:Act) (Ad:Option Addr) (cd:Nat) (Ak:Option Addr) (ck:Nat) (n body bodies:Int) (w:World) (hd:kDeed.C w Ad a.deeds.length a.deeds) (hk:(Kd.int .i64).C w Ak a.kids.length a.kids) (hz:a.deeds.length<=1048576/\a.kids.length<=1048576) (hn:0<=n/\n<=3):
  Calls Try.prog 98 #[partA a (.slice Ad a.deeds.length cd) (.slice Ak a.kids.length ck),.int .i64 n,.int .i64 body,.int .i64 bodies] w fun e w'=>e= .returned (.bool (actOk n bodies body a))/\Below w.heap.size w w':=by
 have HD:=am hd;have HK:=am hk;have HZ:=am hz;have M:=am (Own.nil w);have C:=M.out.cl;have a_tryAct:=ta_run (P:=Try.prog) 160 122 (.agg #[.slice none 0 0]) (by kernel_rfl) (by kernel_rfl);have a_forkAct:=ta_run (P:=Try.prog) 163 122 (.agg #[.slice none 0 0]) (by kernel_rfl) (by kernel_rfl);have a_failAct:=ta_run (P:=Try.prog) 165 122 (.agg #[]) (by kernel_rfl) (by kernel_rfl);have a_failIfAct:=ta_run (P:=Try.prog) 167 122 (.agg #[.int .i64 0]) (by kernel_rfl) (by kernel_rfl);clear hd hk hz;by_cases h1:a.kind=1
 ·have y1:(a.kind == 1)=true:=by simp [h1]
  by_cases k0:a.kids= []
  ·have yk:((a.kids.length:Int) == 0)=true:=by simp [k0]
   by_cases r0:a.reg=0
   ·have yr:(a.reg == 0)=true:=by simp [r0]
    rw [show partA a (.slice Ad a.deeds.length cd) (.slice Ak a.kids.length ck)= .iface 160 (.agg #[.slice Ad a.deeds.length cd]) from by unfold partA;rw [if_pos h1,yk,yr];try rfl];have HU:Aside0 (actOk n bodies body a=changeB a.deeds n):=⟨by unfold actOk changeB;rw [if_neg (by simp [h1,k0,r0]),if_pos h1,decide_eq_false (show ¬ n < 0 by omega),decide_eq_false (show ¬ 3 < n by omega),show decide ((5:Int) < (a.deeds.length:Int))= !decide (a.deeds.length<=5) from by rw [Bool.eq_iff_iff];simp;omega];cases decide (a.deeds.length<=5) <;> simp⟩;clear h1 k0 r0;go_enter Try.func98,Try.ntmps98
    go_wp2_with (first
    |((first|with_reducible refine gB ?_ | with_reducible refine gA ?_);refine oB rfl M.out ?_;clear M C;intro g W M C;simp only [Cl] at C)
    |((with_reducible refine gS ?_);refine oS rfl rfl rfl M.out ?_;clear M C;intro W M C;simp only [Cl] at C)
    |(go_at_call 127;refine oCb M.out (changeOk_calls _ _ _ n _ (Kd.C_below HD.out M.out.below) HZ.out.1) rfl ?_;clear M C;intro W M C;simp only [Cl] at C))
    go_ret;rw [HU.out];exact ⟨rfl,M.out.below⟩
   ·have yr:(a.reg == 0)=false:=by simpa using r0
    rw [show partA a (.slice Ad a.deeds.length cd) (.slice Ak a.kids.length ck)= .nilIface from by unfold partA;rw [if_pos h1,yk,yr];try rfl];have HU:Aside0 (actOk n bodies body a=false):=⟨by unfold actOk;simp [h1,r0]⟩;exact actNF
  ·have yk:((a.kids.length:Int) == 0)=false:=by simpa using k0
   rw [show partA a (.slice Ad a.deeds.length cd) (.slice Ak a.kids.length ck)= .nilIface from by unfold partA;rw [if_pos h1,yk,Bool.false_and];try rfl];have HU:Aside0 (actOk n bodies body a=false):=⟨by unfold actOk;simp [h1,k0]⟩;exact actNF
 by_cases h2:a.kind=2
 ·have y1:(a.kind == 1)=false:=by simpa using h1
  have y2:(a.kind == 2)=true:=by simp [h2]
  by_cases d0:a.deeds= []
  ·have yd:((a.deeds.length:Int) == 0)=true:=by simp [d0]
   by_cases r0:a.reg=0
   ·have yr:(a.reg == 0)=true:=by simp [r0]
    rw [show partA a (.slice Ad a.deeds.length cd) (.slice Ak a.kids.length ck)= .iface 163 (.agg #[.slice Ak a.kids.length ck]) from by unfold partA;rw [if_neg h1,if_pos h2,yd,yr];try rfl];have HU:Aside0 (actOk n bodies body a=kidsOk a.kids body bodies):=⟨by unfold actOk;rw [if_neg (by simp [h2,d0,r0]),if_neg (by simp [h2]),if_pos h2]⟩;clear h1 h2 d0 r0 yd yr y1 y2;go_enter Try.func98,Try.ntmps98
    go_wp2_with (first
    |((first|with_reducible refine gB ?_ | with_reducible refine gA ?_);refine oB rfl M.out ?_;clear M C;intro g W M C;simp only [Cl] at C)
    |((with_reducible refine gS ?_);refine oS rfl rfl rfl M.out ?_;clear M C;intro W M C;simp only [Cl] at C))
    obtain ⟨L,EL,ML⟩:=Own.named M;go_loopw [12,29] (fun _ j w'=>∃ k:Nat,k<=a.kids.length/\j= .int .i64 k/\Aside0 (∀ i,i < k->inB (numAt a.kids i) (body+1) (bodies - 1)=true)/\Aside0 (Own w w' L)) (fun _ j _=>a.kids.length - (intOf j).toNat)
    case atStart=>exact ⟨0,Nat.zero_le _,rfl,⟨fun i hi=>by omega⟩,ML⟩
    obtain ⟨k,hk,rfl,HJ,M2⟩:=hrel;have eL:=EL.out;subst eL;clear M C ML EL;have M:=M2;clear M2;have C:=M.out.cl;simp only [Cl] at C;by_cases hlt:k < a.kids.length
    ·have q0:(0:Int)<=(k:Int):=by omega
     have q1:(k:Int) < (a.kids.length:Int):=by omega
     have q2:=HZ.out.2;obtain ⟨ad,ed,hx⟩:=Kd.at_int HK.out (k:Int) q0 q1;cases ed;simp only [Int.toNat_natCast] at hx;obtain ⟨x,hxx⟩:∃ x,x=numAt a.kids k:=⟨_,rfl⟩;rw [show rd a.kids (k:Int)=x by rw [hxx];rfl] at hx;replace M:=am (M.out.far hx);clear C;have C:=M.out.cl;simp only [Cl] at C;have HXX:=am hxx;obtain ⟨b1,z1⟩:∃ b,decide (x<=body)=b:=⟨_,rfl⟩;obtain ⟨b2,z2⟩:∃ b,decide (bodies<=x)=b:=⟨_,rfl⟩;have HI:Aside0 (inB x (body+1) (bodies - 1)=(!b1 && !b2)):=⟨by rw [<-z1,<-z2,Bool.eq_iff_iff,inB_iff];simp;omega⟩;clear hx hxx;cases b1
     ·cases b2
      ·go_wp2
       go_roundw
       case rel=>exact ⟨k+1,by omega,by go_num,⟨fun i hi=>by rcases Nat.lt_or_ge i k with h | h;exact HJ.out i h;obtain rfl:i=k:=(by omega);rw [<-HXX.out,HI.out];rfl⟩,⟨M.out.pop⟩⟩
       case measure=>simp [intOf];omega
      ·go_wp2
       go_ret;rw [HU.out,show kidsOk a.kids body bodies=false from by unfold kidsOk;rw [allB_no hlt (by rw [<-HXX.out,HI.out];rfl)];rfl];exact ⟨rfl,M.out.below⟩
     ·go_wp2
      go_ret;rw [HU.out,show kidsOk a.kids body bodies=false from by unfold kidsOk;rw [allB_no hlt (by rw [<-HXX.out,HI.out];rfl)];rfl];exact ⟨rfl,M.out.below⟩
    ·obtain rfl:k=a.kids.length:=by omega
     have q1:¬ (a.kids.length:Int) < (a.kids.length:Int):=by omega
     have HV:=am (show kidsOk a.kids body bodies=inB a.kids.length 1 2 from by unfold kidsOk;rw [allB_iff.2 HJ.out];rfl);obtain ⟨b1,z1⟩:∃ b,decide ((1:Int)<=(a.kids.length:Int))=b:=⟨_,rfl⟩;have HV2:Aside0 (inB a.kids.length 1 2=(b1 && decide ((a.kids.length:Int)<=2))):=⟨by rw [<-z1];rfl⟩;cases b1
     all_goals go_wp2
     all_goals go_ret
     all_goals rw [HU.out,HV.out,HV2.out]
     all_goals exact ⟨rfl,M.out.below⟩
   ·have yr:(a.reg == 0)=false:=by simpa using r0
    rw [show partA a (.slice Ad a.deeds.length cd) (.slice Ak a.kids.length ck)= .nilIface from by unfold partA;rw [if_neg h1,if_pos h2,yd,yr];try rfl];have HU:Aside0 (actOk n bodies body a=false):=⟨by unfold actOk;simp [h2,r0]⟩;exact actNF
  ·have yd:((a.deeds.length:Int) == 0)=false:=by simpa using d0
   rw [show partA a (.slice Ad a.deeds.length cd) (.slice Ak a.kids.length ck)= .nilIface from by unfold partA;rw [if_neg h1,if_pos h2,yd,Bool.false_and];try rfl];have HU:Aside0 (actOk n bodies body a=false):=⟨by unfold actOk;simp [h2,d0]⟩;exact actNF
 by_cases h3:a.kind=3
 ·by_cases d0:a.deeds= []
  ·have yd:((a.deeds.length:Int) == 0)=true:=by simp [d0]
   by_cases k0:a.kids= []
   ·have yk:((a.kids.length:Int) == 0)=true:=by simp [k0]
    by_cases r0:a.reg=0
    ·have yr:(a.reg == 0)=true:=by simp [r0]
     rw [show partA a (.slice Ad a.deeds.length cd) (.slice Ak a.kids.length ck)= .iface 165 (.agg #[]) from by unfold partA;rw [if_neg h1,if_neg h2,if_pos h3,yd,yk,yr];try rfl];have HU:Aside0 (actOk n bodies body a=true):=⟨by unfold actOk;simp [h3,d0,k0,r0]⟩;go_enter Try.func98,Try.ntmps98
     go_wp2_with (first
     |((first|with_reducible refine gB ?_ | with_reducible refine gA ?_);refine oB rfl M.out ?_;clear M C;intro g W M C;simp only [Cl] at C)
     |((with_reducible refine gS ?_);refine oS rfl rfl rfl M.out ?_;clear M C;intro W M C;simp only [Cl] at C))
     go_ret;rw [HU.out];exact ⟨rfl,M.out.below⟩
    ·have yr:(a.reg == 0)=false:=by simpa using r0
     rw [show partA a (.slice Ad a.deeds.length cd) (.slice Ak a.kids.length ck)= .nilIface from by unfold partA;rw [if_neg h1,if_neg h2,if_pos h3,yd,yk,yr];try rfl];have HU:Aside0 (actOk n bodies body a=false):=⟨by unfold actOk;simp [h3,r0]⟩;exact actNF
   ·have yk:((a.kids.length:Int) == 0)=false:=by simpa using k0
    rw [show partA a (.slice Ad a.deeds.length cd) (.slice Ak a.kids.length ck)= .nilIface from by unfold partA;rw [if_neg h1,if_neg h2,if_pos h3,yd,yk,Bool.and_false,Bool.false_and];try rfl];have HU:Aside0 (actOk n bodies body a=false):=⟨by unfold actOk;simp [h3,k0]⟩;exact actNF
  ·have yd:((a.deeds.length:Int) == 0)=false:=by simpa using d0
   rw [show partA a (.slice Ad a.deeds.length cd) (.slice Ak a.kids.length ck)= .nilIface from by unfold partA;rw [if_neg h1,if_neg h2,if_pos h3,yd,Bool.false_and,Bool.false_and];try rfl];have HU:Aside0 (actOk n bodies body a=false):=⟨by unfold actOk;simp [h3,d0]⟩;exact actNF
 by_cases h4:a.kind=4
 ·by_cases d0:a.deeds= []
  ·have yd:((a.deeds.length:Int) == 0)=true:=by simp [d0]
   by_cases k0:a.kids= []
   ·have yk:((a.kids.length:Int) == 0)=true:=by simp [k0]
    rw [show partA a (.slice Ad a.deeds.length cd) (.slice Ak a.kids.length ck)= .iface 167 (.agg #[.int .i64 a.reg]) from by unfold partA;rw [if_neg h1,if_neg h2,if_neg h3,if_pos h4,yd,yk];try rfl];have HU:Aside0 (actOk n bodies body a=(decide (0<=a.reg) && decide (a.reg < 3))):=⟨by rw [inB_reg];unfold actOk;simp [h4,d0,k0]⟩;go_enter Try.func98,Try.ntmps98
    go_wp2_with (first
    |((first|with_reducible refine gB ?_ | with_reducible refine gA ?_);refine oB rfl M.out ?_;clear M C;intro g W M C;simp only [Cl] at C)
    |((with_reducible refine gS ?_);refine oS rfl rfl rfl M.out ?_;clear M C;intro W M C;simp only [Cl] at C)
    |(go_at_call 128;refine oEb (isReg_calls _ _) rfl ?_))
    go_ret;rw [HU.out];exact ⟨rfl,M.out.below⟩
   ·have yk:((a.kids.length:Int) == 0)=false:=by simpa using k0
    rw [show partA a (.slice Ad a.deeds.length cd) (.slice Ak a.kids.length ck)= .nilIface from by unfold partA;rw [if_neg h1,if_neg h2,if_neg h3,if_pos h4,yd,yk];try rfl];have HU:Aside0 (actOk n bodies body a=false):=⟨by unfold actOk;simp [h4,k0]⟩;exact actNF
  ·have yd:((a.deeds.length:Int) == 0)=false:=by simpa using d0
   rw [show partA a (.slice Ad a.deeds.length cd) (.slice Ak a.kids.length ck)= .nilIface from by unfold partA;rw [if_neg h1,if_neg h2,if_neg h3,if_pos h4,yd,Bool.false_and];try rfl];have HU:Aside0 (actOk n bodies body a=false):=⟨by unfold actOk;simp [h4,d0]⟩;exact actNF
 rw [show partA a (.slice Ad a.deeds.length cd) (.slice Ak a.kids.length ck)= .nilIface from by unfold partA;rw [if_neg h1,if_neg h2,if_neg h3,if_neg h4]];have HU:Aside0 (actOk n bodies body a=false):=⟨by unfold actOk;simp [h1,h2,h3,h4]⟩;exact actNF
theorem treeOf_calls (p:Prog) (pcs:List Value) (hf:formOk p=true):∀ (n:Nat) (b:Int) (w:World),kProg.K w p pcs->0<=b->b < p.bodies.length->(p.bodies.length:Int) - b<=n->
  Calls Try.prog 100 #[.agg pcs.toArray,.int .i64 b] w fun e w'=>e= .returned (.int .i64 (treeOf p b))/\Below w.heap.size w w':=by
 intro n
 induction n with
 | zero=>intro b w _ h0 h1 hn;omega
 | succ n ih=>
 intro b w hp h0 h1 hn;have IH:=am ih;clear ih;obtain ⟨kb,rfl⟩:=Int.eq_ofNat_of_zero_le h0;have hkb:kb < p.bodies.length:=by omega
 have HAC:Aside0 (∀ k,sumL (fun a:Act=>sumL (treeOf p) a.kids) ((actsAt p.bodies kb).take k)<=37448):=⟨fun k=>acc_le hf h0 h1 k⟩;have HTR:Aside0 (treeOf p (kb:Int)=1+sumL (fun a:Act=>sumL (treeOf p) a.kids) (actsAt p.bodies kb)):=⟨treeOf_eq hf h0 h1⟩;have HPK:=am hp;have HF:=am hf;have hb4:=(form_cells hf).2.2;have ha4:(actsAt p.bodies kb).length<=4:=form_acts hf ⟨h0,h1⟩;obtain ⟨Ac,cc,Ab,cb,rfl,-,-,-,gb⟩:=kProg_open hp;have GB:=am gb;obtain ⟨bb,ob,cs2,rfl,hcl2,hK2,hcc2,-⟩:=C_field GB.out ([]:List Act) kb hkb (by decide);obtain ⟨Aa,ca,rfl,la,ga2⟩:=hK2;have p2:=hcc2 0 _ rfl;simp only [show (Kd.slice 108 kAct).sz=1 from rfl,Nat.mul_one,Nat.add_zero] at p2;have GA2:=am (show kAct.C w Aa (actsAt p.bodies kb).length (actsAt p.bodies kb) from ga2);rw [show (p.bodies.getD kb []).length=(actsAt p.bodies kb).length from rfl] at p2;clear hcl2 hcc2 la ga2;have q0:(0:Int)<=(kb:Int):=by omega
 have q1:(kb:Int) < (p.bodies.length:Int):=by omega
 have M:=am (Own.nil w);have C:=M.out.cl;replace M:=am (M.out.far p2);clear C;have C:=M.out.cl;simp only [Cl] at C;clear hp hf gb p2 h0 h1;go_enter Try.func100,Try.ntmps100
 go_wp2_with (first
 |((first|with_reducible refine gB ?_ | with_reducible refine gA ?_);refine oB rfl M.out ?_;clear M C;intro g W M C;simp only [Cl] at C))
 obtain ⟨L,EL,ML⟩:=Own.named M;go_loopw [5,16] (fun v j w'=>∃ k:Nat,k<=(actsAt p.bodies kb).length/\j= .int .i64 k/\v= .int .i64 (1+sumL (fun a:Act=>sumL (treeOf p) a.kids) ((actsAt p.bodies kb).take k):Nat)/\Aside0 (Own w w' L)) (fun _ j _=>(actsAt p.bodies kb).length - (intOf j).toNat)
 case atStart=>exact ⟨0,Nat.zero_le _,rfl,by simp [sumL],ML⟩
 case round=>
  obtain ⟨k,hk,rfl,rfl,M2⟩:=hrel;have e_:=EL.out;subst e_;clear M C ML EL;have M:=M2;clear M2;have C:=M.out.cl;simp only [Cl] at C;obtain ⟨acc,hacc⟩:∃ x:Nat,x=(1+sumL (fun a:Act=>sumL (treeOf p) a.kids) ((actsAt p.bodies kb).take k):Nat):=⟨_,rfl⟩;have hacl:acc<=37449:=by have:=HAC.out k;omega
  simp only [<-hacc];have HACC:=am hacc;clear hacc;by_cases hlt:k < (actsAt p.bodies kb).length
  ·have KB0:=HF.out
   obtain ⟨ba,oa,cs3,rfl,hcl3,hK3,hcc3,-⟩:=C_field GA2.out zAct k hlt (by decide);obtain ⟨a,hax⟩:∃ x,x=actAt (actsAt p.bodies kb) k:=⟨_,rfl⟩;rw [show (actsAt p.bodies kb).getD k zAct=a from hax.symm] at hK3
   have hmem:a ∈ actsAt p.bodies kb:=by
    rw [hax,show actAt (actsAt p.bodies kb) k=(actsAt p.bodies kb)[k] by simp [actAt,hlt]];exact List.getElem_mem hlt
   have AX:=am hax;obtain ⟨Ad,cd,Ak,ck,rfl,-,gd,-,gk⟩:=kAct_open hK3;have HKS:=am gk;have HDS:=am gd;have HC:=am hcc3;have r0:(0:Int)<=(k:Int):=by omega
   have r1:(k:Int) < ((actsAt p.bodies kb).length:Int):=by omega
   clear hcl3 hK3 hcc3 hax gk gd;have KB:=am (kid_behind HF.out (b:=(kb:Int)) ⟨q0,q1⟩ hmem);have KL:Aside0 (∀ m,sumL (treeOf p) (a.kids.take m)<=9362):=⟨fun m=>kid_le HF.out (b:=(kb:Int)) q0 q1 hmem m⟩;have hk2:a.kids.length<=2:=KB.out.1;clear KB0 hmem
   go_wp2_with (first
   |((first|with_reducible refine gB ?_ | with_reducible refine gA ?_);refine oB rfl M.out ?_;clear M C;intro g W M C;simp only [Cl] at C)
   |((with_reducible refine gL ?_);refine oR rfl rfl M.out HC.out ?_)
   |((with_reducible refine gS ?_);refine oS rfl rfl rfl M.out ?_;clear M C;intro W M C;simp only [Cl] at C))
   obtain ⟨L,EL,ML⟩:=Own.named M;go_loopw [5,23] (fun v j w'=>∃ m:Nat,m<=a.kids.length/\j= .int .i64 m/\v= .int .i64 ((acc+sumL (treeOf p) (a.kids.take m):Nat):Int)/\Aside0 (Own w w' L)) (fun _ j _=>a.kids.length - (intOf j).toNat)
   case atStart=>exact ⟨0,Nat.zero_le _,rfl,by simp [sumL],ML⟩
   case round=>
    obtain ⟨m,hm,rfl,rfl,M2⟩:=hrel;have e_:=EL.out;subst e_;clear M C ML EL;have M:=M2;clear M2;have C:=M.out.cl;simp only [Cl] at C;obtain ⟨ac2,hac2⟩:∃ x:Nat,x=acc+sumL (treeOf p) (a.kids.take m):=⟨_,rfl⟩;have hac2l:ac2<=50000:=by have:=KL.out m;omega
    simp only [<-hac2];have HAC2:=am hac2;clear hac2;by_cases hlt2:m < a.kids.length
    ·have s0:(0:Int)<=(m:Int):=by omega
     have s1:(m:Int) < (a.kids.length:Int):=by omega
     obtain ⟨kid,hkid⟩:∃ x,x=numAt a.kids m:=⟨_,rfl⟩;have hkr:=KB.out.2 kid (by rw [hkid,show numAt a.kids m=a.kids[m] by simp [numAt,hlt2]];exact List.getElem_mem hlt2);have KR:=am hkr;obtain ⟨tk0,htk⟩:∃ x,x=treeOf p kid:=⟨_,rfl⟩;have htl:tk0<=4681:=by rw [htk];exact treeOf_le HF.out (by omega) hkr.2
     have HTK:=am htk.symm;have HKD:=am hkid;obtain ⟨ad,had,gx⟩:=Kd.at_int HKS.out (m:Int) s0 s1;subst had;simp only [Int.toNat_natCast] at gx;rw [show rd a.kids (m:Int)=kid from hkid.symm] at gx;replace M:=am (M.out.far gx);clear C;have C:=M.out.cl;simp only [Cl] at C;clear hkid htk hkr gx
     go_wp2_with (first
     |((with_reducible refine gL ?_);refine oL rfl rfl M.out ?_)
     |(go_at_call 100;refine oC M.out (IH.out kid _ (kProg.K_below M.out.below HPK.out) (by have:=KR.out;omega) KR.out.2 (by have:=KR.out;omega)) ?_;rw [HTK.out];clear M C;intro W M C;simp only [Cl] at C))
     go_roundw
     case rel=>exact ⟨m+1,by omega,by go_num,by rw [show ((acc+sumL (treeOf p) (a.kids.take (m+1)):Nat):Int)=(ac2:Int)+(tk0:Int) by rw [sumL_take (treeOf p) 0 a.kids hlt2,show a.kids.getD m 0=kid from HKD.out.symm,HTK.out,HAC2.out];omega],⟨M.out.pop⟩⟩
     case measure=>simp [intOf];omega
    ·obtain rfl:m=a.kids.length:=by omega
     have hfin:ac2=(1+sumL (fun a:Act=>sumL (treeOf p) a.kids) ((actsAt p.bodies kb).take (k+1)):Nat):=by
      rw [HAC2.out,List.take_length,HACC.out,sumL_take (fun a:Act=>sumL (treeOf p) a.kids) zAct (actsAt p.bodies kb) hlt,show (actsAt p.bodies kb).getD k zAct=a from AX.out.symm];omega
     have HFIN:=am hfin;clear hfin;have s1:¬ (a.kids.length:Int) < (a.kids.length:Int):=by omega
     go_wp2;go_roundw
     case rel=>exact ⟨k+1,by omega,by go_num,by rw [HFIN.out],⟨M.out.pop⟩⟩
     case measure=>simp [intOf];omega
  ·obtain rfl:k=(actsAt p.bodies kb).length:=by omega
   have s1:¬ ((actsAt p.bodies kb).length:Int) < ((actsAt p.bodies kb).length:Int):=by omega
   have hfin:acc=treeOf p (kb:Int):=by rw [HACC.out,HTR.out,List.take_length]
   go_wp2;go_ret;rw [<-hfin];exact ⟨rfl,M.out.below⟩
theorem poEF {q:Prop} (h:q:=by
  go_wp2_with (go_at_call 97;refine oEb (allNums_calls _ _ _ _ (Kd.C_below GC.out M.out.below) HZ.out.cells) Y2.out ?_)
  go_ret;rw [HU.out];exact ⟨by simp,M.out.below⟩):q:=h
theorem iprogOk_calls (p:Prog) (ps:List Value) (w:World) (hp:kProg.K w p ps) (hz:ProgSz p):
  Calls Try.prog 61 #[.agg ps.toArray] w fun e w'=>e= .returned (.bool (progOk p))/\Below w.heap.size w w':=by
 have HPK:=am hp;have HZ:=am hz;obtain ⟨Ac,cc,Ab,cb,rfl,-,gc,-,gb⟩:=kProg_open hp;have GC:=am gc;have GB:=am gb;have M:=am (Own.nil w);have C:=M.out.cl;obtain ⟨b1,y1⟩:∃ b,decide ((3:Int) < (p.cells.length:Int))=b:=⟨_,rfl⟩;obtain ⟨b2,y2⟩:∃ b,numsB p.cells=b:=⟨_,rfl⟩;obtain ⟨b3,y3⟩:∃ b,decide ((p.bodies.length:Int) < 1)=b:=⟨_,rfl⟩;obtain ⟨b4,y4⟩:∃ b,decide ((4:Int) < (p.bodies.length:Int))=b:=⟨_,rfl⟩
 have HU:Aside0 (progOk p=(!b1 && b2 && !b3 && !b4 && (allB p.bodies.length fun i=>bodyOk p.cells.length p.bodies.length i (actsAt p.bodies i)) && decide (treeOf p 0<=7))):=⟨by
  rw [<-y1,<-y2,<-y3,<-y4,show decide ((3:Int) < (p.cells.length:Int))= !decide (p.cells.length<=3) from by rw [Bool.eq_iff_iff];simp <;> omega];rw [show (!decide ((p.bodies.length:Int) < 1))=decide (1<=(p.bodies.length:Int)) from by rw [Bool.eq_iff_iff];simp <;> omega,show (!decide ((4:Int) < (p.bodies.length:Int)))=decide ((p.bodies.length:Int)<=4) from by rw [Bool.eq_iff_iff];simp];unfold progOk formOk numsB inB;cases decide (p.cells.length<=3) <;> cases decide (1<=(p.bodies.length:Int)) <;> cases decide ((p.bodies.length:Int)<=4) <;> simp⟩
 have Y1:=am y1;have Y2:=am y2;have Y3:=am y3;have Y4:=am y4;clear hp gc gb y2;go_enter Try.func61,Try.ntmps61
 go_upto_region 1 with (first
 |((first|with_reducible refine gB ?_ | with_reducible refine gA ?_);refine oB rfl M.out ?_;clear M C;intro g W M C;simp only [Cl] at C))
 cases b1
 case true=>exact poEF
 cases b2
 case false=>exact poEF
 cases b3
 case true=>exact poEF
 cases b4
 case true=>exact poEF
 have hc3:p.cells.length<=3:=by have:=of_decide_eq_false Y1.out;omega
 have hb4:p.bodies.length<=4:=by have:=of_decide_eq_false Y4.out;omega
 have hb1:1<=p.bodies.length:=by have:=of_decide_eq_false Y3.out;omega
 go_wp2_with (first
 |(go_at_call 97;refine oEb (allNums_calls _ _ _ _ (Kd.C_below GC.out M.out.below) HZ.out.cells) Y2.out ?_))
 obtain ⟨L,EL,ML⟩:=Own.named M;go_loopw [3,4,30] (fun _ _ j w'=>∃ kb:Nat,kb<=p.bodies.length/\j= .int .i64 kb/\Aside0 (∀ i,i < kb->bodyOk p.cells.length p.bodies.length i (actsAt p.bodies i)=true)/\Aside0 (Own w w' L)) (fun _ _ j _=>p.bodies.length - (intOf j).toNat)
 case atStart=>exact ⟨0,Nat.zero_le _,rfl,⟨fun i hi=>by omega⟩,ML⟩
 case round=>
  obtain ⟨kb,hkb0,rfl,HJ,M2⟩:=hrel;have e_:=EL.out;subst e_;clear M C ML EL;have M:=M2;clear M2;have C:=M.out.cl;simp only [Cl] at C;by_cases hkb:kb < p.bodies.length
  ·have q0:(0:Int)<=(kb:Int):=by omega
   have q1:(kb:Int) < (p.bodies.length:Int):=by omega
   have hz2:=HZ.out.acts _ (List.getElem_mem hkb);rw [<-actsAt_eq hkb] at hz2;have HZ2:=am hz2.2;have hz3:=hz2.1;clear hz2;obtain ⟨bb,ob,cs2,rfl,hcl2,hK2,hcc2,-⟩:=C_field GB.out ([]:List Act) kb hkb (by decide);obtain ⟨Aa,ca,rfl,la,ga2⟩:=hK2;have p2:=hcc2 0 _ rfl;simp only [show (Kd.slice 108 kAct).sz=1 from rfl,Nat.mul_one,Nat.add_zero] at p2;have GA2:=am (show kAct.C w Aa (actsAt p.bodies kb).length (actsAt p.bodies kb) from ga2);rw [show (p.bodies.getD kb []).length=(actsAt p.bodies kb).length from rfl] at p2;clear hcl2 hcc2 la ga2;replace M:=am (M.out.far p2);clear C p2;have C:=M.out.cl;simp only [Cl] at C;obtain ⟨b5,y5⟩:∃ b,decide ((4:Int) < ((actsAt p.bodies kb).length:Int))=b:=⟨_,rfl⟩;have HB5:Aside0 (decide ((actsAt p.bodies kb).length<=4)= !b5):=⟨by rw [<-y5,Bool.eq_iff_iff];simp;omega⟩;cases b5;rotate_left
   ·go_wp2
    go_ret;rw [HU.out,show (allB p.bodies.length fun i=>bodyOk p.cells.length p.bodies.length i (actsAt p.bodies i))=false from allB_no hkb (by unfold bodyOk;rw [HB5.out];rfl)];exact ⟨by simp,M.out.below⟩
   go_wp2_with fail
   obtain ⟨L,EL,ML⟩:=Own.named M;go_loopw [6,40] (fun _ j w'=>∃ k:Nat,k<=(actsAt p.bodies kb).length/\j= .int .i64 k/\Aside0 (∀ i,i < k->actOk p.cells.length p.bodies.length kb (actAt (actsAt p.bodies kb) i)=true)/\Aside0 (Own w w' L)) (fun _ j _=>(actsAt p.bodies kb).length - (intOf j).toNat)
   case atStart=>exact ⟨0,Nat.zero_le _,rfl,⟨fun i hi=>by omega⟩,ML⟩
   case round=>
    obtain ⟨k,hk,rfl,HK,M2⟩:=hrel;have e_:=EL.out;subst e_;clear M C ML EL;have M:=M2;clear M2;have C:=M.out.cl;simp only [Cl] at C;by_cases hlt:k < (actsAt p.bodies kb).length
    ·have HZ4:=HZ2.out
     obtain ⟨ba,oa,cs3,rfl,hcl3,hK3,hcc3,-⟩:=C_field GA2.out zAct k hlt (by decide);obtain ⟨a,hax⟩:∃ x,x=actAt (actsAt p.bodies kb) k:=⟨_,rfl⟩;rw [show (actsAt p.bodies kb).getD k zAct=a from hax.symm] at hK3
     have hmem:a ∈ actsAt p.bodies kb:=by
      rw [hax,show actAt (actsAt p.bodies kb) k=(actsAt p.bodies kb)[k] by simp [actAt,hlt]];exact List.getElem_mem hlt
     have AX:=am hax;obtain ⟨Ad,cd,Ak,ck,rfl,-,gd,-,gk⟩:=kAct_open hK3;have HKS:=am gk;have HDS:=am gd;have HC:=am hcc3;have r0:(0:Int)<=(k:Int):=by omega
     have r1:(k:Int) < ((actsAt p.bodies kb).length:Int):=by omega
     clear hcl3 hK3 hcc3 hax gk gd;have HZ5:=am (HZ4 a hmem);obtain ⟨bx,yx⟩:∃ b,actOk p.cells.length p.bodies.length kb a=b:=⟨_,rfl⟩;have YX:=am yx;clear HZ4 hmem yx
     go_wp2_with (first
     |((first|with_reducible refine gB ?_ | with_reducible refine gA ?_);refine oB rfl M.out ?_;clear M C;intro g W M C;simp only [Cl] at C)
     |((with_reducible refine gL ?_);refine oR rfl rfl M.out HC.out ?_)
     |((with_reducible refine gS ?_);refine oS rfl rfl rfl M.out ?_;clear M C;intro W M C;simp only [Cl] at C))
     refine dS M.out ?_;clear M C;intro W M;refine dN [0,2,3,4,5,6,7,8] M.out ?_;refine sL rfl rfl ?_;iterate 7 (first|refine sP rfl ?_ | refine sG rfl ?_ | refine sU rfl ?_)
     refine stillS_nil ?_;refine dC 1 rfl ?_;refine oC M.out (partOfAct_calls a _ _ _ _ _) ?_;intro W M C;refine ⟨_,rfl,M,dA ?_⟩;refine dC 9 rfl ?_;refine oCb M.out (actOk_calls a _ _ _ _ _ _ _ _ (Kd.C_below HDS.out M.out.below) (Kd.C_below HKS.out M.out.below) HZ5.out ⟨by omega,by omega⟩) YX.out ?_;intro W M C;refine ⟨_,rfl,M,dA ?_⟩;refine dN [10] M.out ?_;iterate 1 (first|refine sP rfl ?_ | refine sG rfl ?_ | refine sU rfl ?_)
     refine stillS_nil ?_;refine dD ?_;clear C;have C:=M.out.cl;simp only [Cl] at C;cases bx
     ·go_wp2
      go_ret;rw [HU.out,show (allB p.bodies.length fun i=>bodyOk p.cells.length p.bodies.length i (actsAt p.bodies i))=false from allB_no hkb (by unfold bodyOk;rw [allB_no hlt (by rw [<-AX.out];exact YX.out),Bool.and_false])];exact ⟨by simp,M.out.below⟩
     ·go_wp2
      go_roundw
      case rel=>exact ⟨k+1,by omega,by go_num,⟨fun i hi=>by rcases Nat.lt_or_ge i k with h | h;exact HK.out i h;obtain rfl:i=k:=(by omega);rw [<-AX.out];exact YX.out⟩,⟨M.out.pop⟩⟩
      case measure=>simp [intOf];omega
    ·obtain rfl:k=(actsAt p.bodies kb).length:=by omega
     have s1:¬ ((actsAt p.bodies kb).length:Int) < ((actsAt p.bodies kb).length:Int):=by omega
     go_wp2;go_roundw
     case rel=>exact ⟨kb+1,by omega,by go_num,⟨fun i hi=>by rcases Nat.lt_or_ge i kb with h | h;exact HJ.out i h;obtain rfl:i=kb:=(by omega);unfold bodyOk;rw [HB5.out,allB_iff.2 HK.out];rfl⟩,⟨M.out.pop⟩⟩
     case measure=>simp [intOf];omega
  ·obtain rfl:kb=p.bodies.length:=by omega
   have s1:¬ (p.bodies.length:Int) < (p.bodies.length:Int):=by omega
   have HAL:Aside0 ((allB p.bodies.length fun i=>bodyOk p.cells.length p.bodies.length i (actsAt p.bodies i))=true):=⟨allB_iff.2 HJ.out⟩;have HFO:Aside0 (formOk p=true):=⟨by unfold formOk;rw [HAL.out,decide_eq_true hc3,show (allB p.cells.length fun i=>inB (numAt p.cells i) 0 99)=true from Y2.out,show inB p.bodies.length 1 4=true from inB_iff.2 ⟨by omega,by omega⟩];rfl⟩;have ht:(treeOf p 0:Int)<=1000000:=by have:=treeOf_le HFO.out (b:=0) (by omega) (by omega);omega
   go_wp2_with (first
   |((with_reducible refine gL ?_);refine oL rfl rfl M.out ?_)
   |(go_at_call 100;refine oC M.out (treeOf_calls p _ HFO.out p.bodies.length 0 _ (kProg.K_below M.out.below HPK.out) (by omega) (by omega) (by omega)) ?_;clear M C;intro W M C;simp only [Cl] at C))
   go_ret;rw [HU.out,HAL.out,show decide (treeOf p 0<=7)=decide ((treeOf p 0:Int)<=7) from by rw [Bool.eq_iff_iff];simp <;> omega];exact ⟨by simp,M.out.below⟩
def isysB (p:Prog) (s:Sys):Bool:=
 progOk p && ((s.cells.length:Int) == (p.cells.length:Int)) && !decide (s.clock < 0) && !decide (200 < s.clock) && cellsB s && !decide ((s.tasks.length:Int) < 1) && !decide (7 < (s.tasks.length:Int)) &&
 allB s.tasks.length (fun i=>formB p s (taskAt s.tasks i) && stageB p s (taskAt s.tasks i)) && allB s.tasks.length (fun i=>upsOk s i && wayB p s i) && locksOk s && logB p s
structure Fine (p:Prog) (s:Sys) (t:Task):Prop where
 body:0<=t.body/\t.body < p.bodies.length
 pc:0<=t.pc/\t.pc<=(actsAt p.bodies t.body.toNat).length
 puts:PutsIn s.cells.length t.puts
theorem fine_of {p:Prog} {s:Sys} {t:Task} (h:formB p s t=true):Fine p s t:=by
 simp only [formB,placeB,Bool.and_eq_true,Bool.not_eq_true',decide_eq_true_eq,decide_eq_false_iff_not] at h;obtain ⟨⟨⟨⟨⟨⟨⟨⟨⟨⟨⟨⟨h1,h2⟩,h3⟩,-⟩,-⟩,-⟩,-⟩,-⟩,-⟩,-⟩,-⟩,-⟩,h13⟩:=h;exact ⟨h1,⟨by omega,by omega⟩,putsIn_of h13⟩
theorem stage_at {p:Prog} {s:Sys} {t:Task} (h:stageB p s t=true):0<=t.at_/\(t.stage=2\/t.stage=5->t.at_<=t.puts.length):=by
 unfold stageB at h;split at h
 ·simp only [Bool.and_eq_true,beq_iff_eq] at h
  omega
 ·simp only [Bool.and_eq_true] at h
  have h:=h.2;unfold restB placeB at h;repeat' split at h
  all_goals try simp only [Bool.and_eq_true,beq_iff_eq,decide_eq_true_eq] at h
  all_goals first | omega|(cases h)
theorem soEF {q:Prop} (h:q:=by
  go_wp2_with (first
  |((with_reducible refine gL ?_);refine oL rfl rfl M.out ?_)
  |(go_at_call 61;refine oCb M.out (iprogOk_calls p _ _ (kProg.K_below M.out.below HPK.out) HPZ.out) Y1.out ?_;clear M C;intro W M C;simp only [Cl] at C)
  |(go_at_call 62;refine oCb M.out (cellsOk_calls s _ _ (kSys.K_below M.out.below HSK.out) HSZ.out.cells) Y5.out ?_;clear M C;intro W M C;simp only [Cl] at C))
  go_ret;rw [HU.out];exact ⟨by simp,M.out.below⟩):q:=h
theorem isysOk_calls (p:Prog) (ps:List Value) (s:Sys) (ss:List Value) (w:World) (hp:kProg.K w p ps) (hs:kSys.K w s ss) (hpz:ProgSz p) (hsz:SysSz s):
  Calls Try.prog 38 #[.agg ps.toArray,.agg ss.toArray] w fun e w'=>e= .returned (.bool (isysB p s))/\Below w.heap.size w w':=by
 have HPK:=am hp;have HSK:=am hs;have HPZ:=am hpz;have HSZ:=am hsz;obtain ⟨Ac,cc,Ab,cb,rfl,-⟩:=kProg_open hp;obtain ⟨A0,c0,A1,c1,A3,c3,rfl,-,-,-,g1,-⟩:=kSys_open hs;have G1:=am g1;have HN:=HSZ.out.tasks;have M:=am (Own.nil w);have C:=M.out.cl;obtain ⟨b1,y1⟩:∃ b,progOk p=b:=⟨_,rfl⟩;obtain ⟨b2,y2⟩:∃ b,((s.cells.length:Int) == (p.cells.length:Int))=b:=⟨_,rfl⟩;obtain ⟨b3,y3⟩:∃ b,decide (s.clock < 0)=b:=⟨_,rfl⟩;obtain ⟨b4,y4⟩:∃ b,decide (200 < s.clock)=b:=⟨_,rfl⟩;obtain ⟨b5,y5⟩:∃ b,cellsB s=b:=⟨_,rfl⟩;obtain ⟨b6,y6⟩:∃ b,decide ((s.tasks.length:Int) < 1)=b:=⟨_,rfl⟩;obtain ⟨b7,y7⟩:∃ b,decide (7 < (s.tasks.length:Int))=b:=⟨_,rfl⟩;have HU:Aside0 (isysB p s=(b1 && b2 && !b3 && !b4 && b5 && !b6 && !b7 && allB s.tasks.length (fun i=>formB p s (taskAt s.tasks i) && stageB p s (taskAt s.tasks i)) && allB s.tasks.length (fun i=>upsOk s i && wayB p s i) && locksOk s && logB p s)):=⟨by rw [<-y1,<-y2,<-y3,<-y4,<-y5,<-y6,<-y7];rfl⟩;have y2n:((s.cells.length:Int) != (p.cells.length:Int))= !b2:=by rw [<-y2];rfl
 have Y1:=am y1;have Y2:=am y2;have Y3:=am y3;have Y4:=am y4;have Y5:=am y5;have Y6:=am y6;have Y7:=am y7;clear hp hs hpz hsz g1 y1 y5 y2;go_enter Try.func38,Try.ntmps38
 go_upto_region 1 with (first
 |((first|with_reducible refine gB ?_ | with_reducible refine gA ?_);refine oB rfl M.out ?_;clear M C;intro g W M C;simp only [Cl] at C))
 cases b1
 case false=>exact soEF
 cases b2
 case false=>exact soEF
 cases b3
 case true=>exact soEF
 cases b4
 case true=>exact soEF
 cases b5
 case false=>exact soEF
 cases b6
 case true=>exact soEF
 cases b7
 case true=>exact soEF
 have hk:0<=s.clock/\s.clock<=200:=⟨by have:=of_decide_eq_false Y3.out;omega,by have:=of_decide_eq_false Y4.out;omega⟩
 go_wp2_with (first
 |((with_reducible refine gL ?_);refine oL rfl rfl M.out ?_)
 |(go_at_call 61;refine oCb M.out (iprogOk_calls p _ _ (kProg.K_below M.out.below HPK.out) HPZ.out) Y1.out ?_;clear M C;intro W M C;simp only [Cl] at C)
 |(go_at_call 62;refine oCb M.out (cellsOk_calls s _ _ (kSys.K_below M.out.below HSK.out) HSZ.out.cells) Y5.out ?_;clear M C;intro W M C;simp only [Cl] at C))
 obtain ⟨L,EL,ML⟩:=Own.named M;go_loopw [6,48] (fun _ j w'=>∃ k:Nat,k<=s.tasks.length/\j= .int .i64 k/\Aside0 (∀ i,i < k->formB p s (taskAt s.tasks i)=true/\stageB p s (taskAt s.tasks i)=true)/\Aside0 (Own w w' L)) (fun _ j _=>s.tasks.length - (intOf j).toNat)
 case atStart=>exact ⟨0,Nat.zero_le _,rfl,⟨fun i hi=>by omega⟩,ML⟩
 case round=>
  obtain ⟨k,hk0,rfl,HJ,M2⟩:=hrel;have e_:=EL.out;subst e_;clear M C ML EL;have M:=M2;clear M2;have C:=M.out.cl;simp only [Cl] at C;by_cases hlt:k < s.tasks.length
  ·have q0:(0:Int)<=(k:Int):=by omega
   have q1:(k:Int) < (s.tasks.length:Int):=by omega
   obtain ⟨b,o,cs,rfl,hcl,hK,hcc,-⟩:=C_field G1.out zTask k hlt (by decide);obtain ⟨t,ht⟩:∃ x,x=taskAt s.tasks k:=⟨_,rfl⟩;rw [show s.tasks.getD k zTask=t from ht.symm] at hK;have HTK:=am hK;obtain ⟨B3,d3,B8,d8,B9,d9,B10,d10,rfl,-⟩:=kTask_open hK;have HC:=am hcc;have HT:=am ht;have HZT:=am (ht ▸ HSZ.out.task k hlt);obtain ⟨f1,z1⟩:∃ b,formB p s t=b:=⟨_,rfl⟩;obtain ⟨f2,z2⟩:∃ b,stageB p s t=b:=⟨_,rfl⟩;have Z1:=am z1;have Z2:=am z2;have HK:=am hk;clear hcl hK hcc ht z1 z2 hk;cases f1
   ·go_wp2_with (first
    |((first|with_reducible refine gB ?_ | with_reducible refine gA ?_);refine oB rfl M.out ?_;clear M C;intro g W M C;simp only [Cl] at C)
    |((with_reducible refine gL ?_);refine oR rfl rfl M.out HC.out ?_)
    |((with_reducible refine gS ?_);refine oS rfl rfl rfl M.out ?_;clear M C;intro W M C;simp only [Cl] at C)
    |((with_reducible refine gL ?_);refine oL rfl rfl M.out ?_)
    |(go_at_call 63;refine oCb M.out (formOk_calls p _ s _ t _ _ (kProg.K_below M.out.below HPK.out) (kSys.K_below M.out.below HSK.out) (kTask.K_below M.out.below HTK.out) HZT.out) Z1.out ?_;clear M C;intro W M C;simp only [Cl] at C))
    go_ret;rw [HU.out,show (allB s.tasks.length (fun i=>formB p s (taskAt s.tasks i) && stageB p s (taskAt s.tasks i)))=false from allB_no hlt (by rw [<-HT.out,Z1.out,Bool.false_and])];exact ⟨by simp,M.out.below⟩
   cases f2
   ·go_wp2_with (first
    |((first|with_reducible refine gB ?_ | with_reducible refine gA ?_);refine oB rfl M.out ?_;clear M C;intro g W M C;simp only [Cl] at C)
    |((with_reducible refine gL ?_);refine oR rfl rfl M.out HC.out ?_)
    |((with_reducible refine gS ?_);refine oS rfl rfl rfl M.out ?_;clear M C;intro W M C;simp only [Cl] at C)
    |((with_reducible refine gL ?_);refine oL rfl rfl M.out ?_)
    |(go_at_call 63;refine oCb M.out (formOk_calls p _ s _ t _ _ (kProg.K_below M.out.below HPK.out) (kSys.K_below M.out.below HSK.out) (kTask.K_below M.out.below HTK.out) HZT.out) Z1.out ?_;clear M C;intro W M C;simp only [Cl] at C)
    |(go_at_call 64;refine oCb M.out (stageOk_calls p _ s _ t _ _ (kProg.K_below M.out.below HPK.out) (kSys.K_below M.out.below HSK.out) (kTask.K_below M.out.below HTK.out) HPZ.out HK.out (fine_of Z1.out).body (fine_of Z1.out).pc) Z2.out ?_;clear M C;intro W M C;simp only [Cl] at C))
    go_ret;rw [HU.out,show (allB s.tasks.length (fun i=>formB p s (taskAt s.tasks i) && stageB p s (taskAt s.tasks i)))=false from allB_no hlt (by rw [<-HT.out,Z2.out,Bool.and_false])];exact ⟨by simp,M.out.below⟩
   go_wp2_with (first
   |((first|with_reducible refine gB ?_ | with_reducible refine gA ?_);refine oB rfl M.out ?_;clear M C;intro g W M C;simp only [Cl] at C)
   |((with_reducible refine gL ?_);refine oR rfl rfl M.out HC.out ?_)
   |((with_reducible refine gS ?_);refine oS rfl rfl rfl M.out ?_;clear M C;intro W M C;simp only [Cl] at C)
   |((with_reducible refine gL ?_);refine oL rfl rfl M.out ?_)
   |(go_at_call 63;refine oCb M.out (formOk_calls p _ s _ t _ _ (kProg.K_below M.out.below HPK.out) (kSys.K_below M.out.below HSK.out) (kTask.K_below M.out.below HTK.out) HZT.out) Z1.out ?_;clear M C;intro W M C;simp only [Cl] at C)
   |(go_at_call 64;refine oCb M.out (stageOk_calls p _ s _ t _ _ (kProg.K_below M.out.below HPK.out) (kSys.K_below M.out.below HSK.out) (kTask.K_below M.out.below HTK.out) HPZ.out HK.out (fine_of Z1.out).body (fine_of Z1.out).pc) Z2.out ?_;clear M C;intro W M C;simp only [Cl] at C))
   go_roundw
   case rel=>exact ⟨k+1,by omega,by go_num,⟨fun i hi=>by rcases Nat.lt_or_ge i k with h | h;exact HJ.out i h;obtain rfl:i=k:=(by omega);rw [<-HT.out];exact ⟨Z1.out,Z2.out⟩⟩,⟨M.out.pop⟩⟩
   case measure=>simp [intOf];omega
  ·obtain rfl:k=s.tasks.length:=by omega
   have HJ1:Aside0 (allB s.tasks.length (fun i=>formB p s (taskAt s.tasks i) && stageB p s (taskAt s.tasks i))=true):=⟨allB_iff.2 fun i hi=>by rw [(HJ.out i hi).1,(HJ.out i hi).2];rfl⟩;have s1:¬ (s.tasks.length:Int) < (s.tasks.length:Int):=by omega
   go_wp2_with fail
   clear s1 hk0 hlt;obtain ⟨L,EL,ML⟩:=Own.named M;go_loopw [7,68] (fun _ j w'=>∃ k:Nat,k<=s.tasks.length/\j= .int .i64 k/\Aside0 (∀ i,i < k->upsOk s i=true/\wayB p s i=true)/\Aside0 (Own w w' L)) (fun _ j _=>s.tasks.length - (intOf j).toNat)
   case atStart=>exact ⟨0,Nat.zero_le _,rfl,⟨fun i hi=>by omega⟩,ML⟩
   case round=>
    obtain ⟨k,hk0,rfl,HW,M2⟩:=hrel;have e_:=EL.out;subst e_;clear M C ML EL;have M:=M2;clear M2;have C:=M.out.cl;simp only [Cl] at C;by_cases hlt:k < s.tasks.length
    ·have q0:(0:Int)<=(k:Int):=by omega
     have q1:(k:Int) < (s.tasks.length:Int):=by omega
     have HFI:=am (fine_of (HJ.out k hlt).1);obtain ⟨f1,z1⟩:∃ b,upsOk s k=b:=⟨_,rfl⟩;obtain ⟨f2,z2⟩:∃ b,wayB p s k=b:=⟨_,rfl⟩;have Z1:=am z1;have Z2:=am z2;clear z1 z2;cases f1
     ·go_wp2_with (first
      |((with_reducible refine gL ?_);refine oL rfl rfl M.out ?_)
      |(go_at_call 65;refine oCb M.out (upOk_calls s _ k _ (kSys.K_below M.out.below HSK.out) hlt HN) Z1.out ?_;clear M C;intro W M C;simp only [Cl] at C))
      go_ret;rw [HU.out,show (allB s.tasks.length (fun i=>upsOk s i && wayB p s i))=false from allB_no hlt (by rw [Z1.out,Bool.false_and])];exact ⟨by simp,M.out.below⟩
     cases f2
     ·go_wp2_with (first
      |((with_reducible refine gL ?_);refine oL rfl rfl M.out ?_)
      |(go_at_call 65;refine oCb M.out (upOk_calls s _ k _ (kSys.K_below M.out.below HSK.out) hlt HN) Z1.out ?_;clear M C;intro W M C;simp only [Cl] at C)
      |(go_at_call 66;refine oCb M.out (wayOk_calls p _ s _ k _ (kProg.K_below M.out.below HPK.out) (kSys.K_below M.out.below HSK.out) HPZ.out hlt HN HFI.out.body HFI.out.pc) Z2.out ?_;clear M C;intro W M C;simp only [Cl] at C))
      go_ret;rw [HU.out,show (allB s.tasks.length (fun i=>upsOk s i && wayB p s i))=false from allB_no hlt (by rw [Z2.out,Bool.and_false])];exact ⟨by simp,M.out.below⟩
     go_wp2_with (first
     |((with_reducible refine gL ?_);refine oL rfl rfl M.out ?_)
     |(go_at_call 65;refine oCb M.out (upOk_calls s _ k _ (kSys.K_below M.out.below HSK.out) hlt HN) Z1.out ?_;clear M C;intro W M C;simp only [Cl] at C)
     |(go_at_call 66;refine oCb M.out (wayOk_calls p _ s _ k _ (kProg.K_below M.out.below HPK.out) (kSys.K_below M.out.below HSK.out) HPZ.out hlt HN HFI.out.body HFI.out.pc) Z2.out ?_;clear M C;intro W M C;simp only [Cl] at C))
     go_roundw
     case rel=>exact ⟨k+1,by omega,by go_num,⟨fun i hi=>by rcases Nat.lt_or_ge i k with h | h;exact HW.out i h;obtain rfl:i=k:=(by omega);exact ⟨Z1.out,Z2.out⟩⟩,M⟩
     case measure=>simp [intOf];omega
    ·obtain rfl:k=s.tasks.length:=by omega
     have HW1:Aside0 (allB s.tasks.length (fun i=>upsOk s i && wayB p s i)=true):=⟨allB_iff.2 fun i hi=>by rw [(HW.out i hi).1,(HW.out i hi).2];rfl⟩;have s1:¬ (s.tasks.length:Int) < (s.tasks.length:Int):=by omega
     obtain ⟨f1,z1⟩:∃ b,locksOk s=b:=⟨_,rfl⟩;have Z1:=am z1;clear z1;cases f1
     all_goals
      go_wp2_with (first
      |((with_reducible refine gL ?_);refine oL rfl rfl M.out ?_)
      |(go_at_call 67;refine oCb M.out (locksOk_calls s _ _ (kSys.K_below M.out.below HSK.out) HN HSZ.out.cells (fun i hi=>⟨(fine_of (HJ.out i hi).1).puts,(HSZ.out.task i hi).2.2.2,(stage_at (HJ.out i hi).2).1,(stage_at (HJ.out i hi).2).2⟩)) Z1.out ?_;clear M C;intro W M C;simp only [Cl] at C)
      |(go_at_call 68;refine oCb M.out (logOk_calls p _ s _ _ (kProg.K_below M.out.below HPK.out) (kSys.K_below M.out.below HSK.out) HSZ.out.log (fun i hi=>(fine_of (HJ.out i hi).1).body) HSZ.out.logs) rfl ?_;clear M C;intro W M C;simp only [Cl] at C))
      go_ret;rw [HU.out,HJ1.out,HW1.out,Z1.out];exact ⟨by simp,M.out.below⟩
theorem task_iff {p:Prog} {s:Sys} {i:Nat} (hb:begunTo s (kids s.tasks i) (kids s.tasks i).length=kidsN s.tasks i 0+kidsN s.tasks i 1+kidsN s.tasks i 2+kidsN s.tasks i 3):
  (formB p s (taskAt s.tasks i)=true/\stageB p s (taskAt s.tasks i)=true/\upsOk s i=true/\wayB p s i=true) ↔ taskOk p s i=true:=by
 unfold taskOk wayB wayOk;simp only [hb];generalize kidsN s.tasks i 0+kidsN s.tasks i 1+kidsN s.tasks i 2+kidsN s.tasks i 3=nb;generalize upsOk s i=u;generalize taskAt s.tasks i=t;unfold formB stageB timesOk;generalize actsAt p.bodies t.body.toNat=acts;generalize actAt acts t.pc.toNat=a;generalize numsOk t.regs 3=n1;generalize numsOk t.old 3=n2;generalize listOk t.reads s.cells.length=l1;generalize listOk t.puts s.cells.length=l2;unfold restB timedB stOk placeB inB;by_cases h0:t.stage=0
 ·simp only [h0,if_true,if_false,Bool.and_eq_true,Bool.or_eq_true,Bool.not_eq_true',decide_eq_true_eq,decide_eq_false_iff_not,beq_iff_eq]
  by_cases w0:t.way=0
  ·simp [w0];grind
  ·by_cases w1:t.way=1
   ·simp [w1];grind
   ·by_cases w2:t.way=2
    ·simp [w2];grind
    ·simp [w0,w1,w2];grind
 ·by_cases w0:t.way=0
  ·by_cases h1:t.stage=1
   ·simp [h1,w0];grind
   ·by_cases h2:t.stage=2
    ·simp [h2,w0];grind
    ·by_cases h3:t.stage=3
     ·simp [h3,w0];grind
     ·by_cases h4:t.stage=4
      ·simp [h4,w0];grind
      ·by_cases h5:t.stage=5
       ·simp [h5,w0];grind
       ·simp [h0,h1,h2,h3,h4,h5,w0];grind
  ·simp [h0,w0]
theorem cntTo_congr {f g:Nat->Bool}:∀ {n:Nat},(∀ i,i < n->f i=g i)->cntTo f n=cntTo g n
 | 0,_=>rfl
 | n+1,h=>by
  unfold cntTo;rw [cntTo_congr (fun i hi=>h i (by omega)),h n (by omega)]
theorem rd_lt {xs ys:List Int} {j:Nat} (h:j < xs.length):rd (xs ++ ys) (j:Int)=rd xs (j:Int):=by
 simp [rd,List.getD_eq_getElem?_getD,List.getElem?_append_left h]
theorem cnt_pick (p:Nat->Bool) (f:Int->Bool):∀ n:Nat,cntTo (fun j=>f (rd (pickTo p n) (j:Int))) (pickTo p n).length=cntTo (fun k=>p k && f (k:Int)) n
 | 0=>rfl
 | n+1=>by
  have ih:=cnt_pick p f n
  cases hp:p n with
  | false=>
   rw [pickTo_no hp,ih];show _=cntTo _ n+_
   simp [hp]
  | true=>
   rw [pickTo_yes hp,List.length_append];show cntTo _ (pickTo p n).length+(if _ then 1 else 0)=cntTo _ n+(if _ then 1 else 0);rw [cntTo_congr (g:=fun j=>f (rd (pickTo p n) (j:Int))) (fun j hj=>by rw [rd_lt hj]),ih];have:rd (pickTo p n ++ [(n:Int)]) ((pickTo p n).length:Int)=(n:Int):=by simp [rd]
   simp [this,hp]
theorem begun_eq {s:Sys} (hu:∀ k,k < s.tasks.length->upsOk s k=true) (hw:∀ k,k < s.tasks.length->0<=(taskAt s.tasks k).way/\(taskAt s.tasks k).way<=4) (i:Nat):
  begunTo s (kids s.tasks i) (kids s.tasks i).length=kidsN s.tasks i 0+kidsN s.tasks i 1+kidsN s.tasks i 2+kidsN s.tasks i 3:=by
 unfold begunTo kids;rw [cnt_pick (isKid s.tasks i) (fun x=> !decide ((taskAt s.tasks x.toNat).way=4))];unfold kidsN
 have key:∀ n,n<=s.tasks.length->cntTo (fun k=>isKid s.tasks i k && !decide ((taskAt s.tasks (k:Int).toNat).way=4)) n=
   cntTo (fun k=>decide ((taskAt s.tasks k).up=i) && decide ((taskAt s.tasks k).way=0)) n+cntTo (fun k=>decide ((taskAt s.tasks k).up=i) && decide ((taskAt s.tasks k).way=1)) n+
   cntTo (fun k=>decide ((taskAt s.tasks k).up=i) && decide ((taskAt s.tasks k).way=2)) n+cntTo (fun k=>decide ((taskAt s.tasks k).up=i) && decide ((taskAt s.tasks k).way=3)) n:=by
  intro n
  induction n with
  | zero=>intro _;rfl
  | succ n ih=>
   intro hn;unfold cntTo;rw [ih (by omega)];have h1:=hu n (by omega);have h2:=hw n (by omega);unfold upsOk at h1;unfold isKid;simp only [Int.toNat_natCast];by_cases hup:(taskAt s.tasks n).up=(i:Int)
   ·have hlt:(i:Int) < (n:Int):=by
     simp only [hup] at h1;split at h1
     ·simp at h1
     ·simp only [Bool.and_eq_true,inB_iff] at h1;omega
    simp only [hup,hlt,decide_true,Bool.and_true,Bool.true_and,show (0:Int)<=(i:Int) by omega];rcases (show (taskAt s.tasks n).way=0\/(taskAt s.tasks n).way=1\/(taskAt s.tasks n).way=2\/(taskAt s.tasks n).way=3\/(taskAt s.tasks n).way=4 by omega) with h | h | h | h | h <;> simp [h] <;> omega
   ·simp [hup]
 exact key _ (Nat.le_refl _)
theorem isys_eq (p:Prog) (s:Sys):isysB p s=sysOk p s:=by
 rw [Bool.eq_iff_iff]
 have hT:(∀ i,i < s.tasks.length->formB p s (taskAt s.tasks i)=true/\stageB p s (taskAt s.tasks i)=true)/\(∀ i,i < s.tasks.length->upsOk s i=true/\wayB p s i=true) ↔ ∀ i,i < s.tasks.length->taskOk p s i=true:=by
  constructor
  ·rintro ⟨h1,h2⟩ i hi
   refine (task_iff (begun_eq (fun k hk=>(h2 k hk).1) (fun k hk=> ?_) i)).1 ⟨(h1 i hi).1,(h1 i hi).2,(h2 i hi).1,(h2 i hi).2⟩
   have:=(h1 k hk).1
   unfold formB at this;simp only [Bool.and_eq_true,Bool.not_eq_true',decide_eq_false_iff_not] at this;omega
  ·intro h
   have hu:∀ k,k < s.tasks.length->upsOk s k=true/\(0<=(taskAt s.tasks k).way/\(taskAt s.tasks k).way<=4):=fun k hk=>by
    have:=h k hk
    unfold taskOk at this;simp only [Bool.and_eq_true,inB_iff] at this;grind
   exact ⟨fun i hi=>have:=(task_iff (begun_eq (fun k hk=>(hu k hk).1) (fun k hk=>(hu k hk).2) i)).2 (h i hi);⟨this.1,this.2.1⟩,fun i hi=>have:=(task_iff (begun_eq (fun k hk=>(hu k hk).1) (fun k hk=>(hu k hk).2) i)).2 (h i hi);this.2.2⟩
 have hC:(∀ i,i < s.tasks.length->formB p s (taskAt s.tasks i)=true/\stageB p s (taskAt s.tasks i)=true)->(cellsB s=true/\locksOk s=true ↔ cellsOk s=true):=by
  intro h;rw [locks_iff (fun i hi=>(fine_of (h i hi).1).puts) (fun i hi=>(stage_at (h i hi).2).1)];unfold cellsB cellsOk;simp only [allB_iff,Bool.and_eq_true,inB_iff,decide_eq_true_eq];constructor
  ·rintro ⟨h1,h2⟩ i hi
   refine ⟨⟨⟨(h1 i hi).1,(h1 i hi).2⟩,(h2 i hi).1⟩,fun k hk=> ?_⟩;rw [Bool.eq_iff_iff,(h2 i hi).2 k hk,decide_eq_true_eq]
  ·intro h2
   refine ⟨fun i hi=>(h2 i hi).1.1,fun i hi=>⟨(h2 i hi).1.2,fun k hk=> ?_⟩⟩;rw [(h2 i hi).2 k hk,decide_eq_true_eq]
 have hL:logB p s=logOk p s:=by
  unfold logB logOk logAt placeB inB
  congr 1
  funext i
  rw [Bool.eq_iff_iff];simp only [Bool.and_eq_true,Bool.not_eq_true',decide_eq_true_eq,decide_eq_false_iff_not];grind
 unfold isysB sysOk;simp only [hL,Bool.and_eq_true,Bool.not_eq_true',decide_eq_true_eq,decide_eq_false_iff_not,beq_iff_eq,allB_iff,inB_iff];constructor
 ·rintro ⟨⟨⟨⟨⟨⟨⟨⟨⟨⟨a,b⟩,c⟩,d⟩,e⟩,f⟩,g⟩,h⟩,i⟩,j⟩,k⟩
  exact ⟨⟨⟨⟨⟨⟨a,by omega⟩,by omega⟩,by omega⟩,hT.1 ⟨h,i⟩⟩,(hC h).1 ⟨e,j⟩⟩,k⟩
 ·rintro ⟨⟨⟨⟨⟨⟨a,b⟩,c⟩,d⟩,e⟩,f⟩,g⟩
  obtain ⟨h,i⟩:=hT.2 e;obtain ⟨x,y⟩:=(hC h).2 f;exact ⟨⟨⟨⟨⟨⟨⟨⟨⟨⟨a,by omega⟩,by omega⟩,by omega⟩,x⟩,by omega⟩,by omega⟩,h⟩,i⟩,y⟩,g⟩
end Go.Proofs.Ytimamoimphjakaa.Eq
