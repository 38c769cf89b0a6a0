/- The law FnTreeAll: it returns true whatever the input, and the input reads as it did. No conditions. -/
import Derived.Test.YtimamoimphjakaaRows
import Derived.Test.YtimamoimphjakaaV6
import Derived.ChangeOld
import Derived.OpenShut
import Derived.ProofKit
import Derived.ShutString
import Derived.SizedLaws
set_option maxHeartbeats 8000000
set_option maxRecDepth 100000
set_option linter.unusedVariables false
set_option linter.unusedSimpArgs false


namespace Go.Proofs.Ytimamoimphjakaa.Eq
open Go.RowKit Go.Proofs.YtimamoimphjakaaW.PrintWords Go.Proofs.YtimamoimphjakaaW.PrintLast Go.Proofs.YtimamoimphjakaaW.PrintMore
theorem lqSame_calls (xs:List Int) (A B:Option Addr) (c d:Nat) (w:World) (hx:(Kd.int .i64).C w A xs.length xs) (hy:(Kd.int .i64).C w B xs.length xs):
  Calls Try.prog 17 #[.slice A xs.length c,.slice B xs.length d] w fun e w'=>e= .returned (.bool true)/\Below w.heap.size w w':=by
 refine (lqInts_calls xs xs A B c d w hx hy).mono ?_;rintro e w' ⟨rfl,hd⟩;exact ⟨by rw [decide_eq_true rfl],hd.below⟩
theorem sum_le {f:Nat->Nat} {B:Nat} (h:∀ i,f i<=B):∀ n,sumTo f n<=B*n
 | 0=>Nat.le_refl _
 | n+1=>by
  have:=sum_le h n
  have:=h n
  show sumTo f n+f n<=_;rw [Nat.mul_succ];omega
theorem fnTreeAll_calls (A:Option Addr) (c:Nat) (l:List Int) (w:World) (hC:(Kd.int .u8).C w A l.length l) (hc:l.length<=c) (hb:∀ i:Nat,0<=l.getD i 0/\l.getD i 0<=255):
  Calls Try.prog 9 #[.slice A l.length c] w fun e w'=>e= .returned (.bool true)/\Below w.heap.size w w':=by
 have HC:=am hC;have HL:=am hc;have HY:=am hb;clear hC hc hb;by_cases hbig:(1048576:Int) < (l.length:Int)
 ·have ybig:decide ((1048576:Int) < (l.length:Int))=true:=decide_eq_true hbig
  go_enter Try.func9,Try.ntmps9;go_wp2;go_ret;exact ⟨rfl,Below.refl _ _⟩
 ·have ybig:decide ((1048576:Int) < (l.length:Int))=false:=decide_eq_false hbig
  go_enter Try.func9,Try.ntmps9
  go_wp2_with (first
  |(go_at_call 33;refine (drawSysOk_calls A c l _ HC.out HL.out HY.out).mono ?_;rintro e wf ⟨p,s,Ac,lc,cc,Ab,lb,cb,A0,m0,c0,A1,m1,c1,yc,A3,m3,c3,rfl,hp,hpz,hs,hsz,htl,hfew,hlog,hbe⟩;obtain ⟨Q0,d0,Q1,d1,Q3,d3,he,-,-,-,hg1,-,-⟩:=kSys_open hs;simp only [List.cons.injEq,Value.slice.injEq,Value.int.injEq,true_and,and_true] at he;obtain ⟨⟨rfl,rfl,rfl⟩,⟨rfl,rfl,rfl⟩,rfl,⟨rfl,rfl,rfl⟩⟩:=he;obtain ⟨B0,e0,B1,e1,he2,-,-,-,-⟩:=kProg_open hp;simp only [List.cons.injEq,Value.slice.injEq,and_true] at he2;obtain ⟨⟨rfl,rfl,rfl⟩,⟨rfl,rfl,rfl⟩⟩:=he2;obtain ⟨b,o,-,rfl,-⟩:=C_field hg1 zTask 0 htl (by decide);have HB:=am hbe;have SK:=am hs;have G1:=am hg1;have PK:=am hp;have HPZ:=am hpz;have HSZ:=am hsz;have HN:=am (show s.tasks.length<=1048576 from Nat.le_trans hfew (by decide));have HTL:=am htl;clear hbe hs hg1 hp hpz hsz hfew htl hlog)
  |((with_reducible refine gate_dst (N:=3) rfl ?_);refine box_event rfl (N:=3) rfl (t:=48) (by go_simp<;>rfl) ?_;intro gp hg wt hbox hb;have BP0:=am hbox;have LBP:=am (Nat.le_of_eq hg.symm);have HBT:=am hb;clear hbox hb hg)
  |((with_reducible refine gate_dst (N:=4) rfl ?_);refine box_event rfl (N:=4) rfl (t:=27) (by go_simp<;>rfl) ?_;intro gs hg wt hbox hb;have NBPBS:=am (show gp ≠ gs from fun he=>by have:=blk_lt BP0.out;omega);replace BP0:=am (zb8 BP0.out hb);have BS0:=am hbox;have LBS:=am (Nat.le_trans HBT.out.size (Nat.le_of_eq hg.symm));replace HBT:=am (below_step HBT.out hb);clear hbox hb hg)
  |((with_reducible refine gate_store (t:=48) (p:=3) rfl ?_);refine store_block rfl rfl 48 (.tmp 3) (.tmp 14) rfl rfl rfl BP0.out rfl (by kernel_rfl) (aB rfl) ?_;intro wn hbox hg;have BP:=am hbox;replace BS0:=am (blk_grown BS0.out hg (fun he=>NBPBS.out (by injection he with he;exact he.symm)));replace HBT:=am (pw_below_grown HBT.out _ HBT.out.size hg (fun z hz=>by cases hz;exact LBP.out));clear BP0 hbox hg)
  |((with_reducible refine gate_store (t:=27) (p:=4) rfl ?_);refine store_block rfl rfl 27 (.tmp 4) (.tmp 15) rfl rfl rfl BS0.out rfl (by kernel_rfl) (aB rfl) ?_;intro wn hbox hg;have BS:=am hbox;replace BP:=am (blk_grown BP.out hg (fun he=>NBPBS.out (by injection he)));replace HBT:=am (pw_below_grown HBT.out _ HBT.out.size hg (fun z hz=>by cases hz;exact LBS.out));clear BS0 hbox hg;have hbT:=HBT.out;clear HBT;replace HB:=am (below_step HB.out hbT);replace SK:=am (kSys.K_below hbT SK.out);replace G1:=am (Kd.C_below G1.out hbT);replace PK:=am (kProg.K_below hbT PK.out);clear hbT;have BPc:=zc8 BP.out;have BSc:=zc8 BS.out)
  |((with_reducible refine gate_dst (N:=16) rfl ?_);refine wpList_load_mid rfl 27 (.tmp 4) rfl gs 0 rfl _ _ (lC BS.out) Try.underlying27 rfl (by kernel_rfl) ?_)
  |((with_reducible refine gate_dst (N:=19) rfl ?_);refine wpList_load_mid rfl 27 (.tmp 4) rfl gs 0 rfl _ _ (lC BS.out) Try.underlying27 rfl (by kernel_rfl) ?_)
  |(go_at_call 31;refine (implKids_calls s _ 0 _ SK.out HN.out).mono ?_;rintro e wn ⟨v,rfl,hv,hb⟩;obtain ⟨Ak,ck,ev,-,hcv⟩:=Kd.R_reads hv;subst ev;have KV:=am hcv;clear hv hcv;replace HB:=am (below_step HB.out hb);replace SK:=am (kSys.K_below hb SK.out);replace G1:=am (Kd.C_below G1.out hb);replace PK:=am (kProg.K_below hb PK.out);replace BP:=am (zb8 BP.out hb);replace BS:=am (zb8 BS.out hb);clear BPc BSc hb;have BPc:=zc8 BP.out;have BSc:=zc8 BS.out)
  |(go_at_call 32;refine (specKids_calls s _ 0 _ SK.out HN.out).mono ?_;rintro e wn ⟨v,rfl,hv,hb⟩;obtain ⟨Av,cv,ev,-,hcv⟩:=Kd.R_reads hv;subst ev;have KU:=am hcv;clear hv hcv;replace HB:=am (below_step HB.out hb);replace SK:=am (kSys.K_below hb SK.out);replace G1:=am (Kd.C_below G1.out hb);replace PK:=am (kProg.K_below hb PK.out);replace BP:=am (zb8 BP.out hb);replace BS:=am (zb8 BS.out hb);replace KV:=am (Kd.C_below KV.out hb);clear BPc BSc hb;have BPc:=zc8 BP.out;have BSc:=zc8 BS.out)
  |(go_at_call 17;refine (lqSame_calls (kids s.tasks 0) Ak Av ck cv _ KV.out KU.out).mono ?_;rintro e wn ⟨rfl,hb⟩;replace HB:=am (below_step HB.out hb);replace SK:=am (kSys.K_below hb SK.out);replace G1:=am (Kd.C_below G1.out hb);replace PK:=am (kProg.K_below hb PK.out);replace BP:=am (zb8 BP.out hb);replace BS:=am (zb8 BS.out hb);replace KV:=am (Kd.C_below KV.out hb);clear BPc BSc hb;have BPc:=zc8 BP.out;have BSc:=zc8 BS.out)
  |((with_reducible refine gate_dst (N:=24) rfl ?_);refine wpList_load_mid rfl 48 (.tmp 3) rfl gp 0 rfl _ _ (lC BP.out) Try.underlying48 rfl (by kernel_rfl) ?_)
  |((with_reducible refine gate_dst (N:=25) rfl ?_);refine wpList_load_mid rfl 27 (.tmp 4) rfl gs 0 rfl _ _ (lC BS.out) Try.underlying27 rfl (by kernel_rfl) ?_)
  |(go_at_call 34;fail))
  refine (sysOk_calls p _ s _ _ PK.out SK.out HPZ.out HSZ.out).mono ?_;rintro e wn ⟨rfl,hb⟩;replace HB:=am (below_step HB.out hb);replace SK:=am (kSys.K_below hb SK.out);replace G1:=am (Kd.C_below G1.out hb);replace PK:=am (kProg.K_below hb PK.out);replace BP:=am (zb8 BP.out hb);replace BS:=am (zb8 BS.out hb);replace KV:=am (Kd.C_below KV.out hb);clear BPc BSc hb;have BPc:=zc8 BP.out;have BSc:=zc8 BS.out;clear KU;obtain ⟨ok,hok⟩:∃ z,sysOk p s=z:=⟨_,rfl⟩;have OK:=am hok;rw [hok];clear hok
  cases ok with
  | false=>
   go_wp2_with (first
   |((with_reducible refine gate_dst (N:=30) rfl ?_);refine wpList_load_mid rfl 27 (.tmp 4) rfl gs 0 rfl _ _ (lC BS.out) Try.underlying27 rfl (by kernel_rfl) ?_)
   |(go_at_call 32;refine (specKids_calls s _ 0 _ SK.out HN.out).mono ?_;rintro e wn ⟨v,rfl,hv,hb⟩;obtain ⟨Av,cv,ev,-,hcv⟩:=Kd.R_reads hv;subst ev;have KU:=am hcv;clear hv hcv;replace HB:=am (below_step HB.out hb);replace SK:=am (kSys.K_below hb SK.out);replace G1:=am (Kd.C_below G1.out hb);replace PK:=am (kProg.K_below hb PK.out);replace BP:=am (zb8 BP.out hb);replace BS:=am (zb8 BS.out hb);replace KV:=am (Kd.C_below KV.out hb);clear BPc BSc hb;have BPc:=zc8 BP.out;have BSc:=zc8 BS.out)
   |(go_at_call 17;refine (lqSame_calls (kids s.tasks 0) Ak Av ck cv _ KV.out KU.out).mono ?_;rintro e wn ⟨rfl,hb⟩;replace HB:=am (below_step HB.out hb);replace SK:=am (kSys.K_below hb SK.out);replace G1:=am (Kd.C_below G1.out hb);replace PK:=am (kProg.K_below hb PK.out);replace BP:=am (zb8 BP.out hb);replace BS:=am (zb8 BS.out hb);replace KV:=am (Kd.C_below KV.out hb);clear BPc BSc hb;have BPc:=zc8 BP.out;have BSc:=zc8 BS.out))
   go_ret
   exact ⟨rfl,HB.out⟩
  | true=>
   have HT:=am (ok_tree OK.out);have H7:=am (ok_parts OK.out).2.1;go_wp2;go_loopw [6,7] (fun av i w'=>∃ k:Nat,k<=s.tasks.length/\av= .int .i64 (sumTo (fun i=>(kids s.tasks (i:Int)).length) k:Nat)/\i= .int .i64 k/\Aside0 (w'.heap[gp]? = some (.cells #[.slice Ac p.cells.length cc,.slice Ab p.bodies.length cb] 48 (0,0)))/\Aside0 (kProg.K w' p [.slice Ac p.cells.length cc,.slice Ab p.bodies.length cb])/\Aside0 (w'.heap[gs]? = some (.cells #[.slice A0 s.cells.length c0,.slice (some ⟨b,o,none⟩) s.tasks.length c1,.int .i64 s.clock,.slice A3 s.log.length c3] 27 (0,0)))/\Aside0 (kTask.C w' (some ⟨b,o,none⟩) s.tasks.length s.tasks)/\Aside0 (kSys.K w' s [.slice A0 s.cells.length c0,.slice (some ⟨b,o,none⟩) s.tasks.length c1,.int .i64 s.clock,.slice A3 s.log.length c3])/\Aside0 (Below w.heap.size w w')) (fun _ i _=>s.tasks.length - (intOf i).toNat)
   case atStart=>exact ⟨0,Nat.zero_le _,rfl,rfl,BP,PK,BS,G1,SK,HB⟩
   case round=>
    clear BP BS G1 SK PK HB BPc BSc KV;obtain ⟨k,hk,rfl,rfl,BP,PK,BS,G1,SK,HB⟩:=hrel;have BSc:=zc8 BS.out;have BPc:=zc8 BP.out;have h7:=H7.out;have hsum:=sum_le (f:=fun i=>(kids s.tasks (i:Int)).length) (B:=7) (fun i=>Nat.le_trans (pickTo_length _ _) h7.2) k
    have hkl:(kids s.tasks (k:Int)).length<=7:=Nat.le_trans (pickTo_length _ _) h7.2;by_cases hlt:k < s.tasks.length
    ·have q1:(k:Int) < (s.tasks.length:Int):=by omega
     have HSM:=am (show sumTo (fun i=>(kids s.tasks (i:Int)).length) (k+1)=sumTo (fun i=>(kids s.tasks (i:Int)).length) k+(kids s.tasks (k:Int)).length from rfl);by_cases hk0:(0:Int) < (k:Int)
     ·have y0:decide ((0:Int) < (k:Int))=true:=decide_eq_true hk0
      have UN:=am (HT.out.under0 _ k (Nat.lt_succ_self k) (by omega) hlt)
      go_wp2_with (first
      |((with_reducible refine gate_dst (N:=41) rfl ?_);refine wpList_load_mid rfl 27 (.tmp 4) rfl gs 0 rfl _ _ (lC BS.out) Try.underlying27 rfl (by kernel_rfl) ?_)
      |((with_reducible refine gate_dst (N:=49) rfl ?_);refine wpList_load_mid rfl 27 (.tmp 4) rfl gs 0 rfl _ _ (lC BS.out) Try.underlying27 rfl (by kernel_rfl) ?_)
      |(go_at_call 31;refine (implKids_calls s _ (k:Int) _ SK.out HN.out).mono ?_;rintro e wn ⟨v,rfl,hv,hb⟩;obtain ⟨Ak,ck,ev,-,hcv⟩:=Kd.R_reads hv;subst ev;have KV:=am hcv;clear hv hcv;replace HB:=am (below_step HB.out hb);replace SK:=am (kSys.K_below hb SK.out);replace G1:=am (Kd.C_below G1.out hb);replace PK:=am (kProg.K_below hb PK.out);replace BP:=am (zb8 BP.out hb);replace BS:=am (zb8 BS.out hb);clear BPc BSc hb;have BPc:=zc8 BP.out;have BSc:=zc8 BS.out)
      |(go_at_call 21;refine (implUnder_calls s _ _ _ _ SK.out HN.out).mono ?_;rw [UN.out];rintro e wn ⟨rfl,hb⟩;replace HB:=am (below_step HB.out hb);replace SK:=am (kSys.K_below hb SK.out);replace G1:=am (Kd.C_below G1.out hb);replace PK:=am (kProg.K_below hb PK.out);replace BP:=am (zb8 BP.out hb);replace BS:=am (zb8 BS.out hb);clear BPc BSc hb;have BPc:=zc8 BP.out;have BSc:=zc8 BS.out))
      go_roundw
      case rel=>exact ⟨k+1,by omega,by rw [HSM.out];go_num,by go_num,BP,PK,BS,G1,SK,HB⟩
      case measure=>simp [intOf];omega
     ·have y0:decide ((0:Int) < (k:Int))=false:=decide_eq_false hk0
      go_wp2_with (first
      |((with_reducible refine gate_dst (N:=41) rfl ?_);refine wpList_load_mid rfl 27 (.tmp 4) rfl gs 0 rfl _ _ (lC BS.out) Try.underlying27 rfl (by kernel_rfl) ?_)
      |(go_at_call 31;refine (implKids_calls s _ (k:Int) _ SK.out HN.out).mono ?_;rintro e wn ⟨v,rfl,hv,hb⟩;obtain ⟨Ak,ck,ev,-,hcv⟩:=Kd.R_reads hv;subst ev;have KV:=am hcv;clear hv hcv;replace HB:=am (below_step HB.out hb);replace SK:=am (kSys.K_below hb SK.out);replace G1:=am (Kd.C_below G1.out hb);replace PK:=am (kProg.K_below hb PK.out);replace BP:=am (zb8 BP.out hb);replace BS:=am (zb8 BS.out hb);clear BPc BSc hb;have BPc:=zc8 BP.out;have BSc:=zc8 BS.out))
      go_roundw
      case rel=>exact ⟨k+1,by omega,by rw [HSM.out];go_num,by go_num,BP,PK,BS,G1,SK,HB⟩
      case measure=>simp [intOf];omega
    ·obtain rfl:k=s.tasks.length:=by omega
     have q1:¬ (s.tasks.length:Int) < (s.tasks.length:Int):=by omega
     have hw:wrap64 ((s.tasks.length:Int) - 1)=(s.tasks.length:Int) - 1:=by unfold wrap64;omega
     have hall:=HT.out.kidsAll;have ya:(((sumTo (fun i=>(kids s.tasks (i:Int)).length) s.tasks.length:Nat):Int) == (s.tasks.length:Int) - 1)=true:=by rw [beq_iff_eq,hall];omega
     clear hall;go_wp2;go_ret;exact ⟨rfl,HB.out⟩
end Go.Proofs.Ytimamoimphjakaa.Eq
namespace Go.Proofs.Ytimamoimphjakaa.fnTreeAll
open Go.ChangeShapes Go.WideShapes Go.ChangeAt Go.RowKit Go.Proofs.YtimamoimphjakaaW.PrintWords
theorem own:ownKnob Try.prog.godebug=none:=by kernel_rfl
theorem laidOut:laidOutB Try.prog=true:=by kernel_rfl
def IsRow (k:IntKind) (w:World) (a:Option Addr) (len cap:Nat) (zs:List Int):Prop:=
 (a=none/\len=0/\cap=0/\zs= [])\/
 ∃ x,a=some x/\len<=cap/\cap<=maxLen/\zs.length=cap/\(∀ i,i < zs.length->w.cell? (x.add i)=some (.int k (zs.getD i 0)))/\∀ n ∈ zs,(Lit.int k n).wf=true
theorem bytes {l:List Int} (h:∀ x ∈ l,(Lit.int .u8 x).wf=true) (i:Nat):0<=l.getD i 0/\l.getD i 0<=255:=by
 have:=range_u8 h i
 rwa [List.getD_eq_getElem?_getD]
theorem lifted (os:Os) (started:os.Started) (H:Type) (enc:TypeId × Value->H):
  ReturnsInHanded {} Try.checked os 9 .any (Rows.fnTreeAllSpec.pre6 enc Try.prog Try.f9 Rows.fnTreeAllRow.domain false) (Rows.fnTreeAllSpec.post enc Try.prog Try.f9 false true false false):=by
 refine returnsInHanded_of_change_sized (C:=Try.checked) own started (by kernel_rfl) Try.func9
  (ChangeSpec.witness6 (enc:=enc) (C:=Try.checked) false ⟨#[],#[.slice none 0 0], []⟩ 8 (by kernel_rfl) (by kernel_rfl) (by kernel_rfl) (by kernel_rfl)) ?_
 intro W base args ds gs before hval0 hW hcnd hsz0 _;have hval:∀ (j:Nat) t v,Try.f9.params[j]? = some t->args[j]? = some v->Value.okWide Try.prog W .any base t v:=hval0;have hW':=hW;obtain ⟨p,q,hA0,hV,rfl,hfz,hnd⟩:=hW;have hA:DataW.TrodAll enc Try.prog W 0 (fun _=>true) true Try.f9.params.toList args.toList ds p:=hA0;rw [Try.params9] at hA hval;obtain ⟨v0,vs0,d0,ds0,p0,q0,hargs,rfl,rfl,h0,r0⟩:=trodAll_cons hA;obtain ⟨rfl,rfl,rfl⟩:=trodAll_nil r0;obtain rfl:args= #[v0]:=by cases args;simp_all
 obtain ⟨rfl,rfl⟩:=trodVars_none hV;obtain ⟨a0,len0,cap0,rfl⟩:=okWide_slice Try.underlying22 (hval 0 22 v0 rfl rfl);have k0:=h0;have lt0:∀ x ∈ p0,x.block < W.heap.size:=by obtain ⟨m,hm⟩:=k0;exact DataW.trod_lt m _ _ _ hm
 obtain ⟨z0,w0⟩:∃ zs,IsRow .u8 W a0 len0 cap0 zs:=by
  obtain ⟨fuel,hf⟩:=h0;rcases open_ints Try.underlying22 Try.underlying5 (by kernel_rfl) hf with ⟨hcs,_⟩ | ⟨x,l,c,zs,hcs,_,hl,hm,hz,_,hcell,hwz⟩
  ·simp [Value.cells] at hcs
   obtain ⟨rfl,rfl,rfl⟩:=hcs;exact ⟨[],.inl ⟨rfl,rfl,rfl,rfl⟩⟩
  ·simp [Value.cells] at hcs
   obtain ⟨rfl,rfl,rfl⟩:=hcs;exact ⟨zs,.inr ⟨_,rfl,hl,hm,by simpa using hz,hcell,hwz⟩⟩
 obtain ⟨l0,rfl,hr0,hm0,hw0,hc0⟩:=ReadsInt.ofRowC w0;refine (Eq.fnTreeAll_calls a0 cap0 l0 W (Kd.C_of_reads (d:=(0:Int)) (h1:=fun _=>rfl) hr0) hc0 (bytes hw0)).mono fun e W' ⟨he,bel⟩=> ?_
 subst he;exact ⟨_,rfl,_,_,_, [],_, [],hW',trodAll_mk1 (shut_bool Try.underlying4 _),(trodAll_cons_mk (Below.trod laidOut (by kernel_rfl) (of_decide_eq_true (by kernel_rfl)) k0 bel lt0) trodAll_mk0),rfl,bel.frame _,fun h=>by cases h⟩
theorem over:Rows.fnTreeAllRow.holds Try.pinned (OpenSpec.ofChange Rows.fnTreeAllSpec):=
 OpenClaim.holds_of_wide 9 Try.f9 rfl rfl rfl rfl rfl rfl rfl ⟨rfl,rfl,rfl,rfl,rfl⟩ rfl rfl rfl rfl rfl (by kernel_rfl) Try.func9 (by kernel_rfl)
  (of_decide_eq_true (by kernel_rfl)) (by unfold Func.isWrapper;first|(rw [if_pos (by decide +kernel)];kernel_rfl)|(rw [if_neg (by decide +kernel)];exact ⟨rfl,rfl⟩))
  (fun os started H enc _=>lifted os started H enc)
theorem proved:Rows.FnTreeAllSaid:=over
end Go.Proofs.Ytimamoimphjakaa.fnTreeAll
namespace Go.Proofs.Ytimamoimphjakaa
theorem fnTreeAll_holds:Rows.FnTreeAllSaid:=fnTreeAll.proved
end Go.Proofs.Ytimamoimphjakaa
