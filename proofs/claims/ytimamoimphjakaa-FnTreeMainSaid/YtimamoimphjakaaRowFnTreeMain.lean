/- The law FnTreeMain: it returns true whatever the input, and the input reads as it did. No conditions. -/
import Derived.Test.YtimamoimphjakaaRows
import Derived.Test.YtimamoimphjakaaV6
import Derived.ChangeOld
import Derived.OpenShut
import Derived.ProofKit
import Derived.ShutString
import Derived.SizedLaws
set_option maxHeartbeats 8000000
set_option maxRecDepth 100000
set_option linter.unusedVariables false
set_option linter.unusedSimpArgs false
namespace Go.Proofs.Ytimamoimphjakaa.Eq
open Go.RowKit Go.Proofs.YtimamoimphjakaaW.PrintWords Go.Proofs.YtimamoimphjakaaW.PrintLast Go.Proofs.YtimamoimphjakaaW.PrintMore
theorem task_way {W:World} {b o:Nat} {ts:List Task} (h:kTask.C W (some ⟨b,o,none⟩) ts.length ts) {i:Nat} (hi:i < ts.length):W.cell? ⟨b,o+i*13+4,none⟩=some (.int .i64 (taskAt ts i).way):=by
 obtain ⟨b2,o2,cs2,e2,hcl,hK,hcc,hc0⟩:=C_field h zTask i hi (by decide);cases e2;rw [show ts.getD i zTask=taskAt ts i from rfl] at hK;obtain ⟨B3,d3,B8,d8,B9,d9,B10,d10,rfl,_,_,_,_,_,_,_,_⟩:=kTask_open hK;exact hcc 4 _ rfl
def Grew (w w':World) (v v':Value):Prop:=w.grownBy w' v.ownBlock/\(v'.ownBlock=v.ownBlock\/∃ b,v'.ownBlock=some b/\w.heap.size<=b)
theorem grown_comp {w w1 w2:World} {r r1:Option Nat} (h:w.grownBy w1 r) (k:w1.grownBy w2 r1) (hat:r1=r\/∃ b,r1=some b/\w.heap.size<=b):w.grownBy w2 r:=
 ⟨k.os.trans h.os,k.tape.trans h.tape,k.output.trans h.output,Nat.le_trans h.size k.size,fun i hi hne=>(k.block i (Nat.lt_of_lt_of_le hi h.size) (fun he=>by
  rcases hat with rfl | ⟨b,rfl,hb⟩
  ·exact hne he
  ·injection he with he;omega)).trans (h.block i hi hne)⟩
theorem Grew.trans {w w1 w2:World} {v v1 v2:Value} (h:Grew w w1 v v1) (k:Grew w1 w2 v1 v2):Grew w w2 v v2:=
 ⟨grown_comp h.1 k.1 h.2,by
  rcases k.2 with e | ⟨b,hb,hle⟩
  ·rw [e];exact h.2
  ·exact .inr ⟨b,hb,Nat.le_trans h.1.size hle⟩⟩
theorem Grew.below {w w1:World} (h:Below w.heap.size w w1) (v:Value):Grew w w1 v v:=⟨grown_of_below h _,.inl rfl⟩
theorem Grew.drew {w w1:World} {v v1:Value} (h:Grew w w1 v v1):Grew w w1.drew v v1:=⟨⟨h.1.os,h.1.tape,h.1.output,h.1.size,h.1.block⟩,h.2⟩
theorem flat_take {α β:Type} (g:α->List β) (l:List α) (z:α) (j:Nat) (h:j < l.length):((l.take (j+1)).map g).flatten=((l.take j).map g).flatten ++ g (l.getD j z):=by
 rw [List.take_succ_eq_append_getElem h,List.map_append,List.flatten_append];simp [List.getD_eq_getElem?_getD,List.getElem?_eq_getElem h]
theorem flat_take_le {α β:Type} (g:α->List β) (l:List α) (j:Nat):((l.take j).map g).flatten.length<=(l.map g).flatten.length:=by
 conv=>(rhs;rw [<-List.take_append_drop j l])
 rw [List.map_append,List.flatten_append,List.length_append];omega
theorem kidAt {ts:List Task} {m k:Nat} (h:k < (kids ts m).length):∃ i:Nat,i < ts.length/\m < i/\rd (kids ts m) (k:Int)=(i:Int):=by
 obtain ⟨i,h1,_,_,h4,h3⟩:=mem_kids.1 (List.getElem_mem h);exact ⟨i,h1,by omega,by rw [rd,Int.toNat_natCast,List.getD_eq_getElem?_getD,List.getElem?_eq_getElem h,Option.getD_some,h3]⟩
theorem l21_calls (s:Sys) (cs:List Value) (w0:World) (hx:kSys.K w0 s cs) (hn:s.tasks.length<=1048576):∀ (f m:Nat),m < s.tasks.length->s.tasks.length<=m+f->∀ (w:World) (v:Value) (xs:List Int),
  Below w0.heap.size w0 w->Kd.R (Kd.int .i64) 3 w w0.heap.size (fun _=>True) v xs->xs.length+(walkF s.tasks f m).length<=2097152->
  Calls Try.prog 60 #[.agg cs.toArray,.int .i64 m,v] w fun e w'=>∃ v1,e= .returned v1/\Kd.R (Kd.int .i64) 3 w' w0.heap.size (fun _=>True) v1 (xs ++ walkF s.tasks f m)/\Below w0.heap.size w0 w'/\Grew w w' v v1:=by
 obtain ⟨A0,c0,A1,c1,A3,c3,rfl,l0,g0,l1,g1,l3,g3⟩:=kSys_open hx;have G:=am (And.intro g0 (And.intro g1 g3));clear g0 g1 g3 hx;intro f
 induction f with
 | zero=>intro m h1 h2;omega
 | succ f ih=>
  intro m hm hf w v xs hB0 hO0 hL0;have hB:=am hB0;have hO:=am hO0;have hL:=hL0;rw [show walkF s.tasks (f+1) m=(m:Int) :: ((kids s.tasks m).map (walkF s.tasks f)).flatten from rfl] at hL ⊢;simp only [List.length_cons] at hL;clear hB0 hO0 hL0;have IH:=am ih;clear ih;go_enter Try.func60,Try.ntmps60;go_wp2_with (first|((with_reducible refine gate_dst (N:=3) rfl ?_);refine box_event rfl (N:=3) rfl (t:=27) (by go_simp<;>rfl) ?_;intro g hg w2 hbox hb;have BK:=am hbox;have HG:=am (Grew.below hb v);have HB:=am (below_step hB.out hb);have HO:=am (Kd.R_below hO.out hb);clear hbox hb hg;have hc:=zc8 BK.out)|((with_reducible refine gate_builtin (b:=.append) (xs:=#[.tmp 9,.tmp 11]) rfl ?_);at_builtin;refine Kd.R_append (Kd.int .i64) (w0:=w0) w0.heap.size rfl (.tmp 9) (.tmp 11) 29 3 (.int .i64 0) 8 rfl Try.underlying29 info_int rfl (by decide) (by omega) _ xs (m:Int) [.int .i64 (m:Int)] (fun _=>True) (fun _=>False) rfl rfl rfl (fun _ hk=>hk.elim) (fun _ _=>trivial) HO.out HB.out (below_size HB.out) (by first|omega|(simp only [List.length_append,List.length_cons,List.length_nil] at *;omega)) ?_;intro v1 w1 ho hb hg hat;have BK1:=am (blk_grown BK.out hg (Kd.R_ne HO.out BK.out (by decide)));have HG1:=am (HG.out.trans ⟨hg,hat⟩);have HO1:=am ho;have HB1:=am hb;clear ho hb hg hat HO HB BK HG hc;have hc:=zc8 BK1.out)|(go_at_call 32;refine (specKids_calls s _ (m:Int) _ (kSys_mk s l0 (Kd.C_below G.out.1 HB1.out) l1 (Kd.C_below G.out.2.1 HB1.out) l3 (Kd.C_below G.out.2.2 HB1.out)) hn).mono ?_;rintro e w2 ⟨vk,rfl,ho,hb⟩;have HK:=am (Kd.R_lower (base':=w0.heap.size) (Kd.R_newR ho HO1.out) (below_size HB1.out));have BK2:=am (zb8 BK1.out hb);have HO2:=am (Kd.R_below HO1.out hb);have HB2:=am (below_step HB1.out hb);have HG2:=am (HG1.out.trans (Grew.below hb _));clear ho hb BK1 HO1 HB1 HG1 hc;have hc:=zc8 BK2.out))
  go_loopw [2,8] (fun vo i w'=>∃ j:Nat,j<=(kids s.tasks m).length/\i= .int .i64 j/\Aside0 (Kd.R (Kd.int .i64) 3 w' w0.heap.size (fun _=>True) vo (xs ++ ((m:Int) :: (((kids s.tasks m).take j).map (walkF s.tasks f)).flatten)))/\Aside0 (Kd.R (Kd.int .i64) 3 w' w0.heap.size (fun k=>True/\some k ≠ vo.ownBlock) vk (kids s.tasks m))/\Aside0 (w'.heap[g]? = some (.cells #[.slice A0 s.cells.length c0,.slice A1 s.tasks.length c1,.int .i64 s.clock,.slice A3 s.log.length c3] 27 (0,0)))/\Aside0 (Below w0.heap.size w0 w')/\Aside0 (Grew w w' v vo)) (fun _ i _=>(kids s.tasks m).length - (intOf i).toNat)
  case atStart=>exact ⟨0,Nat.zero_le _,rfl,HO2,HK,BK2,HB2,HG2⟩
  case round=>
   clear HO2 HK BK2 HB2 HG2 hc;obtain ⟨j,hj,rfl,HO,HK,BK,HB,HG⟩:=hrel;have BKc:=zc8 BK.out;have hkl:(kids s.tasks m).length<=1048576:=Nat.le_trans (pickTo_length _ _) hn;obtain ⟨Av,cv,rfl⟩:=Kd.R_slice HK.out;by_cases hlt:j < (kids s.tasks m).length
   ·have q0:(0:Int)<=(j:Int):=by omega
    have q1:(j:Int) < ((kids s.tasks m).length:Int):=by omega
    obtain ⟨i,hil,hmi,hi⟩:=kidAt hlt;obtain ⟨gl,cap,he,hg1,hg2,hg3⟩:=Kd.R_form HK.out (by omega);cases he;have h_kid:=(Kd.R_celln 0 HK.out (j:Int) q0 q1).1;rw [show rdOf 0 (kids s.tasks m) (j:Int)=(i:Int) from hi,Int.toNat_natCast] at h_kid;have HT:=am (flat_take (walkF s.tasks f) (kids s.tasks m) 0 j hlt);rw [show (kids s.tasks m).getD j 0=(i:Int) from by rw [<-hi];rfl] at HT;clear hg3 hi;go_wp2;refine wp_region_still_tail 6 (by kernel_rfl) (by kernel_rfl) ?_;simp only [List.take_succ_cons,List.take_zero,List.drop_succ_cons,List.drop_zero];iterate 6 still_step
    refine wpStill_nil ?_;have ih:=IH.out;have ihA:=am ih;clear ih;go_wp2_with (go_at_call 60;refine (ihA.out i hil (by omega) _ _ _ (below_drew HB.out) (Kd.R_drew HO.out) (by have h1:=HT.out;have h2:=flat_take_le (walkF s.tasks f) (kids s.tasks m) (j+1);rw [h1] at h2;simp only [List.length_append,List.length_cons,List.length_nil] at *;omega)).mono ?_;rintro e w3 ⟨v3,rfl,ho,hb,hg⟩;have HO3:=am ho;have HB3:=am hb;have HG3:=am (HG.out.drew.trans hg);have BK3:=am (blk_grown (blk_drew BK.out) hg.1 (Kd.R_ne (Kd.R_drew HO.out) (blk_drew BK.out) (by decide)));have HK3:=am (Kd.R_after (Kd.R_drew HK.out) hg.1 hg.2);clear ho hb hg HO HB HG BK HK)
    go_roundw
    case rel=>exact ⟨j+1,by omega,by go_num,⟨by have h:=HO3.out;rw [HT.out];rw [List.append_assoc,List.cons_append] at h;exact h⟩,HK3,BK3,HB3,HG3⟩
    case measure=>simp [intOf];omega
   ·go_wp2
    go_ret;obtain rfl:j=(kids s.tasks m).length:=by omega
    exact ⟨_,rfl,by have h:=HO.out;rw [List.take_length] at h;exact h,HB.out,HG.out⟩
theorem specWalk_calls (s:Sys) (cs:List Value) (w:World) (hx:kSys.K w s cs) (hn:s.tasks.length<=1048576):
  Calls Try.prog 37 #[.agg cs.toArray] w fun e w'=>∃ v,e= .returned v/\(Kd.int .i64).R 3 w' w.heap.size (fun _=>True) v (walkAll s.tasks)/\Below w.heap.size w w':=by
 obtain ⟨A0,c0,A1,c1,A3,c3,rfl,l0,g0,l1,g1,l3,g3⟩:=kSys_open hx;have G:=am (And.intro g0 (And.intro g1 g3));clear g0 g1 g3;have HX:=am hx;clear hx;go_enter Try.func37,Try.ntmps37;go_wp2_with (first|((with_reducible refine gate_dst (N:=1) rfl ?_);refine box_event rfl (N:=1) rfl (t:=27) (by go_simp<;>rfl) ?_;intro g hg w2 hbox hb;have BK:=am hbox;have HB:=am hb;have GE:=am (show w.heap.size<=g by omega);clear hbox hb hg;have hc:=zc8 BK.out)|((with_reducible refine gate_dst (N:=5) rfl ?_);refine Kd.R_lit (w0:=w) (Kd.int .i64) w.heap.size 3 rfl (N:=5) rfl (xs:=([]:List Int)) (inner:= []) (ok:=fun _=>True) (okp:=fun _=>True) (by go_simp<;>rfl) (Reps.none _ _) (fun _ hk=>hk) trivial HB.out (below_size HB.out) (by simp) ?_;intro v0 w3 ho hb hg _;have BK1:=am (blk_grown BK.out hg (by simp));have HO1:=am ho;have HB1:=am hb;clear ho hb hg HB BK hc;have hc:=zc8 BK1.out))
 go_loopw [3,4] (fun v i w'=>∃ k:Nat,k<=s.tasks.length/\i= .int .i64 k/\Aside0 (Kd.R (Kd.int .i64) 3 w' w.heap.size (fun _=>True) v (walkTo s.tasks k))/\Aside0 (w'.heap[g]? = some (.cells #[.slice A0 s.cells.length c0,.slice A1 s.tasks.length c1,.int .i64 s.clock,.slice A3 s.log.length c3] 27 (0,0)))/\Aside0 (Below w.heap.size w w')) (fun _ i _=>s.tasks.length - (intOf i).toNat)
 case atStart=>exact ⟨0,Nat.zero_le _,rfl,HO1,BK1,HB1⟩
 case round=>
  clear HO1 BK1 HB1 hc;obtain ⟨k,hk,rfl,HO,BK,HB⟩:=hrel;by_cases hlt:k < s.tasks.length
  · skip
    have BKc:=zc8 BK.out;obtain ⟨b,o,cs,rfl,hcl,hK,hcc,hc0⟩:=C_field (Kd.C_below G.out.2.1 HB.out) zTask k hlt (by decide);rw [show s.tasks.getD k zTask=taskAt s.tasks k from rfl] at hK;obtain ⟨B3,d3,B8,d8,B9,d9,B10,d10,rfl,_,_,_,_,_,_,_,_⟩:=kTask_open hK;have h_up:=hcc 2 _ rfl;simp only [show kTask.sz=13 from rfl] at h_up;clear hcc hc0 hK hcl;have q0:(0:Int)<=(k:Int):=by omega
    have q1:(k:Int) < (s.tasks.length:Int):=by omega
    have hwl:=walkTo_le s.tasks (k:=k+1) hlt;by_cases hy:(taskAt s.tasks k).up= -1
    ·have y1:((taskAt s.tasks k).up == -1)=true:=by simp [hy]
     have HR:=am (walkTo_yes (ts:=s.tasks) (k:=k) (by simp [isRoot,hy]));clear hy;rw [HR.out,List.length_append] at hwl;go_wp2_with (go_at_call 60;refine (l21_calls s _ w HX.out hn s.tasks.length k hlt (by omega) _ _ _ HB.out HO.out (by unfold walkOf at hwl;omega)).mono ?_;rintro e w3 ⟨v3,rfl,ho,hb,hg⟩;have HO3:=am ho;have HB3:=am hb;have BK3:=am (blk_grown BK.out hg.1 (Kd.R_ne HO.out BK.out (by decide)));clear ho hb hg HO HB BK BKc)
     go_roundw
     case rel=>exact ⟨k+1,by omega,by go_num,⟨by rw [HR.out];exact HO3.out⟩,BK3,HB3⟩
     case measure=>simp [intOf];omega
    ·have y1:((taskAt s.tasks k).up == -1)=false:=by simp [hy]
     have HR:=am (walkTo_no (ts:=s.tasks) (k:=k) (by simp [isRoot,hy]));clear hy;go_wp2;go_roundw
     case rel=>exact ⟨k+1,by omega,by go_num,⟨by rw [HR.out];exact HO.out⟩,BK,HB⟩
     case measure=>simp [intOf];omega
  ·have BKc:=zc8 BK.out
   go_wp2;go_ret;obtain rfl:k=s.tasks.length:=by omega
   exact ⟨_,rfl,HO.out,HB.out⟩
theorem len_le_flat {ts:List Task}:∀ (l:List Int),(∀ x ∈ l,0<=x/\x < (ts.length:Int))->l.length<=((l.map (walkOf ts)).flatten).length
 | [],_=>by simp
 | x :: l,h=>by
  have h1:=len_le_flat l (fun y hy=>h y (List.mem_cons_of_mem _ hy));have h2:=h x List.mem_cons_self;rw [List.map_cons,List.flatten_cons,List.length_append,walkOf_eq h2.1 h2.2];simp only [List.length_cons];omega
theorem stack_step {ts:List Task} {st:List Int} {m:Nat} (hm:m < ts.length) (ws W:List Int) (h:ws ++ (((st ++ [(m:Int)]).reverse).map (walkOf ts)).flatten=W):
  (ws ++ [(m:Int)]) ++ (((st ++ (kids ts m).reverse).reverse).map (walkOf ts)).flatten=W:=by
 rw [<-h];simp only [List.reverse_append,List.reverse_reverse,List.map_append,List.flatten_append,List.reverse_cons,List.reverse_nil,List.nil_append,List.map_cons,List.map_nil,List.flatten_cons,List.flatten_nil,List.append_nil,List.singleton_append];rw [walkOf_eq (t:=(m:Int)) (by omega) (by omega)];simp
theorem rev_take {K:List Int} {j p:Nat} (h:p+1+j=K.length):(K.reverse).take (j+1)=(K.reverse).take j ++ [K.getD p 0]:=by
 rw [List.take_succ_eq_append_getElem (by simp;omega)]
 congr 2
 rw [List.getElem_reverse,List.getD_eq_getElem?_getD,List.getElem?_eq_getElem (by omega),Option.getD_some]
 congr 1
 omega
theorem implWalk_calls (s:Sys) (cs:List Value) (w:World) (hx:kSys.K w s cs) (hn:s.tasks.length<=1048576):
  Calls Try.prog 36 #[.agg cs.toArray] w fun e w'=>∃ v,e= .returned v/\(Kd.int .i64).R 3 w' w.heap.size (fun _=>True) v (walkAll s.tasks)/\Below w.heap.size w w':=by
 obtain ⟨A0,c0,A1,c1,A3,c3,rfl,l0,g0,l1,g1,l3,g3⟩:=kSys_open hx;have G:=am (And.intro g0 (And.intro g1 g3));clear g0 g1 g3;have HX:=am hx;clear hx;go_enter Try.func36,Try.ntmps36;go_wp2_with ((with_reducible refine gate_dst (N:=1) rfl ?_);refine box_event rfl (N:=1) rfl (t:=27) (by go_simp<;>rfl) ?_;intro g hg w2 hbox hb;have BK:=am hbox;have HB:=am hb;have GE:=am (show w.heap.size<=g by omega);clear hbox hb hg;have hc:=zc8 BK.out)
 go_loopw [3,13] (fun v i w'=>∃ k:Nat,k<=s.tasks.length/\i= .int .i64 k/\Aside0 (Kd.R (Kd.int .i64) 3 w' w.heap.size (fun _=>True) v (walkTo s.tasks k))/\Aside0 (w'.heap[g]? = some (.cells #[.slice A0 s.cells.length c0,.slice A1 s.tasks.length c1,.int .i64 s.clock,.slice A3 s.log.length c3] 27 (0,0)))/\Aside0 (Below w.heap.size w w')) (fun _ i _=>s.tasks.length - (intOf i).toNat)
 case atStart=>exact ⟨0,Nat.zero_le _,rfl,⟨Kd.R_nil _ _ _ _ _⟩,BK,HB⟩
 case round=>
  clear BK HB hc;obtain ⟨k,hk,rfl,HO,BK,HB⟩:=hrel;by_cases hlt:k < s.tasks.length
  · skip
    have BKc:=zc8 BK.out;obtain ⟨b,o,cs,rfl,hcl,hK,hcc,hc0⟩:=C_field (Kd.C_below G.out.2.1 HB.out) zTask k hlt (by decide);rw [show s.tasks.getD k zTask=taskAt s.tasks k from rfl] at hK;have HK:=am hK;have HCC:=am hcc;have q0:(0:Int)<=(k:Int):=by omega
    have q1:(k:Int) < (s.tasks.length:Int):=by omega
    clear hK hcc hc0;obtain ⟨B3,d3,B8,d8,B9,d9,B10,d10,hcs,_,_,_,_,_,_,_,_⟩:=kTask_open HK.out;have e2:cs.toArray[2]? = some (.int .i64 (taskAt s.tasks k).up):=by rw [hcs];rfl
    clear hcs;have HE2:=am e2;clear e2;have hwl:=walkTo_le s.tasks (k:=k+1) hlt;by_cases hy:(taskAt s.tasks k).up= -1
    ·have y1:((taskAt s.tasks k).up != -1)=false:=by simp [hy]
     have HR:=am (walkTo_yes (ts:=s.tasks) (k:=k) (by simp [isRoot,hy]));clear hy;go_wp2_with (first|((with_reducible refine gate_dst (N:=17) rfl ?_);refine wpList_load_mid rfl 38 (.tmp 16) rfl b (o+k*13) rfl cs _ HCC.out Try.underlying38 rfl (by rw [hcl];kernel_rfl) ?_)|((with_reducible refine gate_dst (N:=5) rfl ?_);refine box_event rfl (N:=5) rfl (cs:=zeroTask) (t:=38) (by go_simp<;>rfl) ?_;intro g5 hg w2 hbox hb;have BK5:=am hbox;have G5:=am (show wr.heap.size<=g5 by omega);have HW:=am hb;clear hbox hb hg)|((with_reducible refine gate_store (t:=38) (p:=5) rfl ?_);refine store_block rfl rfl 38 (.tmp 5) (.tmp 17) rfl rfl rfl BK5.out (by rw [hcl];rfl) (by rw [hcl];kernel_rfl) (kTask.K_one HK.out) ?_;intro w3 hbox hg;have BT:=am hbox;have HW3:=am (pw_below_grown HW.out _ HW.out.size hg (fun z hz=>by cases hz;exact G5.out));clear hbox hg BK5 HW;have u2:=(zc8 BT.out 2).trans HE2.out)|((with_reducible refine gate_dst (N:=22) rfl ?_);refine Kd.R_lit (w0:=w3) (Kd.int .i64) w3.heap.size 3 rfl (N:=22) rfl (xs:= [(k:Int)]) (inner:= [.int .i64 (k:Int)]) (ok:=fun _=>True) (okp:=fun _=>True) (by go_simp<;>rfl) (Kd.reps_scalar [(k:Int)]) (fun _ hk=>hk) trivial (Below.refl _ _) (Nat.le_refl _) (by simp) ?_;intro vst w5 ho hb hg hat;have HW5:=am (below_step HW3.out hb);clear hb))
     have HS:=am (Kd.R_lower (base':=w.heap.size) (Kd.R_newR ho (Kd.R_below HO.out HW3.out)) (below_size (below_step HB.out HW3.out)))
     have HO1:=am (Kd.R_after (v:=.slice none 0 0) (v1:=vst) (Kd.R_apart_nil (Kd.R_below HO.out HW3.out)) hg (by
      obtain ⟨b,hb,hle⟩:=hat;exact .inr ⟨b,hb,hle⟩))
     have BK1:=am (zb8 BK.out HW5.out);have HB1:=am (below_step HB.out HW5.out);clear ho hg hat HO BK HB HW3 HW5 BT HK HCC HE2 u2 BKc;go_loopg [3,6] (walkOf s.tasks k).length (fun gn vw vs w'=>∃ (ws st:List Int),Aside0 (Kd.R (Kd.int .i64) 3 w' w.heap.size (fun k=>True/\some k ≠ vs.ownBlock) vw ws)/\Aside0 (Kd.R (Kd.int .i64) 3 w' w.heap.size (fun k=>True/\some k ≠ vw.ownBlock) vs st)/\Aside0 (ws ++ ((st.reverse).map (walkOf s.tasks)).flatten=walkTo s.tasks (k+1))/\Aside0 (((st.reverse).map (walkOf s.tasks)).flatten.length=gn)/\Aside0 (∀ x ∈ st,0<=x/\x < (s.tasks.length:Int))/\Aside0 (w'.heap[g]? = some (.cells #[.slice A0 s.cells.length c0,.slice (some ⟨b,o,none⟩) s.tasks.length c1,.int .i64 s.clock,.slice A3 s.log.length c3] 27 (0,0)))/\Aside0 (Below w.heap.size w w'))
     case atStart=>exact ⟨walkTo s.tasks k, [(k:Int)],HO1,HS,⟨by rw [HR.out];simp⟩,⟨by simp⟩,⟨fun x hx=>by rw [List.mem_singleton.1 hx];omega⟩,BK1,HB1⟩
     case round=>
      clear HO1 HS BK1 HB1;obtain ⟨ws,st,HO,HS,HEQ,HGN,HIN,BK,HB⟩:=hrel;have BKc:=zc8 BK.out;rcases List.eq_nil_or_concat st with rfl | ⟨st,top,rfl⟩
      ·obtain ⟨As,cs',rfl⟩:=Kd.R_slice HS.out
       simp only [List.length_nil] at*;go_wp2;go_roundw
       case rel=>exact ⟨k+1,by omega,by go_num,⟨by have h:=HEQ.out;simp only [List.reverse_nil,List.map_nil,List.flatten_nil,List.append_nil] at h;rw [<-h];exact R_any HO.out⟩,BK,HB⟩
       case measure=>simp [intOf];omega
      ·simp only [List.concat_eq_append] at*
       have htop:=HIN.out top (by simp);obtain ⟨m,rfl⟩:=Int.eq_ofNat_of_zero_le htop.1;have hml:m < s.tasks.length:=by omega
       have HE2:=am (stack_step hml ws _ HEQ.out)
       have HIN2:=am (show ∀ x ∈ st ++ (kids s.tasks m).reverse,0<=x/\x < (s.tasks.length:Int) from fun x hx=>by
        rcases List.mem_append.1 hx with hx | hx
        ·exact HIN.out x (by simp [hx])
        ·obtain ⟨i,hi,_,_,_,rfl⟩:=mem_kids.1 (List.mem_reverse.1 hx)
         omega)
       have HLN:=am (show st.length+(kids s.tasks m).length<=1048576/\ws.length+1<=1048576 by
        have h1:=congrArg List.length HE2.out;have h2:=len_le_flat (ts:=s.tasks) ((st ++ (kids s.tasks m).reverse).reverse) (fun x hx=>HIN2.out x (List.mem_reverse.1 hx));simp only [List.length_append,List.length_reverse,List.length_cons,List.length_nil] at h1 h2;omega)
       have hl1:=HLN.out.1;have hl2:=HLN.out.2;clear htop;have hsl:(st ++ [(m:Int)]).length=st.length+1:=by simp
       obtain ⟨gs,cap,rfl,hg1,hg2,hg3⟩:=Kd.R_form HS.out (by omega);have q0:(0:Int)<=(st.length:Int):=by omega
       have hst:=(Kd.R_celln 0 HS.out (st.length:Int) q0 (by omega)).1;rw [show rdOf 0 (st ++ [(m:Int)]) (st.length:Int)=(m:Int) from by simp [rdOf],Int.toNat_natCast] at hst;have HS0:=HS;clear HS;have HS:=am (Kd.R_take HS0.out (m:=st.length) (by omega));rw [List.take_left' rfl] at HS;have hcap:=(Kd.R_reads' HS0.out).2.1;rw [hsl] at hcap HO HS0;clear hg3 HS0 hg2;obtain ⟨i0,hi0⟩:∃ i0,Try.prog.info? 3=some i0:=Option.isSome_iff_exists.1 (by kernel_rfl);have hcut:=cut_to 29 3 .i64 Try.underlying29 hi0 (some ⟨gs,0,none⟩) (st.length+1) cap (st.length:Int) q0 (by omega) hcap;simp only [Int.toNat_natCast] at hcut;clear hi0;rw [hsl];go_wp2_with (first|((with_reducible refine gate_builtin (b:=.append) (xs:=#[.tmp 37,.tmp 39]) rfl ?_);at_builtin;refine Kd.R_append (Kd.int .i64) (w0:=w) w.heap.size rfl (.tmp 37) (.tmp 39) 29 3 (.int .i64 0) 8 rfl Try.underlying29 info_int rfl (by decide) (by omega) _ ws (m:Int) [.int .i64 (m:Int)] (fun k=>True/\some k ≠ (Value.slice (some ⟨gs,0,none⟩) (st.length+1) cap).ownBlock) (fun _=>False) rfl rfl rfl (fun _ hk=>hk.elim) (fun k hk=>⟨trivial,Kd.fresh_ok HS.out k hk⟩) HO.out HB.out (below_size HB.out) (by first|omega|(simp only [List.length_append,List.length_cons,List.length_nil] at *;omega)) ?_;intro v1 w1 ho hb hg hat;have HS1:=am (Kd.R_after HS.out hg hat);have HO1:=am ho;have BK1:=am (blk_grown BK.out hg (Kd.R_ne HO.out BK.out (by decide)));have HB1:=am hb;clear ho hb hg hat HO HB BK HS BKc;have BKc:=zc8 BK1.out)|(go_at_call 31;refine (implKids_calls s _ (m:Int) _ (kSys_mk s l0 (Kd.C_below G.out.1 HB1.out) l1 (Kd.C_below G.out.2.1 HB1.out) l3 (Kd.C_below G.out.2.2 HB1.out)) hn).mono ?_;rintro e w2 ⟨vk,rfl,ho,hb⟩;obtain ⟨Ak,ck,rfl⟩:=Kd.R_slice ho;have HK:=am (Kd.R_lower (base':=w.heap.size) (Kd.R_newR ho HS1.out) (below_size HB1.out));have BK2:=am (zb8 BK1.out hb);have HO2:=am (Kd.R_below HO1.out hb);have HS2:=am (Kd.R_below HS1.out hb);have HB2:=am (below_step HB1.out hb);clear ho hb BK1 HO1 HB1 HS1 BKc))
       go_loopw [6,9] (fun vs i w'=>∃ (j:Nat) (x:Int),x+1+(j:Int)=((kids s.tasks m).length:Int)/\i= .int .i64 x/\ -1<=x/\Aside0 (Kd.R (Kd.int .i64) 3 w' w.heap.size (fun k=>True/\some k ≠ vs.ownBlock) v1 (ws ++ [(m:Int)]))/\Aside0 (Kd.R (Kd.int .i64) 3 w' w.heap.size (fun k=>True/\some k ≠ v1.ownBlock) vs (st ++ (kids s.tasks m).reverse.take j))/\Aside0 (Kd.R (Kd.int .i64) 3 w' w.heap.size (fun k=>True/\some k ≠ vs.ownBlock) (.slice Ak (kids s.tasks m).length ck) (kids s.tasks m))/\Aside0 (w'.heap[g]? = some (.cells #[.slice A0 s.cells.length c0,.slice (some ⟨b,o,none⟩) s.tasks.length c1,.int .i64 s.clock,.slice A3 s.log.length c3] 27 (0,0)))/\Aside0 (Below w.heap.size w w')) (fun _ i _=>(intOf i+1).toNat)
       case atStart=>exact ⟨0,_,by omega,rfl,by omega,HO2,⟨by simpa using HS2.out⟩,HK,BK2,HB2⟩
       case round=>
        clear HO2 HS2 HK BK2 HB2;obtain ⟨j,x,hx,rfl,hx1,HO,HS,HK,BK,HB⟩:=hrel;have BKc:=zc8 BK.out;by_cases hx0:0<=x
        ·obtain ⟨p,rfl⟩:=Int.eq_ofNat_of_zero_le hx0
         have hpl:p < (kids s.tasks m).length:=by omega
         have p0:(0:Int)<=(p:Int):=by omega
         have p1:(p:Int) < ((kids s.tasks m).length:Int):=by omega
         have HRT:=am (rev_take (K:=kids s.tasks m) (j:=j) (p:=p) (by omega));obtain ⟨gk,capk,he,hk1,hk2,hk3⟩:=Kd.R_form HK.out (by omega);cases he;have h_kid:=(Kd.R_celln 0 HK.out (p:Int) p0 p1).1;rw [show rdOf 0 (kids s.tasks m) (p:Int)=(kids s.tasks m).getD p 0 from rfl,Int.toNat_natCast] at h_kid;generalize (kids s.tasks m).getD p 0=q at h_kid HRT;clear hk3;go_wp2_with ((with_reducible refine gate_builtin (b:=.append) (xs:=#[.tmp 51,.tmp 56]) rfl ?_);at_builtin;refine Kd.R_append (Kd.int .i64) (w0:=w) w.heap.size rfl (.tmp 51) (.tmp 56) 29 3 (.int .i64 0) 8 rfl Try.underlying29 info_int rfl (by decide) (by omega) _ (st ++ (kids s.tasks m).reverse.take j) q [.int .i64 q] (fun k=>True/\some k ≠ v1.ownBlock) (fun _=>False) rfl rfl rfl (fun _ hk=>hk.elim) (fun k hk=>⟨trivial,Kd.fresh_ok HO.out k hk⟩) HS.out HB.out (below_size HB.out) (by have:=HLN.out;simp only [List.length_append,List.length_take,List.length_reverse];omega) ?_;intro v9 w1 ho hb hg hat;have HS1:=am ho;have HK1:=am (Kd.R_after HK.out hg hat);have HO1:=am (Kd.R_after HO.out hg hat);have BK1:=am (blk_grown BK.out hg (Kd.R_ne HS.out BK.out (by decide)));have HB1:=am hb;clear ho hb hg hat HO HB BK HS HK BKc)
         go_roundw
         case rel=>exact ⟨j+1,(p:Int) - 1,by omega,rfl,by omega,HO1,⟨by rw [HRT.out,<-List.append_assoc];exact HS1.out⟩,HK1,BK1,HB1⟩
         case measure=>simp only [intOf];omega
        ·go_wp2
         have hj:j=(kids s.tasks m).length:=by omega
         have hst2:(st ++ (kids s.tasks m).reverse.take j)=st ++ (kids s.tasks m).reverse:=by rw [hj,List.take_of_length_le (by simp)]
         have hg1:1<=gk/\((((st ++ (kids s.tasks m).reverse).reverse).map (walkOf s.tasks)).flatten).length=gk - 1:=by
          have h1:=congrArg List.length HE2.out;have h2:=congrArg List.length HEQ.out;rw [List.length_append,List.length_append,List.length_singleton] at h1;rw [List.length_append,HGN.out] at h2;omega
         go_roundg (gk - 1)
         case measure=>omega
         case rel=>exact ⟨ws ++ [(m:Int)],st ++ (kids s.tasks m).reverse,HO,⟨by rw [<-hst2];exact HS.out⟩,HE2,⟨hg1.2⟩,HIN2,BK,HB⟩
    ·have y1:((taskAt s.tasks k).up != -1)=true:=by simp [hy]
     have HR:=am (walkTo_no (ts:=s.tasks) (k:=k) (by simp [isRoot,hy]));clear hy;go_wp2_with (first|((with_reducible refine gate_dst (N:=17) rfl ?_);refine wpList_load_mid rfl 38 (.tmp 16) rfl b (o+k*13) rfl cs _ HCC.out Try.underlying38 rfl (by rw [hcl];kernel_rfl) ?_)|((with_reducible refine gate_dst (N:=5) rfl ?_);refine box_event rfl (N:=5) rfl (cs:=zeroTask) (t:=38) (by go_simp<;>rfl) ?_;intro g5 hg w2 hbox hb;have BK5:=am hbox;have G5:=am (show wr.heap.size<=g5 by omega);have HW:=am hb;clear hbox hb hg)|((with_reducible refine gate_store (t:=38) (p:=5) rfl ?_);refine store_block rfl rfl 38 (.tmp 5) (.tmp 17) rfl rfl rfl BK5.out (by rw [hcl];rfl) (by rw [hcl];kernel_rfl) (kTask.K_one HK.out) ?_;intro w3 hbox hg;have BT:=am hbox;have HW3:=am (pw_below_grown HW.out _ HW.out.size hg (fun z hz=>by cases hz;exact G5.out));clear hbox hg BK5 HW;have u2:=(zc8 BT.out 2).trans HE2.out))
     go_roundw
     case rel=>exact ⟨k+1,by omega,by go_num,⟨by rw [HR.out];exact Kd.R_below HO.out HW3.out⟩,⟨zb8 BK.out HW3.out⟩,⟨below_step HB.out HW3.out⟩⟩
     case measure=>simp [intOf];omega
  ·have BKc:=zc8 BK.out
   go_wp2;go_ret;obtain rfl:k=s.tasks.length:=by omega
   exact ⟨_,rfl,HO.out,HB.out⟩
theorem lqSame_calls (xs:List Int) (A B:Option Addr) (c d:Nat) (w:World) (hx:(Kd.int .i64).C w A xs.length xs) (hy:(Kd.int .i64).C w B xs.length xs):
  Calls Try.prog 17 #[.slice A xs.length c,.slice B xs.length d] w fun e w'=>e= .returned (.bool true)/\Below w.heap.size w w':=by
 refine (lqInts_calls xs xs A B c d w hx hy).mono ?_;rintro e w' ⟨rfl,hd⟩;exact ⟨by rw [decide_eq_true rfl],hd.below⟩
theorem under_zero (ts:List Task) (i:Int):underOf ts 0 i=false:=by
 rw [Bool.eq_false_iff];intro h;have:=under_in h;omega
theorem under_len (ts:List Task) (i:Int):underOf ts i ts.length=false:=by
 rw [Bool.eq_false_iff];intro h;have:=under_in h;omega
theorem fnTreeMain_calls (A:Option Addr) (c:Nat) (l:List Int) (w:World) (hC:(Kd.int .u8).C w A l.length l) (hc:l.length<=c) (hb:∀ i:Nat,0<=l.getD i 0/\l.getD i 0<=255):
  Calls Try.prog 12 #[.slice A l.length c] w fun e w'=>e= .returned (.bool true)/\Below w.heap.size w w':=by
 have HC:=am hC;have HL:=am hc;have HY:=am hb;clear hC hc hb;by_cases hbig:(1048576:Int) < (l.length:Int)
 ·have ybig:decide ((1048576:Int) < (l.length:Int))=true:=decide_eq_true hbig
  go_enter Try.func12,Try.ntmps12;go_wp2;go_ret;exact ⟨rfl,Below.refl _ _⟩
 ·have ybig:decide ((1048576:Int) < (l.length:Int))=false:=decide_eq_false hbig
  go_enter Try.func12,Try.ntmps12
  go_wp2_with (first
  |(go_at_call 33;refine (drawSysOk_calls A c l _ HC.out HL.out HY.out).mono ?_;rintro e wf ⟨p,s,Ac,lc,cc,Ab,lb,cb,A0,m0,c0,A1,m1,c1,yc,A3,m3,c3,rfl,hp,hpz,hs,hsz,htl,hfew,hlog,hbe⟩;obtain ⟨Q0,d0,Q1,d1,Q3,d3,he,-,-,-,hg1,-,-⟩:=kSys_open hs;simp only [List.cons.injEq,Value.slice.injEq,Value.int.injEq,true_and,and_true] at he;obtain ⟨⟨rfl,rfl,rfl⟩,⟨rfl,rfl,rfl⟩,rfl,⟨rfl,rfl,rfl⟩⟩:=he;obtain ⟨B0,e0,B1,e1,he2,-,-,-,-⟩:=kProg_open hp;simp only [List.cons.injEq,Value.slice.injEq,and_true] at he2;obtain ⟨⟨rfl,rfl,rfl⟩,⟨rfl,rfl,rfl⟩⟩:=he2;obtain ⟨b,o,-,rfl,-⟩:=C_field hg1 zTask 0 htl (by decide);have HB:=am hbe;have SK:=am hs;have G1:=am hg1;have PK:=am hp;have HPZ:=am hpz;have HSZ:=am hsz;have HN:=am (show s.tasks.length<=1048576 from Nat.le_trans hfew (by decide));have HTL:=am htl;clear hbe hs hg1 hp hpz hsz hfew htl hlog)
  |((with_reducible refine gate_dst (N:=3) rfl ?_);refine box_event rfl (N:=3) rfl (t:=48) (by go_simp<;>rfl) ?_;intro gp hg wt hbox hb;have BP0:=am hbox;have LBP:=am (Nat.le_of_eq hg.symm);have HBT:=am hb;clear hbox hb hg)
  |((with_reducible refine gate_dst (N:=4) rfl ?_);refine box_event rfl (N:=4) rfl (t:=27) (by go_simp<;>rfl) ?_;intro gs hg wt hbox hb;have NBPBS:=am (show gp ≠ gs from fun he=>by have:=blk_lt BP0.out;omega);replace BP0:=am (zb8 BP0.out hb);have BS0:=am hbox;have LBS:=am (Nat.le_trans HBT.out.size (Nat.le_of_eq hg.symm));replace HBT:=am (below_step HBT.out hb);clear hbox hb hg)
  |((with_reducible refine gate_store (t:=48) (p:=3) rfl ?_);refine store_block rfl rfl 48 (.tmp 3) (.tmp 13) rfl rfl rfl BP0.out rfl (by kernel_rfl) (aB rfl) ?_;intro wn hbox hg;have BP:=am hbox;replace BS0:=am (blk_grown BS0.out hg (fun he=>NBPBS.out (by injection he with he;exact he.symm)));replace HBT:=am (pw_below_grown HBT.out _ HBT.out.size hg (fun z hz=>by cases hz;exact LBP.out));clear BP0 hbox hg)
  |((with_reducible refine gate_store (t:=27) (p:=4) rfl ?_);refine store_block rfl rfl 27 (.tmp 4) (.tmp 14) rfl rfl rfl BS0.out rfl (by kernel_rfl) (aB rfl) ?_;intro wn hbox hg;have BS:=am hbox;replace BP:=am (blk_grown BP.out hg (fun he=>NBPBS.out (by injection he)));replace HBT:=am (pw_below_grown HBT.out _ HBT.out.size hg (fun z hz=>by cases hz;exact LBS.out));clear BS0 hbox hg;have hbT:=HBT.out;clear HBT;replace HB:=am (below_step HB.out hbT);replace SK:=am (kSys.K_below hbT SK.out);replace G1:=am (Kd.C_below G1.out hbT);replace PK:=am (kProg.K_below hbT PK.out);clear hbT;have BPc:=zc8 BP.out;have BSc:=zc8 BS.out)
  |((with_reducible refine gate_dst (N:=15) rfl ?_);refine wpList_load_mid rfl 27 (.tmp 4) rfl gs 0 rfl _ _ (lC BS.out) Try.underlying27 rfl (by kernel_rfl) ?_)
  |((with_reducible refine gate_dst (N:=18) rfl ?_);refine wpList_load_mid rfl 27 (.tmp 4) rfl gs 0 rfl _ _ (lC BS.out) Try.underlying27 rfl (by kernel_rfl) ?_)
  |(go_at_call 36;refine (implWalk_calls s _ _ SK.out HN.out).mono ?_;rintro e wn ⟨v,rfl,hv,hb⟩;obtain ⟨Ak,ck,ev,-,hcv⟩:=Kd.R_reads hv;subst ev;have KV:=am hcv;clear hv hcv;replace HB:=am (below_step HB.out hb);replace SK:=am (kSys.K_below hb SK.out);replace G1:=am (Kd.C_below G1.out hb);replace PK:=am (kProg.K_below hb PK.out);replace BP:=am (zb8 BP.out hb);replace BS:=am (zb8 BS.out hb);clear BPc BSc hb;have BPc:=zc8 BP.out;have BSc:=zc8 BS.out)
  |(go_at_call 37;refine (specWalk_calls s _ _ SK.out HN.out).mono ?_;rintro e wn ⟨v,rfl,hv,hb⟩;obtain ⟨Av,cv,ev,-,hcv⟩:=Kd.R_reads hv;subst ev;have KU:=am hcv;clear hv hcv;replace HB:=am (below_step HB.out hb);replace SK:=am (kSys.K_below hb SK.out);replace G1:=am (Kd.C_below G1.out hb);replace PK:=am (kProg.K_below hb PK.out);replace BP:=am (zb8 BP.out hb);replace BS:=am (zb8 BS.out hb);replace KV:=am (Kd.C_below KV.out hb);clear BPc BSc hb;have BPc:=zc8 BP.out;have BSc:=zc8 BS.out)
  |(go_at_call 17;refine (lqSame_calls (walkAll s.tasks) Ak Av ck cv _ KV.out KU.out).mono ?_;rintro e wn ⟨rfl,hb⟩;replace HB:=am (below_step HB.out hb);replace SK:=am (kSys.K_below hb SK.out);replace G1:=am (Kd.C_below G1.out hb);replace PK:=am (kProg.K_below hb PK.out);replace BP:=am (zb8 BP.out hb);replace BS:=am (zb8 BS.out hb);replace KV:=am (Kd.C_below KV.out hb);clear BPc BSc hb;have BPc:=zc8 BP.out;have BSc:=zc8 BS.out)
  |((with_reducible refine gate_dst (N:=23) rfl ?_);refine wpList_load_mid rfl 48 (.tmp 3) rfl gp 0 rfl _ _ (lC BP.out) Try.underlying48 rfl (by kernel_rfl) ?_)
  |((with_reducible refine gate_dst (N:=24) rfl ?_);refine wpList_load_mid rfl 27 (.tmp 4) rfl gs 0 rfl _ _ (lC BS.out) Try.underlying27 rfl (by kernel_rfl) ?_)
  |(go_at_call 34;fail))
  refine (sysOk_calls p _ s _ _ PK.out SK.out HPZ.out HSZ.out).mono ?_;rintro e wn ⟨rfl,hb⟩;replace HB:=am (below_step HB.out hb);replace SK:=am (kSys.K_below hb SK.out);replace G1:=am (Kd.C_below G1.out hb);replace PK:=am (kProg.K_below hb PK.out);replace BP:=am (zb8 BP.out hb);replace BS:=am (zb8 BS.out hb);replace KV:=am (Kd.C_below KV.out hb);clear BPc BSc hb;have BPc:=zc8 BP.out;have BSc:=zc8 BS.out;clear KU;obtain ⟨ok,hok⟩:∃ z,sysOk p s=z:=⟨_,rfl⟩;have OK:=am hok;rw [hok];clear hok
  cases ok with
  | false=>
   go_wp2_with (first
   |((with_reducible refine gate_dst (N:=29) rfl ?_);refine wpList_load_mid rfl 27 (.tmp 4) rfl gs 0 rfl _ _ (lC BS.out) Try.underlying27 rfl (by kernel_rfl) ?_)
   |(go_at_call 37;refine (specWalk_calls s _ _ SK.out HN.out).mono ?_;rintro e wn ⟨v,rfl,hv,hb⟩;obtain ⟨Av,cv,ev,-,hcv⟩:=Kd.R_reads hv;subst ev;have KU:=am hcv;clear hv hcv;replace HB:=am (below_step HB.out hb);replace SK:=am (kSys.K_below hb SK.out);replace G1:=am (Kd.C_below G1.out hb);replace PK:=am (kProg.K_below hb PK.out);replace BP:=am (zb8 BP.out hb);replace BS:=am (zb8 BS.out hb);replace KV:=am (Kd.C_below KV.out hb);clear BPc BSc hb;have BPc:=zc8 BP.out;have BSc:=zc8 BS.out)
   |(go_at_call 17;refine (lqSame_calls (walkAll s.tasks) Ak Av ck cv _ KV.out KU.out).mono ?_;rintro e wn ⟨rfl,hb⟩;replace HB:=am (below_step HB.out hb);replace SK:=am (kSys.K_below hb SK.out);replace G1:=am (Kd.C_below G1.out hb);replace PK:=am (kProg.K_below hb PK.out);replace BP:=am (zb8 BP.out hb);replace BS:=am (zb8 BS.out hb);replace KV:=am (Kd.C_below KV.out hb);clear BPc BSc hb;have BPc:=zc8 BP.out;have BSc:=zc8 BS.out))
   go_ret
   exact ⟨rfl,HB.out⟩
  | true=>
   have H7:=am (ok_parts OK.out).2.1;go_wp2;go_loopw [6] (fun i w'=>∃ k:Nat,k<=s.tasks.length/\i= .int .i64 k/\Aside0 (w'.heap[gp]? = some (.cells #[.slice Ac p.cells.length cc,.slice Ab p.bodies.length cb] 48 (0,0)))/\Aside0 (kProg.K w' p [.slice Ac p.cells.length cc,.slice Ab p.bodies.length cb])/\Aside0 (w'.heap[gs]? = some (.cells #[.slice A0 s.cells.length c0,.slice (some ⟨b,o,none⟩) s.tasks.length c1,.int .i64 s.clock,.slice A3 s.log.length c3] 27 (0,0)))/\Aside0 (kTask.C w' (some ⟨b,o,none⟩) s.tasks.length s.tasks)/\Aside0 (kSys.K w' s [.slice A0 s.cells.length c0,.slice (some ⟨b,o,none⟩) s.tasks.length c1,.int .i64 s.clock,.slice A3 s.log.length c3])/\Aside0 (Below w.heap.size w w')) (fun i _=>s.tasks.length - (intOf i).toNat)
   case atStart=>exact ⟨0,Nat.zero_le _,rfl,BP,PK,BS,G1,SK,HB⟩
   case round=>
    clear BP BS G1 SK PK HB BPc BSc KV;obtain ⟨k,hk,rfl,BP,PK,BS,G1,SK,HB⟩:=hrel;have BSc:=zc8 BS.out;have BPc:=zc8 BP.out;have h7:=H7.out;by_cases hlt:k < s.tasks.length
    ·have q1:(k:Int) < (s.tasks.length:Int):=by omega
     go_wp2_with (first
     |((with_reducible refine gate_dst (N:=39) rfl ?_);refine wpList_load_mid rfl 27 (.tmp 4) rfl gs 0 rfl _ _ (lC BS.out) Try.underlying27 rfl (by kernel_rfl) ?_)
     |((with_reducible refine gate_dst (N:=43) rfl ?_);refine wpList_load_mid rfl 27 (.tmp 4) rfl gs 0 rfl _ _ (lC BS.out) Try.underlying27 rfl (by kernel_rfl) ?_)
     |(go_at_call 21;refine (implUnder_calls s _ _ _ _ SK.out HN.out).mono ?_;(first|rw [under_zero] | rw [under_len]);rintro e wn ⟨rfl,hb⟩;replace HB:=am (below_step HB.out hb);replace SK:=am (kSys.K_below hb SK.out);replace G1:=am (Kd.C_below G1.out hb);replace PK:=am (kProg.K_below hb PK.out);replace BP:=am (zb8 BP.out hb);replace BS:=am (zb8 BS.out hb);clear BPc BSc hb;have BPc:=zc8 BP.out;have BSc:=zc8 BS.out))
     go_roundw
     case rel=>exact ⟨k+1,by omega,by go_num,BP,PK,BS,G1,SK,HB⟩
     case measure=>simp [intOf];omega
    ·have q1:¬ (k:Int) < (s.tasks.length:Int):=by omega
     have p1:(0:Int) < (s.tasks.length:Int):=by omega
     have gw:=task_way G1.out (i:=0) (by omega);have gw2:wr.cell? ⟨b,o+4,none⟩=some (.int .i64 (taskAt s.tasks 0).way):=by simpa using gw
     by_cases h4:(taskAt s.tasks 0).way=4
     ·have y4:((taskAt s.tasks 0).way != 4)=false:=by simp [h4]
      have LE:=am (ok_main OK.out h4);clear h4
      go_wp2_with (first
      |((with_reducible refine gate_dst (N:=57) rfl ?_);refine wpList_load_mid rfl 27 (.tmp 4) rfl gs 0 rfl _ _ (lC BS.out) Try.underlying27 rfl (by kernel_rfl) ?_)
      |(go_at_call 19;refine (implLive_calls s _ _ SK.out HN.out).mono ?_;rw [LE.out];rintro e wn ⟨v,rfl,hv,hb⟩;obtain ⟨Al,cl,ev,-,hcv⟩:=Kd.R_reads hv;subst ev;clear hv hcv;replace HB:=am (below_step HB.out hb);replace SK:=am (kSys.K_below hb SK.out);replace G1:=am (Kd.C_below G1.out hb);replace PK:=am (kProg.K_below hb PK.out);replace BP:=am (zb8 BP.out hb);replace BS:=am (zb8 BS.out hb);clear BPc BSc hb;have BPc:=zc8 BP.out;have BSc:=zc8 BS.out))
      go_ret;exact ⟨rfl,HB.out⟩
     ·have y4:((taskAt s.tasks 0).way != 4)=true:=by simp [h4]
      clear h4;go_wp2;go_ret;exact ⟨rfl,HB.out⟩
end Go.Proofs.Ytimamoimphjakaa.Eq
namespace Go.Proofs.Ytimamoimphjakaa.fnTreeMain
open Go.ChangeShapes Go.WideShapes Go.ChangeAt Go.RowKit Go.Proofs.YtimamoimphjakaaW.PrintWords
theorem own:ownKnob Try.prog.godebug=none:=by kernel_rfl
theorem laidOut:laidOutB Try.prog=true:=by kernel_rfl
def IsRow (k:IntKind) (w:World) (a:Option Addr) (len cap:Nat) (zs:List Int):Prop:=
 (a=none/\len=0/\cap=0/\zs= [])\/
 ∃ x,a=some x/\len<=cap/\cap<=maxLen/\zs.length=cap/\(∀ i,i < zs.length->w.cell? (x.add i)=some (.int k (zs.getD i 0)))/\∀ n ∈ zs,(Lit.int k n).wf=true
theorem bytes {l:List Int} (h:∀ x ∈ l,(Lit.int .u8 x).wf=true) (i:Nat):0<=l.getD i 0/\l.getD i 0<=255:=by
 have:=range_u8 h i
 rwa [List.getD_eq_getElem?_getD]
theorem lifted (os:Os) (started:os.Started) (H:Type) (enc:TypeId × Value->H):
  ReturnsInHanded {} Try.checked os 12 .any (Rows.fnTreeMainSpec.pre6 enc Try.prog Try.f12 Rows.fnTreeMainRow.domain false) (Rows.fnTreeMainSpec.post enc Try.prog Try.f12 false true false false):=by
 refine returnsInHanded_of_change_sized (C:=Try.checked) own started (by kernel_rfl) Try.func12
  (ChangeSpec.witness6 (enc:=enc) (C:=Try.checked) false ⟨#[],#[.slice none 0 0], []⟩ 8 (by kernel_rfl) (by kernel_rfl) (by kernel_rfl) (by kernel_rfl)) ?_
 intro W base args ds gs before hval0 hW hcnd hsz0 _;have hval:∀ (j:Nat) t v,Try.f12.params[j]? = some t->args[j]? = some v->Value.okWide Try.prog W .any base t v:=hval0;have hW':=hW;obtain ⟨p,q,hA0,hV,rfl,hfz,hnd⟩:=hW;have hA:DataW.TrodAll enc Try.prog W 0 (fun _=>true) true Try.f12.params.toList args.toList ds p:=hA0;rw [Try.params12] at hA hval;obtain ⟨v0,vs0,d0,ds0,p0,q0,hargs,rfl,rfl,h0,r0⟩:=trodAll_cons hA;obtain ⟨rfl,rfl,rfl⟩:=trodAll_nil r0;obtain rfl:args= #[v0]:=by cases args;simp_all
 obtain ⟨rfl,rfl⟩:=trodVars_none hV;obtain ⟨a0,len0,cap0,rfl⟩:=okWide_slice Try.underlying22 (hval 0 22 v0 rfl rfl);have k0:=h0;have lt0:∀ x ∈ p0,x.block < W.heap.size:=by obtain ⟨m,hm⟩:=k0;exact DataW.trod_lt m _ _ _ hm
 obtain ⟨z0,w0⟩:∃ zs,IsRow .u8 W a0 len0 cap0 zs:=by
  obtain ⟨fuel,hf⟩:=h0;rcases open_ints Try.underlying22 Try.underlying5 (by kernel_rfl) hf with ⟨hcs,_⟩ | ⟨x,l,c,zs,hcs,_,hl,hm,hz,_,hcell,hwz⟩
  ·simp [Value.cells] at hcs
   obtain ⟨rfl,rfl,rfl⟩:=hcs;exact ⟨[],.inl ⟨rfl,rfl,rfl,rfl⟩⟩
  ·simp [Value.cells] at hcs
   obtain ⟨rfl,rfl,rfl⟩:=hcs;exact ⟨zs,.inr ⟨_,rfl,hl,hm,by simpa using hz,hcell,hwz⟩⟩
 obtain ⟨l0,rfl,hr0,hm0,hw0,hc0⟩:=ReadsInt.ofRowC w0;refine (Eq.fnTreeMain_calls a0 cap0 l0 W (Kd.C_of_reads (d:=(0:Int)) (h1:=fun _=>rfl) hr0) hc0 (bytes hw0)).mono fun e W' ⟨he,bel⟩=> ?_
 subst he;exact ⟨_,rfl,_,_,_, [],_, [],hW',trodAll_mk1 (shut_bool Try.underlying4 _),(trodAll_cons_mk (Below.trod laidOut (by kernel_rfl) (of_decide_eq_true (by kernel_rfl)) k0 bel lt0) trodAll_mk0),rfl,bel.frame _,fun h=>by cases h⟩
theorem over:Rows.fnTreeMainRow.holds Try.pinned (OpenSpec.ofChange Rows.fnTreeMainSpec):=
 OpenClaim.holds_of_wide 12 Try.f12 rfl rfl rfl rfl rfl rfl rfl ⟨rfl,rfl,rfl,rfl,rfl⟩ rfl rfl rfl rfl rfl (by kernel_rfl) Try.func12 (by kernel_rfl)
  (of_decide_eq_true (by kernel_rfl)) (by unfold Func.isWrapper;first|(rw [if_pos (by decide +kernel)];kernel_rfl)|(rw [if_neg (by decide +kernel)];exact ⟨rfl,rfl⟩))
  (fun os started H enc _=>lifted os started H enc)
theorem proved:Rows.FnTreeMainSaid:=over
end Go.Proofs.Ytimamoimphjakaa.fnTreeMain
namespace Go.Proofs.Ytimamoimphjakaa
theorem fnTreeMain_holds:Rows.FnTreeMainSaid:=fnTreeMain.proved
end Go.Proofs.Ytimamoimphjakaa
