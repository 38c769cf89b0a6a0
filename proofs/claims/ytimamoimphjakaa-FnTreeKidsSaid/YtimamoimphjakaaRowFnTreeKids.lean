/- The law FnTreeKids: it returns true whatever the input, and the input reads as it did. No conditions. -/
import Derived.Test.YtimamoimphjakaaRows
import Derived.Test.YtimamoimphjakaaZ6
import Derived.ChangeOld
import Derived.OpenShut
import Derived.ProofKit
import Derived.ShutString
import Derived.SizedLaws
set_option maxHeartbeats 8000000
set_option maxRecDepth 100000
set_option linter.unusedVariables false
set_option linter.unusedSimpArgs false
namespace Go.Proofs.Ytimamoimphjakaa.Eq
open Go.RowKit Go.Proofs.YtimamoimphjakaaW.PrintWords Go.Proofs.YtimamoimphjakaaW.PrintLast Go.Proofs.YtimamoimphjakaaW.PrintMore
theorem specKids_calls (s:Sys) (cs:List Value) (task:Int) (w:World) (hx:kSys.K w s cs) (hn:s.tasks.length<=1048576):
  Calls Try.prog 32 #[.agg cs.toArray,.int .i64 task] w fun e w'=>∃ v,e= .returned v/\(Kd.int .i64).R 3 w' w.heap.size (fun _=>True) v (kids s.tasks task)/\Below w.heap.size w w':=by
 obtain ⟨A0,c0,A1,c1,A3,c3,rfl,l0,g0,l1,g1,l3,g3⟩:=kSys_open hx;have G:=am g1;clear g0 g1 g3 l0 l1 l3 hx;go_enter Try.func32,Try.ntmps32;go_wp2_with (first|((with_reducible refine gate_dst (N:=2) rfl ?_);refine box_event rfl (N:=2) rfl (t:=27) (by go_simp<;>rfl) ?_;intro g hg w2 hbox hb;have BK:=am hbox;have HB:=am hb;have GE:=am (show w.heap.size<=g by omega);clear hbox hb hg;have hc:=zc8 BK.out)|((with_reducible refine gate_dst (N:=7) rfl ?_);refine Kd.R_lit (w0:=w) (Kd.int .i64) w.heap.size 3 rfl (N:=7) rfl (xs:=([]:List Int)) (inner:= []) (ok:=fun _=>True) (okp:=fun _=>True) (by go_simp<;>rfl) (Reps.none _ _) (fun _ hk=>hk) trivial HB.out (below_size HB.out) (by simp) ?_;intro v0 w3 ho hb hg _;have BK1:=am (blk_grown BK.out hg (by simp));have HO1:=am ho;have HB1:=am hb;clear ho hb hg HB BK hc;have hc:=zc8 BK1.out))
 go_loopw [5,6] (fun v i w'=>∃ k:Nat,k<=s.tasks.length/\i= .int .i64 k/\Aside0 ((Kd.int .i64).R 3 w' w.heap.size (fun _=>True) v (pickTo (isKid s.tasks task) k))/\Aside0 (w'.heap[g]? = some (.cells #[.slice A0 s.cells.length c0,.slice A1 s.tasks.length c1,.int .i64 s.clock,.slice A3 s.log.length c3] 27 (0,0)))/\Aside0 (Below w.heap.size w w')) (fun _ i _=>s.tasks.length - (intOf i).toNat)
 case atStart=>exact ⟨0,Nat.zero_le _,rfl,HO1,BK1,HB1⟩
 case round=>
  clear HO1 BK1 HB1 hc;obtain ⟨k,hk,rfl,HO,BK,HB⟩:=hrel;have hlen:=pickTo_length (isKid s.tasks task) k;by_cases hlt:k < s.tasks.length
  · skip
    have BKc:=zc8 BK.out;obtain ⟨b,o,cs,rfl,hcl,hK,hcc,hc0⟩:=C_field (Kd.C_below G.out HB.out) zTask k hlt (by decide);rw [show s.tasks.getD k zTask=taskAt s.tasks k from rfl] at hK;obtain ⟨B3,d3,B8,d8,B9,d9,B10,d10,rfl,_,_,_,_,_,_,_,_⟩:=kTask_open hK;have h_up:=hcc 2 _ rfl;simp only [show kTask.sz=13 from rfl] at h_up;clear hcc hc0 hK hcl;have q0:(0:Int)<=(k:Int):=by omega
    have q1:(k:Int) < (s.tasks.length:Int):=by omega
    by_cases h0:0<=task
    ·have y0:decide (0<=task)=true:=decide_eq_true h0
     by_cases hy:(taskAt s.tasks k).up=task
     ·have y1:((taskAt s.tasks k).up == task)=true:=by simp [hy]
      have HU:=am hy;clear hy;by_cases hz:task < (k:Int)
      ·have y2:decide (task < (k:Int))=true:=decide_eq_true hz
       have HY:=am (show isKid s.tasks task k=true by simp [isKid,HU.out,h0,hz]);go_wp2_with (first|((with_reducible refine gate_builtin (b:=.append) (xs:=#[.tmp 32,.tmp 34]) rfl ?_);at_builtin;refine Kd.R_append (Kd.int .i64) (w0:=w) w.heap.size rfl (.tmp 32) (.tmp 34) 29 3 (.int .i64 0) 8 rfl Try.underlying29 info_int rfl (by decide) (by omega) _ (pickTo (isKid s.tasks task) k) (k:Int) [.int .i64 (k:Int)] (fun _=>True) (fun _=>False) rfl rfl rfl (fun _ hk=>hk.elim) (fun _ _=>trivial) HO.out HB.out (below_size HB.out) (by omega) ?_;intro v1 w1 ho hb hg _;have BK1:=am (blk_grown BK.out hg (Kd.R_ne HO.out BK.out (by decide)));have HO1:=am ho;have HB1:=am hb;clear ho hb hg HO HB BK))
       go_roundw
       case rel=>exact ⟨k+1,by omega,by go_num,⟨by rw [pickTo_yes (HY.out)];exact HO1.out⟩,BK1,HB1⟩
       case measure=>simp [intOf];omega
      ·have y2:decide (task < (k:Int))=false:=decide_eq_false hz
       have HY:=am (show isKid s.tasks task k=false by simp [isKid,hz]);go_wp2;go_roundw
       case rel=>exact ⟨k+1,by omega,by go_num,⟨by rw [pickTo_no (HY.out)];exact HO.out⟩,BK,HB⟩
       case measure=>simp [intOf];omega
     ·have y1:((taskAt s.tasks k).up == task)=false:=by simp [hy]
      have HY:=am (show isKid s.tasks task k=false by simp [isKid,hy]);clear hy;go_wp2;go_roundw
      case rel=>exact ⟨k+1,by omega,by go_num,⟨by rw [pickTo_no (HY.out)];exact HO.out⟩,BK,HB⟩
      case measure=>simp [intOf];omega
    ·have y0:decide (0<=task)=false:=decide_eq_false h0
     have HY:=am (show isKid s.tasks task k=false by simp [isKid,h0]);go_wp2;go_roundw
     case rel=>exact ⟨k+1,by omega,by go_num,⟨by rw [pickTo_no (HY.out)];exact HO.out⟩,BK,HB⟩
     case measure=>simp [intOf];omega
  ·have BKc:=zc8 BK.out
   go_wp2;go_ret;obtain rfl:k=s.tasks.length:=by omega
   exact ⟨_,rfl,HO.out,HB.out⟩
theorem agree_all {α:Type} (xs ys:List α) (hl:xs.length=ys.length) (h:∀ j,j < xs.length->xs[j]? = ys[j]?):xs=ys:=by
 apply List.ext_getElem?;intro j;by_cases hj:j < xs.length
 ·exact h j hj
 ·rw [List.getElem?_eq_none (by omega),List.getElem?_eq_none (by omega)]
theorem agree_step {α:Type} {xs ys:List α} {k:Nat} {z:α} (H:∀ j,j < k->xs[j]? = ys[j]?) (h1:k < xs.length) (h2:k < ys.length) (he:xs.getD k z=ys.getD k z) {j:Nat} (hj:j < k+1):xs[j]? = ys[j]? :=by
 by_cases h:j < k
 ·exact H j h
 ·obtain rfl:j=k:=by omega
  simp only [List.getD_eq_getElem?_getD] at he;rw [List.getElem?_eq_getElem (by omega),List.getElem?_eq_getElem (by omega)] at he ⊢;simpa using he
theorem lqInts_calls (xs ys:List Int) (A B:Option Addr) (c d:Nat) (w:World) (hx:(Kd.int .i64).C w A xs.length xs) (hy:(Kd.int .i64).C w B ys.length ys):
  Calls Try.prog 17 #[.slice A xs.length c,.slice B ys.length d] w fun e w'=>e= .returned (.bool (decide (xs=ys)))/\Drawn0 w w':=by
 have HX:=am hx;have HY:=am hy;have hm:=Kd.C_max hx;clear hx hy;by_cases hl:xs.length=ys.length
 ·have hlb:((xs.length:Int) != (ys.length:Int))=false:=by rw [hl];simp
  have HL:=am hl;clear hl;go_enter Try.func17,Try.ntmps17;go_wp2;have HLB:=am hlb;clear hlb;go_loopw [5] (fun v w'=>∃ k:Nat,k<=xs.length/\v= .int .i64 k/\Aside0 (∀ j,j < k->xs[j]? = ys[j]?)/\Drawn0 w w') (fun v _=>xs.length - (intOf v).toNat)
  case atStart=>exact ⟨0,Nat.zero_le _,rfl,⟨fun j hj=>by omega⟩,Drawn0.refl _⟩
  case round=>
   obtain ⟨k,hk,rfl,HJ,HD⟩:=hrel;obtain ⟨n,rfl⟩:=HD.out;clear HD;by_cases hlt:k < xs.length
   ·have hlt2:k < ys.length:=by rw [<-HL.out];exact hlt
    have h0:(0:Int)<=(k:Int):=by omega
    have h1:(k:Int) < (xs.length:Int):=by omega
    have h2:(k:Int) < (ys.length:Int):=by omega
    obtain ⟨ax,rfl,gx⟩:=Kd.at_int HX.out (k:Int) (by omega) h1;obtain ⟨ay,rfl,gy⟩:=Kd.at_int HY.out (k:Int) (by omega) h2;simp only [Int.toNat_natCast] at gx gy;by_cases he:rd xs k=rd ys k
    ·have heb:(rd xs k != rd ys k)=false:=by simp [he]
     have HE:=am he;clear he;go_wp2;go_quiet (fail);go_wp2;go_roundw
     case rel=>exact ⟨k+1,by omega,by go_num,⟨fun j hj=>agree_step HJ.out hlt hlt2 HE.out hj⟩,⟨⟨_,rfl⟩⟩⟩
     case measure=>simp [intOf];omega
    ·have heb:(rd xs k != rd ys k)=true:=by simp [he]
     have HE:=am he;clear he;go_wp2;go_quiet (fail);go_wp2;go_ret;exact ⟨ret_bool (decide_eq_false (fun h=>HE.out (by rw [h]))).symm,Drawn0.step ⟨⟨n,rfl⟩⟩ _⟩
   ·go_wp2
    go_ret;exact ⟨ret_bool (decide_eq_true (agree_all xs ys HL.out (fun j hj=>HJ.out j (by omega)))).symm,⟨⟨n,rfl⟩⟩⟩
 ·have hlb:((xs.length:Int) != (ys.length:Int))=true:=by simp;omega
  have hlc:(xs.length != ys.length)=true:=by simp;omega
  have hld:(xs.length == ys.length)=false:=by simp;omega
  have HL:=am hl;clear hl;go_enter Try.func17,Try.ntmps17;go_wp2;go_ret;exact ⟨ret_bool (decide_eq_false (fun h=>HL.out (by rw [h]))).symm,Drawn0.refl _⟩
def upB (xs:List Int):Bool:=decide (∀ j:Nat,j < xs.length->1<=j->rd xs ((j:Int) - 1) < rd xs j)
theorem lqUp_calls (xs:List Int) (A:Option Addr) (c:Nat) (w:World) (hx:(Kd.int .i64).C w A xs.length xs):
  Calls Try.prog 29 #[.slice A xs.length c] w fun e w'=>e= .returned (.bool (upB xs))/\Drawn0 w w':=by
 have HX:=am hx;have hm:=Kd.C_max hx;clear hx;go_enter Try.func29,Try.ntmps29;go_wp2;go_loopw [3] (fun v w'=>∃ k:Nat,1<=k/\k<=xs.length+1/\v= .int .i64 k/\Aside0 (∀ j:Nat,1<=j->j < k->j < xs.length->rd xs ((j:Int) - 1) < rd xs j)/\Drawn0 w w') (fun v _=>xs.length+1 - (intOf v).toNat)
 case atStart=>exact ⟨1,Nat.le_refl _,by omega,rfl,⟨fun j hj=>by omega⟩,Drawn0.refl _⟩
 case round=>
  obtain ⟨k,hk1,hk,rfl,HJ,HD⟩:=hrel;obtain ⟨m,rfl⟩:=HD.out;clear HD;by_cases hlt:k < xs.length
  ·have h0:(0:Int)<=(k:Int):=by omega
   have h1:(k:Int) < (xs.length:Int):=by omega
   obtain ⟨j9,hj9⟩:∃ j:Int,wrap64 ((k:Int) - 1)=j:=⟨_,rfl⟩;have wi:IntKind.i64.wrap ((k:Int) - 1)=j9:=(i64_w _).trans hj9;have J9:=am (show j9=(k:Int) - 1 by rw [<-hj9];unfold wrap64;omega);have g0:(0:Int)<=j9:=by have:=J9.out;omega
   have g1:j9 < (xs.length:Int):=by have:=J9.out;omega
   obtain ⟨ax,rfl,gx⟩:=Kd.at_int HX.out (k:Int) (by omega) h1;obtain ⟨ay,hay,gy⟩:=Kd.at_int HX.out j9 g0 g1;cases hay;simp only [Int.toNat_natCast] at gx;by_cases he:rd xs k<=rd xs j9
   ·have heb:decide (rd xs k<=rd xs j9)=true:=decide_eq_true he
    have HE:=am he;clear he;go_wp2;go_quiet (fail);go_wp2;go_ret;exact ⟨ret_bool (decide_eq_false (fun h=>by have h2:=h k hlt hk1;have:=HE.out;rw [J9.out] at this;omega)).symm,Drawn0.step ⟨⟨m,rfl⟩⟩ _⟩
   ·have heb:decide (rd xs k<=rd xs j9)=false:=decide_eq_false he
    have HE:=am he;clear he;go_wp2;go_quiet (fail);go_wp2;go_roundw
    case rel=>exact ⟨k+1,by omega,by omega,by go_num,⟨fun j j1 j2 j3=>by rcases Nat.lt_or_ge j k with h | h;exact HJ.out j j1 h j3;rw [show j=k by omega];have:=HE.out;rw [J9.out] at this;omega⟩,⟨⟨_,rfl⟩⟩⟩
    case measure=>simp [intOf];omega
  ·have h1:¬ (k:Int) < (xs.length:Int):=by omega
   go_wp2;go_ret;exact ⟨ret_bool (decide_eq_true (fun j j2 j1=>HJ.out j j1 (by omega) j2)).symm,⟨⟨m,rfl⟩⟩⟩
end Go.Proofs.Ytimamoimphjakaa.Eq
namespace Go.Proofs.Ytimamoimphjakaa.Eq
theorem mem_pickTo {p:Nat->Bool} {k:Nat} {x:Int}:x ∈ pickTo p k ↔ ∃ i:Nat,i < k/\p i=true/\x=(i:Int):=by
 simp only [pickTo,List.mem_map,List.mem_filter,List.mem_range];constructor
 ·rintro ⟨i,⟨h1,h2⟩,rfl⟩;exact ⟨i,h1,h2,rfl⟩
 ·rintro ⟨i,h1,h2,rfl⟩;exact ⟨i,⟨h1,h2⟩,rfl⟩
theorem mem_kids {ts:List Task} {t x:Int}:x ∈ kids ts t ↔ ∃ i:Nat,i < ts.length/\0<=t/\(taskAt ts i).up=t/\t < (i:Int)/\x=(i:Int):=by
 simp only [kids,mem_pickTo,isKid,Bool.and_eq_true,decide_eq_true_eq];constructor
 ·rintro ⟨i,h1,⟨⟨h2,h3⟩,h4⟩,rfl⟩;exact ⟨i,h1,h2,h3,h4,rfl⟩
 ·rintro ⟨i,h1,h2,h3,h4,rfl⟩;exact ⟨i,h1,⟨⟨h2,h3⟩,h4⟩,rfl⟩
end Go.Proofs.Ytimamoimphjakaa.Eq
namespace Go.Proofs.Ytimamoimphjakaa.Eq
open Go.RowKit Go.Proofs.YtimamoimphjakaaW.PrintWords Go.Proofs.YtimamoimphjakaaW.PrintLast Go.Proofs.YtimamoimphjakaaW.PrintMore
theorem implKids_calls (s:Sys) (cs:List Value) (task:Int) (w:World) (hx:kSys.K w s cs) (hn:s.tasks.length<=1048576):
  Calls Try.prog 31 #[.agg cs.toArray,.int .i64 task] w fun e w'=>∃ v,e= .returned v/\(Kd.int .i64).R 3 w' w.heap.size (fun _=>True) v (kids s.tasks task)/\Below w.heap.size w w':=by
 obtain ⟨A0,c0,A1,c1,A3,c3,rfl,l0,g0,l1,g1,l3,g3⟩:=kSys_open hx;have G:=am g1;clear g0 g1 g3 l0 l1 l3 hx;go_enter Try.func31,Try.ntmps31;by_cases hp:0<=task/\task < s.tasks.length
 ·obtain ⟨m,rfl⟩:=Int.eq_ofNat_of_zero_le hp.1
  have hm:m < s.tasks.length:=by omega
  have HP:=am (show (decide (0<=(m:Int)) && decide ((m:Int) < (s.tasks.length:Int)))=true by simp;omega);clear hp;go_wp2_with (first|((with_reducible refine gate_dst (N:=2) rfl ?_);refine box_event rfl (N:=2) rfl (t:=27) (by go_simp<;>rfl) ?_;intro g hg w2 hbox hb;have BK:=am hbox;have HB:=am hb;have GE:=am (show w.heap.size<=g by omega);clear hbox hb hg;have hc:=zc8 BK.out)|(go_at_call 51;refine (isPlace_calls _ _ _).mono ?_;rw [HP.out];rintro e w1 ⟨rfl,rfl⟩))
  go_loopw [5,6] (fun v i w'=>∃ k:Nat,m+1<=k/\k<=s.tasks.length/\i= .int .i64 k/\Aside0 ((Kd.int .i64).R 3 w' w.heap.size (fun _=>True) v (pickTo (isKid s.tasks m) k))/\Aside0 (w'.heap[g]? = some (.cells #[.slice A0 s.cells.length c0,.slice A1 s.tasks.length c1,.int .i64 s.clock,.slice A3 s.log.length c3] 27 (0,0)))/\Aside0 (Below w.heap.size w w')) (fun _ i _=>s.tasks.length - (intOf i).toNat)
  case atStart=>exact ⟨m+1,Nat.le_refl _,hm,by go_num,⟨by rw [pickTo_none (fun i hi=>by unfold isKid;have:¬ (m:Int) < (i:Int):=(by omega);simp [this])];exact Kd.R_nil _ _ _ _ _⟩,BK,HB⟩
  case round=>
   clear BK HB hc;obtain ⟨k,hmk,hk,rfl,HO,BK,HB⟩:=hrel;have hlen:=pickTo_length (isKid s.tasks m) k;by_cases hlt:k < s.tasks.length
   · skip
     have BKc:=zc8 BK.out;obtain ⟨b,o,cs,rfl,hcl,hK,hcc,hc0⟩:=C_field (Kd.C_below G.out HB.out) zTask k hlt (by decide);rw [show s.tasks.getD k zTask=taskAt s.tasks k from rfl] at hK;obtain ⟨B3,d3,B8,d8,B9,d9,B10,d10,rfl,_,_,_,_,_,_,_,_⟩:=kTask_open hK;have h_up:=hcc 2 _ rfl;simp only [show kTask.sz=13 from rfl] at h_up;clear hcc hc0 hK hcl;have q0:(0:Int)<=(k:Int):=by omega
     have q1:(k:Int) < (s.tasks.length:Int):=by omega
     by_cases hy:(taskAt s.tasks k).up=(m:Int)
     ·have y1:((taskAt s.tasks k).up == (m:Int))=true:=by simp [hy]
      have HY:=am (show isKid s.tasks m k=true by simp [isKid,hy];omega);clear hy;go_wp2_with (first|((with_reducible refine gate_builtin (b:=.append) (xs:=#[.tmp 30,.tmp 32]) rfl ?_);at_builtin;refine Kd.R_append (Kd.int .i64) (w0:=w) w.heap.size rfl (.tmp 30) (.tmp 32) 29 3 (.int .i64 0) 8 rfl Try.underlying29 info_int rfl (by decide) (by omega) _ (pickTo (isKid s.tasks m) k) (k:Int) [.int .i64 (k:Int)] (fun _=>True) (fun _=>False) rfl rfl rfl (fun _ hk=>hk.elim) (fun _ _=>trivial) HO.out HB.out (below_size HB.out) (by omega) ?_;intro v1 w1 ho hb hg _;have BK1:=am (blk_grown BK.out hg (Kd.R_ne HO.out BK.out (by decide)));have HO1:=am ho;have HB1:=am hb;clear ho hb hg HO HB BK))
      go_roundw
      case rel=>exact ⟨k+1,by omega,by omega,by go_num,⟨by rw [pickTo_yes HY.out];exact HO1.out⟩,BK1,HB1⟩
      case measure=>simp [intOf];omega
     ·have y1:((taskAt s.tasks k).up == (m:Int))=false:=by simp [hy]
      have HY:=am (show isKid s.tasks m k=false by simp [isKid,hy]);clear hy;go_wp2;go_roundw
      case rel=>exact ⟨k+1,by omega,by omega,by go_num,⟨by rw [pickTo_no HY.out];exact HO.out⟩,BK,HB⟩
      case measure=>simp [intOf];omega
   ·have BKc:=zc8 BK.out
    go_wp2;go_ret;obtain rfl:k=s.tasks.length:=by omega
    exact ⟨_,rfl,HO.out,HB.out⟩
 ·have HP:=am (show (decide (0<=task) && decide (task < (s.tasks.length:Int)))=false by simp;omega)
  have HN:=am (kids_out hp);clear hp;go_wp2_with (first|((with_reducible refine gate_dst (N:=2) rfl ?_);refine box_event rfl (N:=2) rfl (t:=27) (by go_simp<;>rfl) ?_;intro g hg w2 hbox hb;have BK:=am hbox;have HB:=am hb;have GE:=am (show w.heap.size<=g by omega);clear hbox hb hg;have hc:=zc8 BK.out)|(go_at_call 51;refine (isPlace_calls _ _ _).mono ?_;rw [HP.out];rintro e w1 ⟨rfl,rfl⟩))
  go_ret;exact ⟨_,rfl,by rw [HN.out];exact Kd.R_nil _ _ _ _ _,HB.out⟩
def under (ts:List Task):Nat->Int->Int->Bool
 | 0,_,_=>false
 | f+1,t,up=>if 0<=t/\t < (ts.length:Int)/\(taskAt ts t.toNat).up < t then (if (taskAt ts t.toNat).up=up then decide (0<=up) else under ts f (taskAt ts t.toNat).up up) else false
theorem under_more (ts:List Task) (up:Int):∀ (f:Nat) (t:Int),t < f->under ts (f+1) t up=under ts f t up
 | 0,t,h=>by
  unfold under
  rw [if_neg (by omega)]
 | f+1,t,h=>by
  unfold under;by_cases c:0<=t/\t < (ts.length:Int)/\(taskAt ts t.toNat).up < t
  ·rw [if_pos c,if_pos c,under_more ts up f _ (by omega)]
  ·rw [if_neg c,if_neg c]
theorem under_enough (ts:List Task) (up t:Int) (f d:Nat) (h:t < f):under ts (f+d) t up=under ts f t up:=by
 induction d with
 | zero=>rfl
 | succ d ih=>rw [<-Nat.add_assoc,under_more ts up (f+d) t (by omega),ih]
def underOf (ts:List Task) (t up:Int):Bool:=under ts (t.toNat+1) t up
theorem underOf_in {ts:List Task} {t up:Int} (h0:0<=t) (h1:t < (ts.length:Int)) (h2:(taskAt ts t.toNat).up < t):underOf ts t up=if (taskAt ts t.toNat).up=up then decide (0<=up) else underOf ts (taskAt ts t.toNat).up up:=by
 unfold underOf
 conv=>(lhs;unfold under)
 rw [if_pos ⟨h0,h1,h2⟩];have e:t.toNat=((taskAt ts t.toNat).up.toNat+1)+(t.toNat - ((taskAt ts t.toNat).up.toNat+1))\/(taskAt ts t.toNat).up < 0:=by omega
 by_cases hneg:(taskAt ts t.toNat).up < 0
 ·generalize (taskAt ts t.toNat).up=u at hneg h2
  have a1:∀ f,under ts f u up=false:=fun f=>by cases f with
   | zero=>rfl
   | succ f=>unfold under;rw [if_neg (by omega)]
  rw [a1,a1]
 ·generalize (taskAt ts t.toNat).up=u at hneg h2 e
  have e':t.toNat=(u.toNat+1)+(t.toNat - (u.toNat+1)):=by omega
  rw [e',under_enough ts up u (u.toNat+1) _ (by omega)]
theorem underOf_out {ts:List Task} {t up:Int} (h:¬ (0<=t/\t < (ts.length:Int)/\(taskAt ts t.toNat).up < t)):underOf ts t up=false:=by
 unfold underOf under;rw [if_neg h]
theorem above_calls (s:Sys) (A0 A1 A3:Option Addr) (c0 c1 c3:Nat) (m g:Nat) (w:World) (hn:s.tasks.length<=1048576) (hm:m < s.tasks.length) (g1:kTask.C w A1 s.tasks.length s.tasks) (bk:w.heap[g]? = some (.cells #[.slice A0 s.cells.length c0,.slice A1 s.tasks.length c1,.int .i64 s.clock,.slice A3 s.log.length c3] 27 (0,0))):
  Calls Try.prog 52 #[.int .i64 m,.pointer (some ⟨g,0,none⟩)] w fun e w'=>e= .returned (.tuple #[.int .i64 (taskAt s.tasks m).up,.bool (decide (0<=(taskAt s.tasks m).up) && decide ((taskAt s.tasks m).up < (m:Int)))])/\w=w':=by
 have BKc:=zc8 bk;obtain ⟨b,o,cs,hA,hcl,hK,hcc,hc0⟩:=C_field g1 zTask m hm (by decide);cases hA;rw [show s.tasks.getD m zTask=taskAt s.tasks m from rfl] at hK;obtain ⟨B3,d3,B8,d8,B9,d9,B10,d10,rfl,_,_,_,_,_,_,_,_⟩:=kTask_open hK;have h_up:=hcc 2 _ rfl;simp only [show kTask.sz=13 from rfl] at h_up;have m0:(0:Int)<=(m:Int):=by omega
 have m1:(m:Int) < (s.tasks.length:Int):=by omega
 clear hcc hc0 hK hcl bk g1;go_enter Try.func52,Try.ntmps52;go_wp2_with (go_at_call 51;refine (isPlace_calls _ _ _).mono ?_;rintro e w1 ⟨rfl,rfl⟩)
 go_ret2;exact ⟨rfl,rfl⟩
theorem implUnder_calls (s:Sys) (cs:List Value) (task up:Int) (w:World) (hx:kSys.K w s cs) (hn:s.tasks.length<=1048576):
  Calls Try.prog 21 #[.agg cs.toArray,.int .i64 task,.int .i64 up] w fun e w'=>e= .returned (.bool (underOf s.tasks task up))/\Below w.heap.size w w':=by
 obtain ⟨A0,c0,A1,c1,A3,c3,rfl,l0,g0,l1,g1,l3,g3⟩:=kSys_open hx;have G:=am g1;clear g0 g1 g3 l0 l1 l3 hx;go_enter Try.func21,Try.ntmps21;by_cases hp:0<=task/\task < s.tasks.length
 ·obtain ⟨m,rfl⟩:=Int.eq_ofNat_of_zero_le hp.1
  have hm:m < s.tasks.length:=by omega
  have HP:=am (show (decide (0<=(m:Int)) && decide ((m:Int) < (s.tasks.length:Int)))=true by simp;omega);clear hp;go_wp2_with (first|((with_reducible refine gate_dst (N:=3) rfl ?_);refine box_event rfl (N:=3) rfl (t:=27) (by go_simp<;>rfl) ?_;intro g hg w2 hbox hb;have BK:=am hbox;have HB:=am hb;have GE:=am (show w.heap.size<=g by omega);clear hbox hb hg;have hc:=zc8 BK.out)|(go_at_call 51;refine (isPlace_calls _ _ _).mono ?_;rw [HP.out];rintro e w1 ⟨rfl,rfl⟩))
  go_loopw [1] (fun v w'=>∃ t:Nat,t < s.tasks.length/\v= .int .i64 t/\Aside0 (underOf s.tasks m up=underOf s.tasks t up)/\Aside0 (w'.heap[g]? = some (.cells #[.slice A0 s.cells.length c0,.slice A1 s.tasks.length c1,.int .i64 s.clock,.slice A3 s.log.length c3] 27 (0,0)))/\Aside0 (Below w.heap.size w w')) (fun v _=>(intOf v).toNat)
  case atStart=>exact ⟨m,hm,rfl,⟨rfl⟩,BK,HB⟩
  case round=>
   clear BK HB hc hm HP;obtain ⟨t,hml,rfl,HJ,BK,HB⟩:=hrel;have BKc:=zc8 BK.out;have m0:(0:Int)<=(t:Int):=by omega
   have m1:(t:Int) < (s.tasks.length:Int):=by omega
   by_cases hu:0<=(taskAt s.tasks t).up/\(taskAt s.tasks t).up < (t:Int)
   ·have HA:=am (show (decide (0<=(taskAt s.tasks t).up) && decide ((taskAt s.tasks t).up < (t:Int)))=true by simp;omega)
    have HS:=am (underOf_in (ts:=s.tasks) (up:=up) m0 m1 (by rw [Int.toNat_natCast];exact hu.2));by_cases he:(taskAt s.tasks t).up=up
    ·have y2:((taskAt s.tasks t).up == up)=true:=by simp [he]
     have HE:=am he;clear he;go_wp2_with (first|(go_at_call 52;refine (above_calls s A0 _ A3 c0 c1 c3 t g _ hn hml (Kd.C_below G.out HB.out) BK.out).mono ?_;rw [HA.out];rintro e w1 ⟨rfl,rfl⟩))
     go_ret;exact ⟨ret_bool (by have h:=HS.out;rw [Int.toNat_natCast,if_pos HE.out] at h;rw [HJ.out,h,<-HE.out,decide_eq_true hu.1]),HB.out⟩
    ·have y2:((taskAt s.tasks t).up == up)=false:=by simp [he]
     have HE:=am he;clear he;obtain ⟨u,hu'⟩:=Int.eq_ofNat_of_zero_le hu.1;have HUU:=am hu';clear hu';go_wp2_with (first|(go_at_call 52;refine (above_calls s A0 _ A3 c0 c1 c3 t g _ hn hml (Kd.C_below G.out HB.out) BK.out).mono ?_;rw [HA.out];rintro e w1 ⟨rfl,rfl⟩))
     go_roundw
     case rel=>exact ⟨u,by have:=HUU.out;omega,by rw [HUU.out],⟨by have h:=HS.out;rw [Int.toNat_natCast,if_neg HE.out,HUU.out] at h;rw [HJ.out,h]⟩,BK,HB⟩
     case measure=>simp only [intOf];omega
   ·have HA:=am (show (decide (0<=(taskAt s.tasks t).up) && decide ((taskAt s.tasks t).up < (t:Int)))=false by simp;omega)
    have HS:=am (show underOf s.tasks t up=false by
     by_cases h2:(taskAt s.tasks t).up < (t:Int)
     ·rw [underOf_in m0 m1 (by rw [Int.toNat_natCast];exact h2),Int.toNat_natCast,underOf_out (t:=(taskAt s.tasks t).up) (by omega)]
      split
      ·rename_i h3;rw [<-h3];simp;omega
      ·rfl
     ·exact underOf_out (by rw [Int.toNat_natCast];omega))
    clear hu;go_wp2_with (first|(go_at_call 52;refine (above_calls s A0 _ A3 c0 c1 c3 t g _ hn hml (Kd.C_below G.out HB.out) BK.out).mono ?_;rw [HA.out];rintro e w1 ⟨rfl,rfl⟩))
    go_ret;exact ⟨ret_bool (by rw [HJ.out,HS.out]),HB.out⟩
 ·have HP:=am (show (decide (0<=task) && decide (task < (s.tasks.length:Int)))=false by simp;omega)
  have HN:=am (underOf_out (ts:=s.tasks) (t:=task) (up:=up) (by omega));clear hp;go_wp2_with (first|((with_reducible refine gate_dst (N:=3) rfl ?_);refine box_event rfl (N:=3) rfl (t:=27) (by go_simp<;>rfl) ?_;intro g hg w2 hbox hb;have BK:=am hbox;have HB:=am hb;have GE:=am (show w.heap.size<=g by omega);clear hbox hb hg;have hc:=zc8 BK.out)|(go_at_call 51;refine (isPlace_calls _ _ _).mono ?_;rw [HP.out];rintro e w1 ⟨rfl,rfl⟩))
  go_ret;exact ⟨ret_bool HN.out.symm,HB.out⟩
end Go.Proofs.Ytimamoimphjakaa.Eq
namespace Go.Proofs.Ytimamoimphjakaa.Eq
section
variable {ts:List Task}
def upAt (ts:List Task) (t:Int):Int:=(taskAt ts t.toNat).up
theorem under_iff {t up:Int}:underOf ts t up=true ↔ (0<=t/\t < ts.length/\upAt ts t < t)/\((upAt ts t=up/\0<=up)\/(upAt ts t ≠ up/\underOf ts (upAt ts t) up=true)):=by
 by_cases h:0<=t/\t < (ts.length:Int)/\(taskAt ts t.toNat).up < t
 ·rw [underOf_in h.1 h.2.1 h.2.2]
  constructor
  ·intro hu
   refine ⟨h, ?_⟩;unfold upAt;split at hu
   ·rename_i he
    exact .inl ⟨he,by simpa using hu⟩
   ·rename_i he
    exact .inr ⟨he,hu⟩
  ·rintro ⟨_,hu⟩
   unfold upAt at hu;rcases hu with ⟨h1,h2⟩ | ⟨h1,h2⟩
   ·rw [if_pos h1]
    simpa using h2
   ·rw [if_neg h1]
    exact h2
 ·rw [underOf_out h]
  constructor
  ·intro hu
   cases hu
  ·rintro ⟨h1,_⟩
   exact absurd h1 h
theorem under_next {t up c:Int} (ht:0<=t/\t < ts.length/\upAt ts t < t) (hc:0<=c) (h:upAt ts t=c\/underOf ts (upAt ts t) c=true):underOf ts t c=true:=by
 rw [under_iff];refine ⟨ht, ?_⟩;by_cases he:upAt ts t=c
 ·exact .inl ⟨he,hc⟩
 ·exact .inr ⟨he,h.resolve_left he⟩
theorem kid_under {k t:Int} (h:k ∈ kids ts t):upAt ts k=t/\t < k/\0<=t/\0<=k/\k < ts.length/\underOf ts k t=true:=by
 obtain ⟨i,hi,h0,hu,hlt,rfl⟩:=mem_kids.1 h
 have he:upAt ts (i:Int)=t:=by
  unfold upAt;rw [Int.toNat_natCast];exact hu
 exact ⟨he,hlt,h0,by omega,by omega,under_next (up:=t) ⟨by omega,by omega,by omega⟩ h0 (.inl he)⟩
end
end Go.Proofs.Ytimamoimphjakaa.Eq
namespace Go.Proofs.Ytimamoimphjakaa.Eq
open Go.RowKit Go.Proofs.YtimamoimphjakaaW.PrintWords Go.Proofs.YtimamoimphjakaaW.PrintLast Go.Proofs.YtimamoimphjakaaW.PrintMore
theorem task_up {W:World} {b o:Nat} {ts:List Task} (h:kTask.C W (some ⟨b,o,none⟩) ts.length ts) {i:Nat} (hi:i < ts.length):W.cell? ⟨b,o+i*13+2,none⟩=some (.int .i64 (taskAt ts i).up):=by
 obtain ⟨b2,o2,cs2,e2,hcl,hK,hcc,hc0⟩:=C_field h zTask i hi (by decide);cases e2;rw [show ts.getD i zTask=taskAt ts i from rfl] at hK;obtain ⟨B3,d3,B8,d8,B9,d9,B10,d10,rfl,_,_,_,_,_,_,_,_⟩:=kTask_open hK;exact hcc 2 _ rfl
theorem rd_mem {xs:List Int} {k:Nat} (h:k < xs.length):rd xs (k:Int) ∈ xs:=by
 simp [rd,List.getD_eq_getElem?_getD,List.getElem?_eq_getElem h]
end Go.Proofs.Ytimamoimphjakaa.Eq

namespace Go.Proofs.Ytimamoimphjakaa.Eq
open Go.RowKit Go.Proofs.YtimamoimphjakaaW.PrintWords Go.Proofs.YtimamoimphjakaaW.PrintLast Go.Proofs.YtimamoimphjakaaW.PrintMore
theorem lqSame_calls (xs:List Int) (A B:Option Addr) (c d:Nat) (w:World) (hx:(Kd.int .i64).C w A xs.length xs) (hy:(Kd.int .i64).C w B xs.length xs):
  Calls Try.prog 17 #[.slice A xs.length c,.slice B xs.length d] w fun e w'=>e= .returned (.bool true)/\Below w.heap.size w w':=by
 refine (lqInts_calls xs xs A B c d w hx hy).mono ?_;rintro e w' ⟨rfl,hd⟩;exact ⟨by rw [decide_eq_true rfl],hd.below⟩
theorem pickTo_up (p:Nat->Bool) (n:Nat):upB (pickTo p n)=true:=by
 have hp:(pickTo p n).Pairwise (· < ·):=by
  unfold pickTo;rw [List.pairwise_map];exact (List.Pairwise.filter p (List.pairwise_lt_range (n:=n))).imp (fun h=>by omega)
 unfold upB;rw [decide_eq_true_eq];intro j hj h1;have:=List.pairwise_iff_getElem.1 hp (j - 1) j (by omega) hj (by omega);have e1:rd (pickTo p n) (j:Int)=(pickTo p n)[j]:=by simp [rd,List.getD_eq_getElem?_getD,List.getElem?_eq_getElem hj]
 have e2:rd (pickTo p n) ((j:Int) - 1)=(pickTo p n)[j - 1]:=by
  rw [show (j:Int) - 1=((j - 1:Nat):Int) by omega];simp [rd,List.getD_eq_getElem?_getD,List.getElem?_eq_getElem (show j - 1 < (pickTo p n).length by omega)]
 rw [e1,e2];exact this
def KidsPost (w:World) (e:Ending) (w':World):Prop:=∃ s ss task,e= .returned (.tuple #[.agg ss.toArray,.int .i64 task])/\Drawn w s ss w'
theorem drawKids_calls (A:Option Addr) (c:Nat) (l:List Int) (w:World) (hC:(Kd.int .u8).C w A l.length l) (hc:l.length<=c) (hb:∀ i:Nat,0<=l.getD i 0/\l.getD i 0<=255):
  Calls Try.prog 30 #[.slice A l.length c] w fun e w'=>KidsPost w e w':=by
 have HC:=am hC;have HL:=am hc;have HY:=am hb;clear hC hc hb;go_enter Try.func30,Try.ntmps30
 go_wp2_with (first
 |((with_reducible refine gate_dst (N:=2) rfl ?_);refine box_event rfl (N:=2) rfl (t:=27) (by go_simp<;>rfl) ?_;intro gz hg w2 hbox hb;have BZ:=am hbox;clear hbox;have LZ:=am (Nat.le_of_eq hg.symm);clear hg;have HB2:=am hb;clear hb;have HB:=HB2;clear HB2;have BZc:=zc8 BZ.out)
 |(go_at_call 47;refine (open_rds A c l _ (Kd.C_below HC.out HB.out) HL.out HY.out).mono ?_;rintro e wo ⟨g,bs,rfl,hi,hcd,hbo⟩;have HI:=am hi;have HCD:=am hcd;have HBO:=am hbo;clear hi hcd hbo)
 |(go_at_call 48;refine (l71Off_calls _ _ g bs 0 HI.out HBO.out HCD.out (by decide) (by decide)).mono ?_;rintro e wf ⟨p,s,vc,vb,ss,q,rfl,-,-,hvc,hvb,hs,hsz,hln,htl,hd,hq0,hq1⟩;obtain ⟨Ac,cc,ev⟩:=Kd.R_slice hvc;subst ev;obtain ⟨Ab,cb,ev⟩:=Kd.R_slice hvb;subst ev;clear hvc hvb;have LG:=am (show w.heap.size<=wo.heap.size from Nat.le_trans HB.out.size HBO.out.size);have LZO:=am (blk_lt (zb8 BZ.out HBO.out));clear HBO HI BZc;obtain ⟨A0,c0,A1,c1,A3,c3,rfl,-,-,-,hg1,-,-⟩:=kSys_open hs.now;obtain ⟨b,o,-,rfl,-⟩:=C_field hg1 zTask 0 htl (by decide);clear hg1;have HS:=am hs;have HSZ:=am hsz;have HLN:=am (show s.tasks.length<=1000 by omega);have HTL:=am htl;have HD:=am hd;have HQ:=am (show 0<=q/\q<=8000 from ⟨hq0,by omega⟩);clear hs hsz hln htl hd hq0 hq1)
 |((with_reducible refine gate_dst (N:=5) rfl ?_);refine box_event rfl (N:=5) rfl (t:=48) (by go_simp<;>rfl) ?_;intro gp hg wt hbox hb;have BP0:=am hbox;have LBP:=am (Nat.le_of_eq hg.symm);have HBT:=am hb;clear hbox hb hg)
 |((with_reducible refine gate_dst (N:=6) rfl ?_);refine box_event rfl (N:=6) rfl (t:=27) (by go_simp<;>rfl) ?_;intro gs hg wt hbox hb;have NBPBS:=am (show gp ≠ gs from fun he=>by have:=blk_lt BP0.out;omega);replace BP0:=am (zb8 BP0.out hb);have BS0:=am hbox;have LBS:=am (Nat.le_trans HBT.out.size (Nat.le_of_eq hg.symm));replace HBT:=am (below_step HBT.out hb);clear hbox hb hg)
 |((with_reducible refine gate_store (t:=48) (p:=5) rfl ?_);refine store_block rfl rfl 48 (.tmp 5) (.tmp 14) rfl rfl rfl BP0.out rfl (by kernel_rfl) (aB rfl) ?_;intro wn hbox hg;have BP:=am hbox;replace BS0:=am (blk_grown BS0.out hg (fun he=>NBPBS.out (by injection he with he;exact he.symm)));replace HBT:=am (pw_below_grown HBT.out _ HBT.out.size hg (fun z hz=>by cases hz;exact LBP.out));clear BP0 hbox hg)
 |((with_reducible refine gate_store (t:=27) (p:=6) rfl ?_);refine store_block rfl rfl 27 (.tmp 6) (.tmp 15) rfl rfl rfl BS0.out rfl (by kernel_rfl) (aB rfl) ?_;intro wn hbox hg;have BS:=am hbox;replace BP:=am (blk_grown BP.out hg (fun he=>NBPBS.out (by injection he)));replace HBT:=am (pw_below_grown HBT.out _ HBT.out.size hg (fun z hz=>by cases hz;exact LBS.out));clear BS0 hbox hg;have hbT:=HBT.out;clear HBT;replace HS:=am (HS.out.grow hbT);replace HD:=am (HD.out.grow hbT);clear hbT;have BPc:=zc8 BP.out;have BSc:=zc8 BS.out)
 |(go_at_call 49;fail))
 refine (pick_rds HD.out HCD.out (by have:=HQ.out;omega) (wrap64 ((s.tasks.length:Int)+1))).mono ?_;rintro e wn ⟨x,q2,rfl,-,hq2,hd,hk⟩;replace HS:=am (HS.out.keep hk);replace BS:=am (HD.out.blkK hk BS.out (by decide));replace HD:=am hd;replace HQ:=am (show 0<=q2/\q2<=8001 from by have:=HQ.out;omega);clear BSc hk hd hq2;have BSc:=zc8 BS.out
 go_wp2_with (first
 |(go_at_call 49;fail))
 refine (pick_rds HD.out HCD.out (by have:=HQ.out;omega) 9).mono ?_;rintro e wn ⟨y,q2,rfl,-,hq2,hd,hk⟩;have HS_:=am (HS.out.keep hk);have BS_:=am (HD.out.blkK hk BS.out (by decide));have HD_:=am hd;have HQ_:=am (show 0<=q2/\q2<=8002 from by have:=HQ.out;omega);clear HS BS BSc HD HQ hk hd hq2;have HS:=HS_;have BS:=BS_;have HD:=HD_;have HQ:=HQ_;clear HS_ BS_ HD_ HQ_;have BSc:=zc8 BS.out;obtain ⟨N9,hN9⟩:∃ N:Nat,Held wo.heap.size N g s [.slice A0 s.cells.length c0,.slice (some ⟨b,o,none⟩) s.tasks.length c1,.int .i64 s.clock,.slice A3 s.log.length c3] wn:=⟨_,HS.out⟩;clear HS;have HS:=am hN9;clear hN9;have HQ_:=am (show 0<=q2/\q2<=8010+2*((0:Nat):Int) from by have:=HQ.out;omega);clear HQ;have HQ:=HQ_;clear HQ_;go_wp2;go_loopw [7,8] (fun v i w'=>∃ k:Nat,k<=10/\i= .int .i64 k/\(∃ u:Int,v= .int .i64 u)/\∃ q:Int,Aside0 (Held wo.heap.size N9 g s [.slice A0 s.cells.length c0,.slice (some ⟨b,o,none⟩) s.tasks.length c1,.int .i64 s.clock,.slice A3 s.log.length c3] w')/\Aside0 (w'.heap[gs]? = some (.cells #[.slice A0 s.cells.length c0,.slice (some ⟨b,o,none⟩) s.tasks.length c1,.int .i64 s.clock,.slice A3 s.log.length c3] 27 (0,0)))/\Aside0 (Rds _ wo g bs q w')/\Aside0 (0<=q/\q<=8010+2*(k:Int))) (fun _ i _=>11 - (intOf i).toNat)
 case atStart=>exact ⟨0,by omega,rfl,⟨_,rfl⟩,q2,HS,BS,HD,HQ⟩
 case round=>
  clear HS BS HD HQ BSc;obtain ⟨k,hk,rfl,⟨u,rfl⟩,q,HS,BS,HD,HQ⟩:=hrel;have BSc:=zc8 BS.out;by_cases hk9:(k:Int) < 10
  ·have yk:decide ((k:Int) < 10)=true:=decide_eq_true hk9
   go_wp2_with (first
   |(go_at_call 49;fail))
   refine (pick_rds HD.out HCD.out (by have:=HQ.out;omega) 10).mono ?_;rintro e wn ⟨x,q2,rfl,-,hq2,hd,hk⟩;replace HS:=am (HS.out.keep hk);replace BS:=am (HD.out.blkK hk BS.out (by decide));replace HD:=am hd;replace HQ:=am (show 0<=q2/\q2<=8010+2*(k:Int)+1 from by have:=HQ.out;omega);clear BSc hk hd hq2;have BSc:=zc8 BS.out;by_cases hx0:0 < (x:Int)
   ·have yx:decide ((0:Int) < (x:Int))=true:=decide_eq_true hx0
    by_cases hz:((kids s.tasks u).length:Int)=0
    ·have yz:(((kids s.tasks u).length:Int) == 0)=true:=by rw [beq_iff_eq];exact hz
     go_wp2_with (first
     |((with_reducible refine gate_dst (N:=34) rfl ?_);refine wpList_load_mid rfl 27 (.tmp 6) rfl gs 0 rfl _ _ (lC BS.out) Try.underlying27 rfl (by kernel_rfl) ?_)
     |(go_at_call 32;refine (specKids_calls s _ u _ HS.out.now (Nat.le_trans HLN.out (by decide))).mono ?_;rintro e wn ⟨v,rfl,hv,hb⟩;obtain ⟨Av,cv,ev,-,-⟩:=Kd.R_reads hv;subst ev;clear hv;replace HS:=am (HS.out.grow hb);replace BS:=am (zb8 BS.out hb);replace HD:=am (HD.out.grow hb);clear hb BSc;have BSc:=zc8 BS.out)
     |(go_at_call 49;fail))
     refine (pick_rds HD.out HCD.out (by have:=HQ.out;omega) (s.tasks.length:Int)).mono ?_;rintro e wn ⟨y,q2,rfl,-,hq2,hd,hk⟩;have HS_:=am (HS.out.keep hk);have BS_:=am (HD.out.blkK hk BS.out (by decide));have HD_:=am hd;have HQ_:=am (show 0<=q2/\q2<=8010+2*(k:Int)+2 from by have:=HQ.out;omega);clear HS BS BSc HD HQ hk hd hq2;have HS:=HS_;have BS:=BS_;have HD:=HD_;have HQ:=HQ_;clear HS_ BS_ HD_ HQ_;have BSc:=zc8 BS.out;go_wp2;go_roundw
     case rel=>exact ⟨k+1,by omega,by go_num,⟨_,rfl⟩,_,HS,BS,HD,⟨by have:=HQ.out;omega⟩⟩
     case measure=>simp [intOf];omega
    ·have yz:(((kids s.tasks u).length:Int) == 0)=false:=by rw [beq_eq_false_iff_ne];exact hz
     go_wp2_with (first
     |((with_reducible refine gate_dst (N:=34) rfl ?_);refine wpList_load_mid rfl 27 (.tmp 6) rfl gs 0 rfl _ _ (lC BS.out) Try.underlying27 rfl (by kernel_rfl) ?_)
     |(go_at_call 32;refine (specKids_calls s _ u _ HS.out.now (Nat.le_trans HLN.out (by decide))).mono ?_;rintro e wn ⟨v,rfl,hv,hb⟩;obtain ⟨Av,cv,ev,-,-⟩:=Kd.R_reads hv;subst ev;clear hv;replace HS:=am (HS.out.grow hb);replace BS:=am (zb8 BS.out hb);replace HD:=am (HD.out.grow hb);clear hb BSc;have BSc:=zc8 BS.out)
     |((with_reducible refine gate_dst (N:=47) rfl ?_);refine wpList_load_mid rfl 27 (.tmp 6) rfl gs 0 rfl _ _ (lC BS.out) Try.underlying27 rfl (by kernel_rfl) ?_)
     |((with_reducible refine gate_store (t:=27) (p:=2) rfl ?_);refine store_block rfl rfl 27 (.tmp 2) (.tmp 47) rfl rfl rfl (zb8 BZ.out HD.out.below) rfl (by kernel_rfl) (aB rfl) ?_;intro wz hbox hg;have BZz:=am hbox;have HSz:=am (HS.out.grown hg (fun z hz=>by cases hz;exact .inl LZO.out));have HBz:=am (pw_below_grown (below_step HB.out HD.out.below) _ (below_step HB.out HD.out.below).size hg (fun z hz=>by cases hz;exact LZ.out));clear hbox hg))
     refine bodyPost_ret (results_ct Try.results30 _ wz gz 27 #[.slice A0 s.cells.length c0,.slice (some ⟨b,o,none⟩) s.tasks.length c1,.int .i64 s.clock,.slice A3 s.log.length c3] (0,0) _ rfl BZz.out Try.underlying27 rfl (by kernel_rfl)) rfl ⟨s,_,_,rfl,⟨HSz.out.wide LG.out,HSZ.out,HTL.out,HLN.out,HBz.out⟩⟩
   ·have yx:decide ((0:Int) < (x:Int))=false:=decide_eq_false hx0
    go_wp2_with (first
    |((with_reducible refine gate_dst (N:=47) rfl ?_);refine wpList_load_mid rfl 27 (.tmp 6) rfl gs 0 rfl _ _ (lC BS.out) Try.underlying27 rfl (by kernel_rfl) ?_)
    |((with_reducible refine gate_store (t:=27) (p:=2) rfl ?_);refine store_block rfl rfl 27 (.tmp 2) (.tmp 47) rfl rfl rfl (zb8 BZ.out HD.out.below) rfl (by kernel_rfl) (aB rfl) ?_;intro wz hbox hg;have BZz:=am hbox;have HSz:=am (HS.out.grown hg (fun z hz=>by cases hz;exact .inl LZO.out));have HBz:=am (pw_below_grown (below_step HB.out HD.out.below) _ (below_step HB.out HD.out.below).size hg (fun z hz=>by cases hz;exact LZ.out));clear hbox hg))
    refine bodyPost_ret (results_ct Try.results30 _ wz gz 27 #[.slice A0 s.cells.length c0,.slice (some ⟨b,o,none⟩) s.tasks.length c1,.int .i64 s.clock,.slice A3 s.log.length c3] (0,0) _ rfl BZz.out Try.underlying27 rfl (by kernel_rfl)) rfl ⟨s,_,_,rfl,⟨HSz.out.wide LG.out,HSZ.out,HTL.out,HLN.out,HBz.out⟩⟩
  ·have yk:decide ((k:Int) < 10)=false:=decide_eq_false hk9
   go_wp2_with (first
   |((with_reducible refine gate_dst (N:=47) rfl ?_);refine wpList_load_mid rfl 27 (.tmp 6) rfl gs 0 rfl _ _ (lC BS.out) Try.underlying27 rfl (by kernel_rfl) ?_)
   |((with_reducible refine gate_store (t:=27) (p:=2) rfl ?_);refine store_block rfl rfl 27 (.tmp 2) (.tmp 47) rfl rfl rfl (zb8 BZ.out HD.out.below) rfl (by kernel_rfl) (aB rfl) ?_;intro wz hbox hg;have BZz:=am hbox;have HSz:=am (HS.out.grown hg (fun z hz=>by cases hz;exact .inl LZO.out));have HBz:=am (pw_below_grown (below_step HB.out HD.out.below) _ (below_step HB.out HD.out.below).size hg (fun z hz=>by cases hz;exact LZ.out));clear hbox hg))
   refine bodyPost_ret (results_ct Try.results30 _ wz gz 27 #[.slice A0 s.cells.length c0,.slice (some ⟨b,o,none⟩) s.tasks.length c1,.int .i64 s.clock,.slice A3 s.log.length c3] (0,0) _ rfl BZz.out Try.underlying27 rfl (by kernel_rfl)) rfl ⟨s,_,_,rfl,⟨HSz.out.wide LG.out,HSZ.out,HTL.out,HLN.out,HBz.out⟩⟩
theorem fnTreeKids_calls (A:Option Addr) (c:Nat) (l:List Int) (w:World) (hC:(Kd.int .u8).C w A l.length l) (hc:l.length<=c) (hb:∀ i:Nat,0<=l.getD i 0/\l.getD i 0<=255):
  Calls Try.prog 8 #[.slice A l.length c] w fun e w'=>e= .returned (.bool true)/\Below w.heap.size w w':=by
 have HC:=am hC;have HL:=am hc;have HY:=am hb;clear hC hc hb;by_cases hbig:(1048576:Int) < (l.length:Int)
 ·have ybig:decide ((1048576:Int) < (l.length:Int))=true:=decide_eq_true hbig
  go_enter Try.func8,Try.ntmps8;go_wp2;go_ret;exact ⟨rfl,Below.refl _ _⟩
 ·have ybig:decide ((1048576:Int) < (l.length:Int))=false:=decide_eq_false hbig
  go_enter Try.func8,Try.ntmps8
  go_wp2_with (first
  |(go_at_call 30;refine (drawKids_calls A c l _ HC.out HL.out HY.out).mono ?_;rintro e wf ⟨s,ss,task,rfl,hd⟩;obtain ⟨A0,c0,A1,c1,A3,c3,rfl,-,-,-,hg1,-,-⟩:=kSys_open hd.read;obtain ⟨b,o,-,rfl,-⟩:=C_field hg1 zTask 0 hd.pos (by decide);have HB:=am hd.below;have SK:=am hd.read;have G1:=am hg1;have HN:=am (show s.tasks.length<=1048576 from Nat.le_trans hd.few (by decide));have HTL:=am hd.pos;have HLN:=am hd.few;clear hd hg1)
  |((with_reducible refine gate_dst (N:=3) rfl ?_);refine box_event rfl (N:=3) rfl (t:=27) (by go_simp<;>rfl) ?_;intro gs hg wt hbox hb;have BS0:=am hbox;have LBS:=am (Nat.le_of_eq hg.symm);have HBT:=am hb;clear hbox hb hg)
  |((with_reducible refine gate_store (t:=27) (p:=3) rfl ?_);refine store_block rfl rfl 27 (.tmp 3) (.tmp 13) rfl rfl rfl BS0.out rfl (by kernel_rfl) (aB rfl) ?_;intro wn hbox hg;have BS:=am hbox;replace HBT:=am (pw_below_grown HBT.out _ HBT.out.size hg (fun z hz=>by cases hz;exact LBS.out));clear BS0 hbox hg;have hbT:=HBT.out;clear HBT;replace HB:=am (below_step HB.out hbT);replace SK:=am (kSys.K_below hbT SK.out);replace G1:=am (Kd.C_below G1.out hbT);clear hbT;have BSc:=zc8 BS.out)
  |((with_reducible refine gate_dst (N:=15) rfl ?_);refine wpList_load_mid rfl 27 (.tmp 3) rfl gs 0 rfl _ _ (lC BS.out) Try.underlying27 rfl (by kernel_rfl) ?_)
  |((with_reducible refine gate_dst (N:=19) rfl ?_);refine wpList_load_mid rfl 27 (.tmp 3) rfl gs 0 rfl _ _ (lC BS.out) Try.underlying27 rfl (by kernel_rfl) ?_)
  |(go_at_call 31;refine (implKids_calls s _ task _ SK.out HN.out).mono ?_;rintro e wn ⟨v,rfl,hv,hb⟩;obtain ⟨Al,cl,ev,-,hcv⟩:=Kd.R_reads hv;subst ev;have LV:=am hcv;clear hv hcv;replace HB:=am (below_step HB.out hb);replace SK:=am (kSys.K_below hb SK.out);replace G1:=am (Kd.C_below G1.out hb);replace BS:=am (zb8 BS.out hb);clear BSc hb;have BSc:=zc8 BS.out)
  |(go_at_call 32;refine (specKids_calls s _ task _ SK.out HN.out).mono ?_;rintro e wn ⟨v,rfl,hv,hb⟩;obtain ⟨Av,cv,ev,-,hcv⟩:=Kd.R_reads hv;subst ev;have LU:=am hcv;clear hv hcv;replace HB:=am (below_step HB.out hb);replace SK:=am (kSys.K_below hb SK.out);replace G1:=am (Kd.C_below G1.out hb);replace BS:=am (zb8 BS.out hb);replace LV:=am (Kd.C_below LV.out hb);clear BSc hb;have BSc:=zc8 BS.out)
  |(go_at_call 17;refine (lqSame_calls (kids s.tasks task) Al Av cl cv _ LV.out LU.out).mono ?_;rintro e wn ⟨rfl,hb⟩;replace HB:=am (below_step HB.out hb);replace SK:=am (kSys.K_below hb SK.out);replace G1:=am (Kd.C_below G1.out hb);replace BS:=am (zb8 BS.out hb);replace LV:=am (Kd.C_below LV.out hb);clear BSc hb;have BSc:=zc8 BS.out))
  have HWL:=am (show (kids s.tasks task).length<=s.tasks.length from pickTo_length _ _);clear LU;go_loopw [6] (fun i w'=>∃ k:Nat,k<=(kids s.tasks task).length/\i= .int .i64 k/\Aside0 (w'.heap[gs]? = some (.cells #[.slice A0 s.cells.length c0,.slice (some ⟨b,o,none⟩) s.tasks.length c1,.int .i64 s.clock,.slice A3 s.log.length c3] 27 (0,0)))/\Aside0 (kTask.C w' (some ⟨b,o,none⟩) s.tasks.length s.tasks)/\Aside0 (kSys.K w' s [.slice A0 s.cells.length c0,.slice (some ⟨b,o,none⟩) s.tasks.length c1,.int .i64 s.clock,.slice A3 s.log.length c3])/\Aside0 (Below w.heap.size w w')/\Aside0 ((Kd.int .i64).C w' Al (kids s.tasks task).length (kids s.tasks task))) (fun i _=>(kids s.tasks task).length - (intOf i).toNat)
  case atStart=>exact ⟨0,Nat.zero_le _,rfl,BS,G1,SK,HB,LV⟩
  case round=>
   clear BS G1 SK LV HB BSc;obtain ⟨k,hk,rfl,BS,G1,SK,HB,LV⟩:=hrel;have BSc:=zc8 BS.out;have hwl:=HWL.out;have hn9:=HN.out;have hl9:(kids s.tasks task).length<=1048576:=Nat.le_trans hwl hn9;by_cases hlt:k < (kids s.tasks task).length
   ·have q0:(0:Int)<=(k:Int):=by omega
    have q1:(k:Int) < ((kids s.tasks task).length:Int):=by omega
    obtain ⟨al,rfl,gx⟩:=Kd.at_int LV.out (k:Int) q0 q1;obtain ⟨hu,htk,ht0,hk0,hkl,hund⟩:=kid_under (rd_mem hlt);obtain ⟨i,hi⟩:=Int.eq_ofNat_of_zero_le hk0;rw [hi] at gx hu htk hkl hund;simp only [Int.toNat_natCast] at gx;have hil:i < s.tasks.length:=by omega
    have p0:(0:Int)<=(i:Int):=by omega
    have p1:(i:Int) < (s.tasks.length:Int):=hkl;have gu:=task_up G1.out hil;rw [show (taskAt s.tasks i).up=task by unfold upAt at hu;rw [Int.toNat_natCast] at hu;exact hu] at gu;have GX:=am gx;have GU:=am gu;have UN:=am hund;have y0:decide ((i:Int)<=task)=false:=decide_eq_false (by omega);have y1:decide ((0:Int)<=task)=true:=decide_eq_true ht0;have y2:(task != task)=false:=by simp
    clear gx gu hu hi hk0 hund hwl;go_wp2;refine st9 (n:=33) (S:=fun W=>W.heap[gs]? = some (.cells #[.slice A0 s.cells.length c0,.slice (some ⟨b,o,none⟩) s.tasks.length c1,.int .i64 s.clock,.slice A3 s.log.length c3] 27 (0,0))/\W.cell? (al.add k)=some (.int .i64 (i:Int))/\W.cell? ⟨b,o+i*13+2,none⟩=some (.int .i64 task)) (ds:= []) (by kernel_rfl) rfl ⟨blk_drew BS.out,GX.out,GU.out⟩ (fun hHeld=> ?_);have hb:=below_drew (Below.refl wr.heap.size wr);generalize wr.drew=w7 at hb hHeld ⊢;clear GX GU;replace HB:=am (below_step HB.out hb);replace SK:=am (kSys.K_below hb SK.out);replace G1:=am (Kd.C_below G1.out hb);replace BS:=am (zb8 BS.out hb);replace LV:=am (Kd.C_below LV.out hb);clear BSc hb;have BSc:=zc8 BS.out;refine ba9 (fuel:=4) (n:=29) [0,1,2,3,4,5,6,7,8,9,10,11,12,13,14,15,16,17,18,19,20,21,22,23,24,25,26,27,28] (by kernel_rfl) (fun N _ _ _ _ h=>by cases N <;> exact h) hHeld ?_
    iterate 29 (
     refine stillS_step (v:= ?_) (a':= ?_) rfl (Or.inl ⟨by rfl, ?_⟩) ?_ ?_;rotate_left
     ·rintro W ⟨s0,s1,s2⟩
      have t0:=zc8 s0;clear s0;go_simp;with_reducible rfl
     rotate_left
     ·simp only [Act.put,sA,sZ,sS,i64_w]
      rfl)
    refine stillS_nil ?_;refine on9 (i:=29) (N:=some 59) rfl rfl (by kernel_rfl) (by decide) (fun K hK=> ?_);refine goes_ Try.func21 (by kernel_rfl) rfl #[.agg #[.slice A0 s.cells.length c0,.slice (some ⟨b,o,none⟩) s.tasks.length c1,.int .i64 s.clock,.slice A3 s.log.length c3],.int .i64 (i:Int),.int .i64 task] (by rfl) rfl rfl (by (try simp only [List.map_toArray,List.map_cons,List.map_nil]);first | done | rfl) ?_;refine (implUnder_calls s _ (i:Int) task _ SK.out HN.out).mono ?_;rintro e wn ⟨rfl,hb⟩;rw [UN.out];refine ⟨_,rfl, ?_⟩;refine hK.out _ _ ⟨zb8 hHeld.1 hb,pw_cell_below hb hHeld.2.1,pw_cell_below hb hHeld.2.2⟩ (fun hHeld=> ?_);clear hK K;refine norm_ (a':= ?_) ?_ ?_;rotate_left
    ·show Act.put _ (some 59) _=_
     simp only [Act.put,sA,sZ,sS,i64_w];rfl
    replace HB:=am (below_step HB.out hb);replace SK:=am (kSys.K_below hb SK.out);replace G1:=am (Kd.C_below G1.out hb);replace BS:=am (zb8 BS.out hb);replace LV:=am (Kd.C_below LV.out hb);clear BSc hb;have BSc:=zc8 BS.out;refine ba9 (fuel:=0) (n:=3) [30,31,32] (by kernel_rfl) (fun N _ _ _ _ h=>by cases N <;> exact h) hHeld ?_
    iterate 3 (
     refine stillS_step (v:= ?_) (a':= ?_) rfl (Or.inl ⟨by rfl, ?_⟩) ?_ ?_;rotate_left
     ·rintro W ⟨s0,s1,s2⟩
      have t0:=zc8 s0;clear s0;go_simp;with_reducible rfl
     rotate_left
     ·simp only [Act.put,sA,sZ,sS,i64_w]
      rfl)
    refine stillS_nil ?_;refine done_ (by kernel_rfl) ?_;clear hHeld;go_wp2;go_roundw
    case rel=>exact ⟨k+1,by omega,by go_num,BS,G1,SK,HB,LV⟩
    case measure=>simp [intOf];omega
   ·have q1:¬ (k:Int) < ((kids s.tasks task).length:Int):=by omega
    go_wp2_with (first
    |(go_at_call 29;refine (lqUp_calls (kids s.tasks task) Al cl _ LV.out).mono ?_;rintro e wn ⟨rfl,hd⟩;have hb:=hd.below;replace HB:=am (below_step HB.out hb);replace SK:=am (kSys.K_below hb SK.out);replace G1:=am (Kd.C_below G1.out hb);replace BS:=am (zb8 BS.out hb);replace LV:=am (Kd.C_below LV.out hb);clear BSc hb;have BSc:=zc8 BS.out))
    go_ret;exact ⟨ret_bool (pickTo_up _ _),HB.out⟩
end Go.Proofs.Ytimamoimphjakaa.Eq
namespace Go.Proofs.Ytimamoimphjakaa.fnTreeKids
open Go.ChangeShapes Go.WideShapes Go.ChangeAt Go.RowKit Go.Proofs.YtimamoimphjakaaW.PrintWords
theorem own:ownKnob Try.prog.godebug=none:=by kernel_rfl
theorem laidOut:laidOutB Try.prog=true:=by kernel_rfl
def IsRow (k:IntKind) (w:World) (a:Option Addr) (len cap:Nat) (zs:List Int):Prop:=
 (a=none/\len=0/\cap=0/\zs= [])\/
 ∃ x,a=some x/\len<=cap/\cap<=maxLen/\zs.length=cap/\(∀ i,i < zs.length->w.cell? (x.add i)=some (.int k (zs.getD i 0)))/\∀ n ∈ zs,(Lit.int k n).wf=true
theorem bytes {l:List Int} (h:∀ x ∈ l,(Lit.int .u8 x).wf=true) (i:Nat):0<=l.getD i 0/\l.getD i 0<=255:=by
 have:=range_u8 h i
 rwa [List.getD_eq_getElem?_getD]
theorem lifted (os:Os) (started:os.Started) (H:Type) (enc:TypeId × Value->H):
  ReturnsInHanded {} Try.checked os 8 .any (Rows.fnTreeKidsSpec.pre6 enc Try.prog Try.f8 Rows.fnTreeKidsRow.domain false) (Rows.fnTreeKidsSpec.post enc Try.prog Try.f8 false true false false):=by
 refine returnsInHanded_of_change_sized (C:=Try.checked) own started (by kernel_rfl) Try.func8
  (ChangeSpec.witness6 (enc:=enc) (C:=Try.checked) false ⟨#[],#[.slice none 0 0], []⟩ 8 (by kernel_rfl) (by kernel_rfl) (by kernel_rfl) (by kernel_rfl)) ?_
 intro W base args ds gs before hval0 hW hcnd hsz0 _;have hval:∀ (j:Nat) t v,Try.f8.params[j]? = some t->args[j]? = some v->Value.okWide Try.prog W .any base t v:=hval0;have hW':=hW;obtain ⟨p,q,hA0,hV,rfl,hfz,hnd⟩:=hW;have hA:DataW.TrodAll enc Try.prog W 0 (fun _=>true) true Try.f8.params.toList args.toList ds p:=hA0;rw [Try.params8] at hA hval;obtain ⟨v0,vs0,d0,ds0,p0,q0,hargs,rfl,rfl,h0,r0⟩:=trodAll_cons hA;obtain ⟨rfl,rfl,rfl⟩:=trodAll_nil r0;obtain rfl:args= #[v0]:=by cases args;simp_all
 obtain ⟨rfl,rfl⟩:=trodVars_none hV;obtain ⟨a0,len0,cap0,rfl⟩:=okWide_slice Try.underlying22 (hval 0 22 v0 rfl rfl);have k0:=h0;have lt0:∀ x ∈ p0,x.block < W.heap.size:=by obtain ⟨m,hm⟩:=k0;exact DataW.trod_lt m _ _ _ hm
 obtain ⟨z0,w0⟩:∃ zs,IsRow .u8 W a0 len0 cap0 zs:=by
  obtain ⟨fuel,hf⟩:=h0;rcases open_ints Try.underlying22 Try.underlying5 (by kernel_rfl) hf with ⟨hcs,_⟩ | ⟨x,l,c,zs,hcs,_,hl,hm,hz,_,hcell,hwz⟩
  ·simp [Value.cells] at hcs
   obtain ⟨rfl,rfl,rfl⟩:=hcs;exact ⟨[],.inl ⟨rfl,rfl,rfl,rfl⟩⟩
  ·simp [Value.cells] at hcs
   obtain ⟨rfl,rfl,rfl⟩:=hcs;exact ⟨zs,.inr ⟨_,rfl,hl,hm,by simpa using hz,hcell,hwz⟩⟩
 obtain ⟨l0,rfl,hr0,hm0,hw0,hc0⟩:=ReadsInt.ofRowC w0;refine (Eq.fnTreeKids_calls a0 cap0 l0 W (Kd.C_of_reads (d:=(0:Int)) (h1:=fun _=>rfl) hr0) hc0 (bytes hw0)).mono fun e W' ⟨he,bel⟩=> ?_
 subst he;exact ⟨_,rfl,_,_,_, [],_, [],hW',trodAll_mk1 (shut_bool Try.underlying4 _),(trodAll_cons_mk (Below.trod laidOut (by kernel_rfl) (of_decide_eq_true (by kernel_rfl)) k0 bel lt0) trodAll_mk0),rfl,bel.frame _,fun h=>by cases h⟩
theorem over:Rows.fnTreeKidsRow.holds Try.pinned (OpenSpec.ofChange Rows.fnTreeKidsSpec):=
 OpenClaim.holds_of_wide 8 Try.f8 rfl rfl rfl rfl rfl rfl rfl ⟨rfl,rfl,rfl,rfl,rfl⟩ rfl rfl rfl rfl rfl (by kernel_rfl) Try.func8 (by kernel_rfl)
  (of_decide_eq_true (by kernel_rfl)) (by unfold Func.isWrapper;first|(rw [if_pos (by decide +kernel)];kernel_rfl)|(rw [if_neg (by decide +kernel)];exact ⟨rfl,rfl⟩))
  (fun os started H enc _=>lifted os started H enc)
theorem proved:Rows.FnTreeKidsSaid:=over
end Go.Proofs.Ytimamoimphjakaa.fnTreeKids
namespace Go.Proofs.Ytimamoimphjakaa
theorem fnTreeKids_holds:Rows.FnTreeKidsSaid:=fnTreeKids.proved
end Go.Proofs.Ytimamoimphjakaa
