/- The law FnTreeUnderOn: it returns true whatever the input, and the input reads as it did. No conditions. -/
import Derived.Test.YtimamoimphjakaaRows
import Derived.Test.YtimamoimphjakaaZ6
import Derived.ChangeOld
import Derived.OpenShut
import Derived.ProofKit
import Derived.ShutString
import Derived.SizedLaws
set_option maxHeartbeats 8000000
set_option maxRecDepth 100000
set_option linter.unusedVariables false
set_option linter.unusedSimpArgs false





namespace Go.Proofs.Ytimamoimphjakaa.Eq
open Go.RowKit Go.Proofs.YtimamoimphjakaaW.PrintWords Go.Proofs.YtimamoimphjakaaW.PrintLast Go.Proofs.YtimamoimphjakaaW.PrintMore
def under (ts:List Task):Nat->Int->Int->Bool
 | 0,_,_=>false
 | f+1,t,up=>if 0<=t/\t < (ts.length:Int)/\(taskAt ts t.toNat).up < t then (if (taskAt ts t.toNat).up=up then decide (0<=up) else under ts f (taskAt ts t.toNat).up up) else false
theorem under_more (ts:List Task) (up:Int):∀ (f:Nat) (t:Int),t < f->under ts (f+1) t up=under ts f t up
 | 0,t,h=>by
  unfold under
  rw [if_neg (by omega)]
 | f+1,t,h=>by
  unfold under;by_cases c:0<=t/\t < (ts.length:Int)/\(taskAt ts t.toNat).up < t
  ·rw [if_pos c,if_pos c,under_more ts up f _ (by omega)]
  ·rw [if_neg c,if_neg c]
theorem under_enough (ts:List Task) (up t:Int) (f d:Nat) (h:t < f):under ts (f+d) t up=under ts f t up:=by
 induction d with
 | zero=>rfl
 | succ d ih=>rw [<-Nat.add_assoc,under_more ts up (f+d) t (by omega),ih]
def underOf (ts:List Task) (t up:Int):Bool:=under ts (t.toNat+1) t up
theorem underOf_in {ts:List Task} {t up:Int} (h0:0<=t) (h1:t < (ts.length:Int)) (h2:(taskAt ts t.toNat).up < t):underOf ts t up=if (taskAt ts t.toNat).up=up then decide (0<=up) else underOf ts (taskAt ts t.toNat).up up:=by
 unfold underOf
 conv=>(lhs;unfold under)
 rw [if_pos ⟨h0,h1,h2⟩];have e:t.toNat=((taskAt ts t.toNat).up.toNat+1)+(t.toNat - ((taskAt ts t.toNat).up.toNat+1))\/(taskAt ts t.toNat).up < 0:=by omega
 by_cases hneg:(taskAt ts t.toNat).up < 0
 ·generalize (taskAt ts t.toNat).up=u at hneg h2
  have a1:∀ f,under ts f u up=false:=fun f=>by cases f with
   | zero=>rfl
   | succ f=>unfold under;rw [if_neg (by omega)]
  rw [a1,a1]
 ·generalize (taskAt ts t.toNat).up=u at hneg h2 e
  have e':t.toNat=(u.toNat+1)+(t.toNat - (u.toNat+1)):=by omega
  rw [e',under_enough ts up u (u.toNat+1) _ (by omega)]
theorem underOf_out {ts:List Task} {t up:Int} (h:¬ (0<=t/\t < (ts.length:Int)/\(taskAt ts t.toNat).up < t)):underOf ts t up=false:=by
 unfold underOf under;rw [if_neg h]
theorem specUnder_calls (s:Sys) (cs:List Value) (task up:Int) (w:World) (hx:kSys.K w s cs) (hn:s.tasks.length<=1048576):
  Calls Try.prog 22 #[.agg cs.toArray,.int .i64 task,.int .i64 up] w fun e w'=>e= .returned (.bool (underOf s.tasks task up))/\Below w.heap.size w w':=by
 obtain ⟨A0,c0,A1,c1,A3,c3,rfl,l0,g0,l1,g1,l3,g3⟩:=kSys_open hx;have G:=am g1;clear g0 g1 g3 l0 l1 l3 hx;go_enter Try.func22,Try.ntmps22;go_wp2_with ((with_reducible refine gate_dst (N:=3) rfl ?_);refine box_event rfl (N:=3) rfl (t:=27) (by go_simp<;>rfl) ?_;intro g hg w2 hbox hb;have BK:=am hbox;have HB:=am hb;have GE:=am (show w.heap.size<=g by omega);clear hbox hb hg;have hc:=zc8 BK.out)
 go_loopw [1] (fun v w'=>∃ t:Int,v= .int .i64 t/\Aside0 (underOf s.tasks task up=underOf s.tasks t up)/\Aside0 (w'.heap[g]? = some (.cells #[.slice A0 s.cells.length c0,.slice A1 s.tasks.length c1,.int .i64 s.clock,.slice A3 s.log.length c3] 27 (0,0)))/\Aside0 (Below w.heap.size w w')) (fun v _=>(intOf v+1).toNat)
 case atStart=>exact ⟨task,rfl,⟨rfl⟩,BK,HB⟩
 case round=>
  clear BK HB hc;obtain ⟨t,rfl,HJ,BK,HB⟩:=hrel;have BKc:=zc8 BK.out;by_cases hin:0<=t/\t < (s.tasks.length:Int)
  ·obtain ⟨m,rfl⟩:=Int.eq_ofNat_of_zero_le hin.1
   have hml:m < s.tasks.length:=by omega
   have HU:=am (show (decide (0<=(m:Int)) && decide ((m:Int)<=(s.tasks.length:Int) - 1))=true by simp;omega);obtain ⟨b,o,cs,hA,hcl,hK,hcc,hc0⟩:=C_field (Kd.C_below G.out HB.out) zTask m hml (by decide);cases hA;rw [show s.tasks.getD m zTask=taskAt s.tasks m from rfl] at hK;obtain ⟨B3,d3,B8,d8,B9,d9,B10,d10,rfl,_,_,_,_,_,_,_,_⟩:=kTask_open hK;have h_up:=hcc 2 _ rfl;simp only [show kTask.sz=13 from rfl] at h_up;have m0:(0:Int)<=(m:Int):=by omega
   have m1:(m:Int) < (s.tasks.length:Int):=by omega
   clear hcc hc0 hK hcl;by_cases hu:(taskAt s.tasks m).up < (m:Int)
   ·have y1:decide ((taskAt s.tasks m).up < (m:Int))=true:=decide_eq_true hu
    have HS:=am (underOf_in (up:=up) m0 m1 (by rw [Int.toNat_natCast];exact hu));by_cases he:(taskAt s.tasks m).up=up
    ·have y2:((taskAt s.tasks m).up == up)=true:=by simp [he]
     have HE:=am he;clear he;go_wp2_with (first|(go_at_call 50;refine (l6In_calls _ _ _ _).mono ?_;rw [HU.out];rintro e w1 ⟨rfl,rfl⟩))
     go_ret;exact ⟨ret_bool (by have h:=HS.out;rw [Int.toNat_natCast,if_pos HE.out] at h;rw [HJ.out,h]),HB.out⟩
    ·have y2:((taskAt s.tasks m).up == up)=false:=by simp [he]
     have HE:=am he;clear he;go_wp2_with (first|(go_at_call 50;refine (l6In_calls _ _ _ _).mono ?_;rw [HU.out];rintro e w1 ⟨rfl,rfl⟩))
     go_roundw
     case rel=>exact ⟨_,rfl,⟨by have h:=HS.out;rw [Int.toNat_natCast,if_neg HE.out] at h;rw [HJ.out,h]⟩,BK,HB⟩
     case measure=>simp only [intOf];omega
   ·have y1:decide ((taskAt s.tasks m).up < (m:Int))=false:=decide_eq_false hu
    have HS:=am (underOf_out (ts:=s.tasks) (t:=(m:Int)) (up:=up) (by rw [Int.toNat_natCast];omega));go_wp2_with (first|(go_at_call 50;refine (l6In_calls _ _ _ _).mono ?_;rw [HU.out];rintro e w1 ⟨rfl,rfl⟩))
    go_ret;exact ⟨ret_bool (by rw [HJ.out,HS.out]),HB.out⟩
  ·have HU:=am (show (decide (0<=t) && decide (t<=(s.tasks.length:Int) - 1))=false by simp;omega)
   have HS:=am (underOf_out (ts:=s.tasks) (t:=t) (up:=up) (by omega));clear hin;go_wp2_with (first|(go_at_call 50;refine (l6In_calls _ _ _ _).mono ?_;rw [HU.out];rintro e w1 ⟨rfl,rfl⟩))
   go_ret;exact ⟨ret_bool (by rw [HJ.out,HS.out]),HB.out⟩
theorem above_calls (s:Sys) (A0 A1 A3:Option Addr) (c0 c1 c3:Nat) (m g:Nat) (w:World) (hn:s.tasks.length<=1048576) (hm:m < s.tasks.length) (g1:kTask.C w A1 s.tasks.length s.tasks) (bk:w.heap[g]? = some (.cells #[.slice A0 s.cells.length c0,.slice A1 s.tasks.length c1,.int .i64 s.clock,.slice A3 s.log.length c3] 27 (0,0))):
  Calls Try.prog 52 #[.int .i64 m,.pointer (some ⟨g,0,none⟩)] w fun e w'=>e= .returned (.tuple #[.int .i64 (taskAt s.tasks m).up,.bool (decide (0<=(taskAt s.tasks m).up) && decide ((taskAt s.tasks m).up < (m:Int)))])/\w=w':=by
 have BKc:=zc8 bk;obtain ⟨b,o,cs,hA,hcl,hK,hcc,hc0⟩:=C_field g1 zTask m hm (by decide);cases hA;rw [show s.tasks.getD m zTask=taskAt s.tasks m from rfl] at hK;obtain ⟨B3,d3,B8,d8,B9,d9,B10,d10,rfl,_,_,_,_,_,_,_,_⟩:=kTask_open hK;have h_up:=hcc 2 _ rfl;simp only [show kTask.sz=13 from rfl] at h_up;have m0:(0:Int)<=(m:Int):=by omega
 have m1:(m:Int) < (s.tasks.length:Int):=by omega
 clear hcc hc0 hK hcl bk g1;go_enter Try.func52,Try.ntmps52;go_wp2_with (go_at_call 51;refine (isPlace_calls _ _ _).mono ?_;rintro e w1 ⟨rfl,rfl⟩)
 go_ret2;exact ⟨rfl,rfl⟩
theorem implUnder_calls (s:Sys) (cs:List Value) (task up:Int) (w:World) (hx:kSys.K w s cs) (hn:s.tasks.length<=1048576):
  Calls Try.prog 21 #[.agg cs.toArray,.int .i64 task,.int .i64 up] w fun e w'=>e= .returned (.bool (underOf s.tasks task up))/\Below w.heap.size w w':=by
 obtain ⟨A0,c0,A1,c1,A3,c3,rfl,l0,g0,l1,g1,l3,g3⟩:=kSys_open hx;have G:=am g1;clear g0 g1 g3 l0 l1 l3 hx;go_enter Try.func21,Try.ntmps21;by_cases hp:0<=task/\task < s.tasks.length
 ·obtain ⟨m,rfl⟩:=Int.eq_ofNat_of_zero_le hp.1
  have hm:m < s.tasks.length:=by omega
  have HP:=am (show (decide (0<=(m:Int)) && decide ((m:Int) < (s.tasks.length:Int)))=true by simp;omega);clear hp;go_wp2_with (first|((with_reducible refine gate_dst (N:=3) rfl ?_);refine box_event rfl (N:=3) rfl (t:=27) (by go_simp<;>rfl) ?_;intro g hg w2 hbox hb;have BK:=am hbox;have HB:=am hb;have GE:=am (show w.heap.size<=g by omega);clear hbox hb hg;have hc:=zc8 BK.out)|(go_at_call 51;refine (isPlace_calls _ _ _).mono ?_;rw [HP.out];rintro e w1 ⟨rfl,rfl⟩))
  go_loopw [1] (fun v w'=>∃ t:Nat,t < s.tasks.length/\v= .int .i64 t/\Aside0 (underOf s.tasks m up=underOf s.tasks t up)/\Aside0 (w'.heap[g]? = some (.cells #[.slice A0 s.cells.length c0,.slice A1 s.tasks.length c1,.int .i64 s.clock,.slice A3 s.log.length c3] 27 (0,0)))/\Aside0 (Below w.heap.size w w')) (fun v _=>(intOf v).toNat)
  case atStart=>exact ⟨m,hm,rfl,⟨rfl⟩,BK,HB⟩
  case round=>
   clear BK HB hc hm HP;obtain ⟨t,hml,rfl,HJ,BK,HB⟩:=hrel;have BKc:=zc8 BK.out;have m0:(0:Int)<=(t:Int):=by omega
   have m1:(t:Int) < (s.tasks.length:Int):=by omega
   by_cases hu:0<=(taskAt s.tasks t).up/\(taskAt s.tasks t).up < (t:Int)
   ·have HA:=am (show (decide (0<=(taskAt s.tasks t).up) && decide ((taskAt s.tasks t).up < (t:Int)))=true by simp;omega)
    have HS:=am (underOf_in (ts:=s.tasks) (up:=up) m0 m1 (by rw [Int.toNat_natCast];exact hu.2));by_cases he:(taskAt s.tasks t).up=up
    ·have y2:((taskAt s.tasks t).up == up)=true:=by simp [he]
     have HE:=am he;clear he;go_wp2_with (first|(go_at_call 52;refine (above_calls s A0 _ A3 c0 c1 c3 t g _ hn hml (Kd.C_below G.out HB.out) BK.out).mono ?_;rw [HA.out];rintro e w1 ⟨rfl,rfl⟩))
     go_ret;exact ⟨ret_bool (by have h:=HS.out;rw [Int.toNat_natCast,if_pos HE.out] at h;rw [HJ.out,h,<-HE.out,decide_eq_true hu.1]),HB.out⟩
    ·have y2:((taskAt s.tasks t).up == up)=false:=by simp [he]
     have HE:=am he;clear he;obtain ⟨u,hu'⟩:=Int.eq_ofNat_of_zero_le hu.1;have HUU:=am hu';clear hu';go_wp2_with (first|(go_at_call 52;refine (above_calls s A0 _ A3 c0 c1 c3 t g _ hn hml (Kd.C_below G.out HB.out) BK.out).mono ?_;rw [HA.out];rintro e w1 ⟨rfl,rfl⟩))
     go_roundw
     case rel=>exact ⟨u,by have:=HUU.out;omega,by rw [HUU.out],⟨by have h:=HS.out;rw [Int.toNat_natCast,if_neg HE.out,HUU.out] at h;rw [HJ.out,h]⟩,BK,HB⟩
     case measure=>simp only [intOf];omega
   ·have HA:=am (show (decide (0<=(taskAt s.tasks t).up) && decide ((taskAt s.tasks t).up < (t:Int)))=false by simp;omega)
    have HS:=am (show underOf s.tasks t up=false by
     by_cases h2:(taskAt s.tasks t).up < (t:Int)
     ·rw [underOf_in m0 m1 (by rw [Int.toNat_natCast];exact h2),Int.toNat_natCast,underOf_out (t:=(taskAt s.tasks t).up) (by omega)]
      split
      ·rename_i h3;rw [<-h3];simp;omega
      ·rfl
     ·exact underOf_out (by rw [Int.toNat_natCast];omega))
    clear hu;go_wp2_with (first|(go_at_call 52;refine (above_calls s A0 _ A3 c0 c1 c3 t g _ hn hml (Kd.C_below G.out HB.out) BK.out).mono ?_;rw [HA.out];rintro e w1 ⟨rfl,rfl⟩))
    go_ret;exact ⟨ret_bool (by rw [HJ.out,HS.out]),HB.out⟩
 ·have HP:=am (show (decide (0<=task) && decide (task < (s.tasks.length:Int)))=false by simp;omega)
  have HN:=am (underOf_out (ts:=s.tasks) (t:=task) (up:=up) (by omega));clear hp;go_wp2_with (first|((with_reducible refine gate_dst (N:=3) rfl ?_);refine box_event rfl (N:=3) rfl (t:=27) (by go_simp<;>rfl) ?_;intro g hg w2 hbox hb;have BK:=am hbox;have HB:=am hb;have GE:=am (show w.heap.size<=g by omega);clear hbox hb hg;have hc:=zc8 BK.out)|(go_at_call 51;refine (isPlace_calls _ _ _).mono ?_;rw [HP.out];rintro e w1 ⟨rfl,rfl⟩))
  go_ret;exact ⟨ret_bool HN.out.symm,HB.out⟩
end Go.Proofs.Ytimamoimphjakaa.Eq
namespace Go.Proofs.Ytimamoimphjakaa.Eq
section
variable {ts:List Task}
def upAt (ts:List Task) (t:Int):Int:=(taskAt ts t.toNat).up
theorem under_iff {t up:Int}:underOf ts t up=true ↔ (0<=t/\t < ts.length/\upAt ts t < t)/\((upAt ts t=up/\0<=up)\/(upAt ts t ≠ up/\underOf ts (upAt ts t) up=true)):=by
 by_cases h:0<=t/\t < (ts.length:Int)/\(taskAt ts t.toNat).up < t
 ·rw [underOf_in h.1 h.2.1 h.2.2]
  constructor
  ·intro hu
   refine ⟨h, ?_⟩;unfold upAt;split at hu
   ·rename_i he
    exact .inl ⟨he,by simpa using hu⟩
   ·rename_i he
    exact .inr ⟨he,hu⟩
  ·rintro ⟨_,hu⟩
   unfold upAt at hu;rcases hu with ⟨h1,h2⟩ | ⟨h1,h2⟩
   ·rw [if_pos h1]
    simpa using h2
   ·rw [if_neg h1]
    exact h2
 ·rw [underOf_out h]
  constructor
  ·intro hu
   cases hu
  ·rintro ⟨h1,_⟩
   exact absurd h1 h
theorem under_lt:∀ (n:Nat) {t up:Int},t.toNat < n->underOf ts t up=true->0<=up/\up < t/\0<=t/\t < ts.length
 | 0,t,up,h,_=>by omega
 | n+1,t,up,h,hu=>by
  obtain ⟨⟨h0,h1,h2⟩,h3⟩:=under_iff.1 hu;rcases h3 with ⟨rfl,h4⟩ | ⟨h4,h5⟩
  ·exact ⟨h4,h2,h0,h1⟩
  ·by_cases hneg:upAt ts t < 0
   ·obtain ⟨⟨h6,_⟩,_⟩:=under_iff.1 h5
    omega
   ·have:=under_lt n (by omega) h5
    omega
theorem under_in {t up:Int} (h:underOf ts t up=true):0<=up/\up < t/\0<=t/\t < ts.length:=under_lt _ (Nat.lt_succ_self _) h
theorem under_next {t up c:Int} (ht:0<=t/\t < ts.length/\upAt ts t < t) (hc:0<=c) (h:upAt ts t=c\/underOf ts (upAt ts t) c=true):underOf ts t c=true:=by
 rw [under_iff];refine ⟨ht, ?_⟩;by_cases he:upAt ts t=c
 ·exact .inl ⟨he,hc⟩
 ·exact .inr ⟨he,h.resolve_left he⟩
theorem under_on:∀ (n:Nat) {a b c:Int},a.toNat < n->underOf ts a b=true->underOf ts b c=true->underOf ts a c=true
 | 0,a,b,c,h,_,_=>by omega
 | n+1,a,b,c,h,h1,h2=>by
  have hb:=under_in h1;have hc:=under_in h2;obtain ⟨h3,h4⟩:=under_iff.1 h1;refine under_next (up:=b) h3 hc.1 (.inr ?_);rcases h4 with ⟨rfl,_⟩ | ⟨_,h6⟩
  ·exact h2
  ·have:=under_in h6
   exact under_on n (by omega) h6 h2
theorem under_trans {a b c:Int} (h1:underOf ts a b=true) (h2:underOf ts b c=true):underOf ts a c=true:=under_on _ (Nat.lt_succ_self _) h1 h2
theorem under_not_self (a:Int):underOf ts a a=false:=by
 rw [Bool.eq_false_iff];intro h;have:=under_in h;omega
end
end Go.Proofs.Ytimamoimphjakaa.Eq
namespace Go.Proofs.Ytimamoimphjakaa.Eq
open Go.RowKit Go.Proofs.YtimamoimphjakaaW.PrintWords Go.Proofs.YtimamoimphjakaaW.PrintLast Go.Proofs.YtimamoimphjakaaW.PrintMore
theorem task_up {W:World} {b o:Nat} {ts:List Task} (h:kTask.C W (some ⟨b,o,none⟩) ts.length ts) {i:Nat} (hi:i < ts.length):W.cell? ⟨b,o+i*13+2,none⟩=some (.int .i64 (taskAt ts i).up):=by
 obtain ⟨b2,o2,cs2,e2,hcl,hK,hcc,hc0⟩:=C_field h zTask i hi (by decide);cases e2;rw [show ts.getD i zTask=taskAt ts i from rfl] at hK;obtain ⟨B3,d3,B8,d8,B9,d9,B10,d10,rfl,_,_,_,_,_,_,_,_⟩:=kTask_open hK;exact hcc 2 _ rfl
end Go.Proofs.Ytimamoimphjakaa.Eq


namespace Go.Proofs.Ytimamoimphjakaa.Eq
open Go.RowKit Go.Proofs.YtimamoimphjakaaW.PrintWords Go.Proofs.YtimamoimphjakaaW.PrintLast Go.Proofs.YtimamoimphjakaaW.PrintMore
theorem task_upK {W:World} {s:Sys} {A0 A3:Option Addr} {c0 c1 c3 b o:Nat} (h:kSys.K W s [.slice A0 s.cells.length c0,.slice (some ⟨b,o,none⟩) s.tasks.length c1,.int .i64 s.clock,.slice A3 s.log.length c3]) {i:Nat} (hi:i < s.tasks.length):W.cell? ⟨b,o+i*13+2,none⟩=some (.int .i64 (taskAt s.tasks i).up):=by
 obtain ⟨B0,d0,B1,d1,B3,d3,he,-,-,-,h1,-,-⟩:=kSys_open h;simp only [List.cons.injEq,Value.slice.injEq] at he;obtain ⟨-,⟨rfl,-⟩,-⟩:=he;exact task_up h1 hi
def UnderPost (w:World) (e:Ending) (w':World):Prop:=∃ s ss x y,e= .returned (.tuple #[.agg ss.toArray,.int .i64 x,.int .i64 y])/\Drawn w s ss w'
theorem drawUnder_calls (A:Option Addr) (c:Nat) (l:List Int) (w:World) (hC:(Kd.int .u8).C w A l.length l) (hc:l.length<=c) (hb:∀ i:Nat,0<=l.getD i 0/\l.getD i 0<=255):
  Calls Try.prog 20 #[.slice A l.length c] w fun e w'=>UnderPost w e w':=by
 have HC:=am hC;have HL:=am hc;have HY:=am hb;clear hC hc hb;go_enter Try.func20,Try.ntmps20
 go_wp2_with (first
 |((with_reducible refine gate_dst (N:=2) rfl ?_);refine box_event rfl (N:=2) rfl (t:=27) (by go_simp<;>rfl) ?_;intro gz hg w2 hbox hb;have BZ:=am hbox;clear hbox;have LZ:=am (Nat.le_of_eq hg.symm);clear hg;have HB2:=am hb;clear hb;have HB:=HB2;clear HB2;have BZc:=zc8 BZ.out)
 |(go_at_call 47;refine (open_rds A c l _ (Kd.C_below HC.out HB.out) HL.out HY.out).mono ?_;rintro e wo ⟨g,bs,rfl,hi,hcd,hbo⟩;have HI:=am hi;have HCD:=am hcd;have HBO:=am hbo;clear hi hcd hbo)
 |(go_at_call 48;refine (l71Off_calls _ _ g bs 0 HI.out HBO.out HCD.out (by decide) (by decide)).mono ?_;rintro e wf ⟨p,s,vc,vb,ss,q,rfl,-,-,hvc,hvb,hs,hsz,hln,htl,hd,hq0,hq1⟩;obtain ⟨Ac,cc,ev⟩:=Kd.R_slice hvc;subst ev;obtain ⟨Ab,cb,ev⟩:=Kd.R_slice hvb;subst ev;clear hvc hvb;have LG:=am (show w.heap.size<=wo.heap.size from Nat.le_trans HB.out.size HBO.out.size);have LZO:=am (blk_lt (zb8 BZ.out HBO.out));clear HBO HI BZc;obtain ⟨A0,c0,A1,c1,A3,c3,rfl,-,-,-,hg1,-,-⟩:=kSys_open hs.now;obtain ⟨b,o,-,rfl,-⟩:=C_field hg1 zTask 0 htl (by decide);clear hg1;have HS:=am hs;have HSZ:=am hsz;have HLN:=am (show s.tasks.length<=1000 by omega);have HTL:=am htl;have HD:=am hd;have HQ:=am (show 0<=q/\q<=8000 from ⟨hq0,by omega⟩);clear hs hsz hln htl hd hq0 hq1)
 |((with_reducible refine gate_dst (N:=6) rfl ?_);refine box_event rfl (N:=6) rfl (t:=48) (by go_simp<;>rfl) ?_;intro gp hg wt hbox hb;have BP0:=am hbox;have LBP:=am (Nat.le_of_eq hg.symm);have HBT:=am hb;clear hbox hb hg)
 |((with_reducible refine gate_dst (N:=7) rfl ?_);refine box_event rfl (N:=7) rfl (t:=27) (by go_simp<;>rfl) ?_;intro gs hg wt hbox hb;have NBPBS:=am (show gp ≠ gs from fun he=>by have:=blk_lt BP0.out;omega);replace BP0:=am (zb8 BP0.out hb);have BS0:=am hbox;have LBS:=am (Nat.le_trans HBT.out.size (Nat.le_of_eq hg.symm));replace HBT:=am (below_step HBT.out hb);clear hbox hb hg)
 |((with_reducible refine gate_store (t:=48) (p:=6) rfl ?_);refine store_block rfl rfl 48 (.tmp 6) (.tmp 16) rfl rfl rfl BP0.out rfl (by kernel_rfl) (aB rfl) ?_;intro wn hbox hg;have BP:=am hbox;replace BS0:=am (blk_grown BS0.out hg (fun he=>NBPBS.out (by injection he with he;exact he.symm)));replace HBT:=am (pw_below_grown HBT.out _ HBT.out.size hg (fun z hz=>by cases hz;exact LBP.out));clear BP0 hbox hg)
 |((with_reducible refine gate_store (t:=27) (p:=7) rfl ?_);refine store_block rfl rfl 27 (.tmp 7) (.tmp 17) rfl rfl rfl BS0.out rfl (by kernel_rfl) (aB rfl) ?_;intro wn hbox hg;have BS:=am hbox;replace BP:=am (blk_grown BP.out hg (fun he=>NBPBS.out (by injection he)));replace HBT:=am (pw_below_grown HBT.out _ HBT.out.size hg (fun z hz=>by cases hz;exact LBS.out));clear BS0 hbox hg;have hbT:=HBT.out;clear HBT;replace HS:=am (HS.out.grow hbT);replace HD:=am (HD.out.grow hbT);clear hbT;have BPc:=zc8 BP.out;have BSc:=zc8 BS.out)
 |(go_at_call 49;fail))
 refine (pick_rds HD.out HCD.out (by have:=HQ.out;omega) (wrap64 ((s.tasks.length:Int)+1))).mono ?_;rintro e wn ⟨x,q2,rfl,-,hq2,hd,hk⟩;replace HS:=am (HS.out.keep hk);replace BS:=am (HD.out.blkK hk BS.out (by decide));replace HD:=am hd;replace HQ:=am (show 0<=q2/\q2<=8001 from by have:=HQ.out;omega);clear BSc hk hd hq2;have BSc:=zc8 BS.out
 go_wp2_with (first
 |(go_at_call 49;fail))
 refine (pick_rds HD.out HCD.out (by have:=HQ.out;omega) 9).mono ?_;rintro e wn ⟨y,q2,rfl,-,hq2,hd,hk⟩;replace HS:=am (HS.out.keep hk);replace BS:=am (HD.out.blkK hk BS.out (by decide));replace HD:=am hd;replace HQ:=am (show 0<=q2/\q2<=8002 from by have:=HQ.out;omega);clear BSc hk hd hq2;have BSc:=zc8 BS.out
 go_wp2_with (first
 |(go_at_call 49;fail))
 refine (pick_rds HD.out HCD.out (by have:=HQ.out;omega) (wrap64 ((s.tasks.length:Int)+1))).mono ?_;rintro e wn ⟨x2,q2,rfl,-,hq2,hd,hk⟩;replace HS:=am (HS.out.keep hk);replace BS:=am (HD.out.blkK hk BS.out (by decide));replace HD:=am hd;replace HQ:=am (show 0<=q2/\q2<=8003 from by have:=HQ.out;omega);clear BSc hk hd hq2;have BSc:=zc8 BS.out
 go_wp2_with (first
 |(go_at_call 49;fail))
 refine (pick_rds HD.out HCD.out (by have:=HQ.out;omega) 9).mono ?_;rintro e wn ⟨y2,q2,rfl,-,hq2,hd,hk⟩;have HS_:=am (HS.out.keep hk);have BS_:=am (HD.out.blkK hk BS.out (by decide));have HD_:=am hd;have HQ_:=am (show 0<=q2/\q2<=8004 from by have:=HQ.out;omega);clear HS BS BSc HD HQ hk hd hq2;have HS:=HS_;have BS:=BS_;have HD:=HD_;have HQ:=HQ_;clear HS_ BS_ HD_ HQ_;have BSc:=zc8 BS.out;obtain ⟨N9,hN9⟩:∃ N:Nat,Held wo.heap.size N g s [.slice A0 s.cells.length c0,.slice (some ⟨b,o,none⟩) s.tasks.length c1,.int .i64 s.clock,.slice A3 s.log.length c3] wn:=⟨_,HS.out⟩;clear HS;have HS:=am hN9;clear hN9;have HQ_:=am (show 0<=q2/\q2<=8010+3*((0:Nat):Int) from by have:=HQ.out;omega);clear HQ;have HQ:=HQ_;clear HQ_;go_wp2;go_loopw [8,9,10] (fun v v2 i w'=>∃ k:Nat,k<=10/\i= .int .i64 k/\(∃ u:Int,v= .int .i64 u)/\(∃ u:Int,v2= .int .i64 u)/\∃ q:Int,Aside0 (Held wo.heap.size N9 g s [.slice A0 s.cells.length c0,.slice (some ⟨b,o,none⟩) s.tasks.length c1,.int .i64 s.clock,.slice A3 s.log.length c3] w')/\Aside0 (w'.heap[gs]? = some (.cells #[.slice A0 s.cells.length c0,.slice (some ⟨b,o,none⟩) s.tasks.length c1,.int .i64 s.clock,.slice A3 s.log.length c3] 27 (0,0)))/\Aside0 (Rds _ wo g bs q w')/\Aside0 (0<=q/\q<=8010+3*(k:Int))) (fun _ _ i _=>11 - (intOf i).toNat)
 case atStart=>exact ⟨0,by omega,rfl,⟨_,rfl⟩,⟨_,rfl⟩,q2,HS,BS,HD,HQ⟩
 case round=>
  clear HS BS HD HQ BSc;obtain ⟨k,hk,rfl,⟨u,rfl⟩,⟨v,rfl⟩,q,HS,BS,HD,HQ⟩:=hrel;have BSc:=zc8 BS.out;have htl9:=HTL.out;have hln9:=HLN.out;have hw9:wrap64 ((s.tasks.length:Int) - 1)=(s.tasks.length:Int) - 1:=by unfold wrap64;omega
  by_cases hk9:(k:Int) < 10
  ·have yk:decide ((k:Int) < 10)=true:=decide_eq_true hk9
   go_wp2_with (first
   |(go_at_call 49;fail))
   refine (pick_rds HD.out HCD.out (by have:=HQ.out;omega) 12).mono ?_;rintro e wn ⟨x,q2,rfl,-,hq2,hd,hk⟩;replace HS:=am (HS.out.keep hk);replace BS:=am (HD.out.blkK hk BS.out (by decide));replace HD:=am hd;replace HQ:=am (show 0<=q2/\q2<=8010+3*(k:Int)+1 from by have:=HQ.out;omega);clear BSc hk hd hq2;have BSc:=zc8 BS.out;by_cases hx0:0 < (x:Int)
   ·have yx:decide ((0:Int) < (x:Int))=true:=decide_eq_true hx0
    obtain ⟨un,hun⟩:∃ z,underOf s.tasks u v=z:=⟨_,rfl⟩;have UN:=am hun;clear hun
    cases un with
    | true=>
     go_wp2_with (first
     |((with_reducible refine gate_dst (N:=46) rfl ?_);refine wpList_load_mid rfl 27 (.tmp 7) rfl gs 0 rfl _ _ (lC BS.out) Try.underlying27 rfl (by kernel_rfl) ?_)
     |(go_at_call 22;refine (specUnder_calls s _ u v _ HS.out.now (Nat.le_trans HLN.out (by decide))).mono ?_;rintro e wn ⟨rfl,hb⟩;(try rw [UN.out]);replace HS:=am (HS.out.grow hb);replace BS:=am (zb8 BS.out hb);replace HD:=am (HD.out.grow hb);clear hb BSc;have BSc:=zc8 BS.out)
     |((with_reducible refine gate_dst (N:=82) rfl ?_);refine wpList_load_mid rfl 27 (.tmp 7) rfl gs 0 rfl _ _ (lC BS.out) Try.underlying27 rfl (by kernel_rfl) ?_)
     |((with_reducible refine gate_store (t:=27) (p:=2) rfl ?_);refine store_block rfl rfl 27 (.tmp 2) (.tmp 82) rfl rfl rfl (zb8 BZ.out HD.out.below) rfl (by kernel_rfl) (aB rfl) ?_;intro wz hbox hg;have BZz:=am hbox;have HSz:=am (HS.out.grown hg (fun z hz=>by cases hz;exact .inl LZO.out));have HBz:=am (pw_below_grown (below_step HB.out HD.out.below) _ (below_step HB.out HD.out.below).size hg (fun z hz=>by cases hz;exact LZ.out));clear hbox hg))
     refine bodyPost_ret (results_ctt Try.results20 _ wz gz 27 #[.slice A0 s.cells.length c0,.slice (some ⟨b,o,none⟩) s.tasks.length c1,.int .i64 s.clock,.slice A3 s.log.length c3] (0,0) _ rfl BZz.out Try.underlying27 rfl (by kernel_rfl)) rfl ⟨s,_,_,_,rfl,⟨HSz.out.wide LG.out,HSZ.out,HTL.out,HLN.out,HBz.out⟩⟩
    | false=>
     go_wp2_with (first
     |((with_reducible refine gate_dst (N:=46) rfl ?_);refine wpList_load_mid rfl 27 (.tmp 7) rfl gs 0 rfl _ _ (lC BS.out) Try.underlying27 rfl (by kernel_rfl) ?_)
     |(go_at_call 22;refine (specUnder_calls s _ u v _ HS.out.now (Nat.le_trans HLN.out (by decide))).mono ?_;rintro e wn ⟨rfl,hb⟩;(try rw [UN.out]);replace HS:=am (HS.out.grow hb);replace BS:=am (zb8 BS.out hb);replace HD:=am (HD.out.grow hb);clear hb BSc;have BSc:=zc8 BS.out)
     |(go_at_call 49;fail))
     refine (pick_rds HD.out HCD.out (by have:=HQ.out;omega) (s.tasks.length:Int)).mono ?_;rintro e wn ⟨y,q2,rfl,hy,hq2,hd,hk⟩;replace HS:=am (HS.out.keep hk);replace BS:=am (HD.out.blkK hk BS.out (by decide));replace HD:=am hd;replace HQ:=am (show 0<=q2/\q2<=8010+3*(k:Int)+2 from by have:=HQ.out;omega);clear BSc hk hd hq2;have BSc:=zc8 BS.out;have hyl:y < s.tasks.length:=by omega
     have gu:=task_upK HS.out.now hyl;have p0:(0:Int)<=(y:Int):=by omega
     have p1:(y:Int) < (s.tasks.length:Int):=by omega
     obtain ⟨z,hz⟩:∃ z,(taskAt s.tasks y).up=z:=⟨_,rfl⟩;rw [hz] at gu;clear hz hy;by_cases hin:0<=z/\z<=(s.tasks.length:Int) - 1
     ·have IN:=am (show (decide ((0:Int)<=z) && decide (z<=(s.tasks.length:Int) - 1))=true by rw [decide_eq_true hin.1,decide_eq_true hin.2];rfl)
      have z0:=hin.1;have z1:z < (s.tasks.length:Int):=by omega
      clear hin
      go_wp2_with (first
      |(go_at_call 50;refine (l6In_calls _ _ _ _).mono ?_;rw [IN.out];rintro e w9 ⟨rfl,rfl⟩)
      |(go_at_call 49;fail))
      refine (pick_rds HD.out HCD.out (by have:=HQ.out;omega) 3).mono ?_;rintro e wn ⟨r,q2,rfl,-,hq2,hd,hk⟩;replace HS:=am (HS.out.keep hk);replace BS:=am (HD.out.blkK hk BS.out (by decide));replace HD:=am hd;replace HQ:=am (show 0<=q2/\q2<=8010+3*(k:Int)+3 from by have:=HQ.out;omega);clear BSc hk hd hq2;have BSc:=zc8 BS.out;by_cases hr:(r:Int)=0
      ·have yr:((r:Int) == 0)=true:=by rw [beq_iff_eq];exact hr
       obtain ⟨zn,rfl⟩:=Int.eq_ofNat_of_zero_le z0;clear gu;have gw:=task_upK HS.out.now (i:=zn) (by omega);go_wp2;go_roundw
       case rel=>exact ⟨k+1,by omega,by go_num,⟨_,rfl⟩,⟨_,rfl⟩,_,HS,BS,HD,⟨by have:=HQ.out;omega⟩⟩
       case measure=>simp [intOf];omega
      ·have yr:((r:Int) == 0)=false:=by rw [beq_eq_false_iff_ne];exact hr
       go_wp2;go_roundw
       case rel=>exact ⟨k+1,by omega,by go_num,⟨_,rfl⟩,⟨_,rfl⟩,_,HS,BS,HD,⟨by have:=HQ.out;omega⟩⟩
       case measure=>simp [intOf];omega
     ·have IN:=am (show (decide ((0:Int)<=z) && decide (z<=(s.tasks.length:Int) - 1))=false by rw [Bool.and_eq_false_iff,decide_eq_false_iff_not,decide_eq_false_iff_not];omega)
      clear hin
      go_wp2_with (first
      |(go_at_call 50;refine (l6In_calls _ _ _ _).mono ?_;rw [IN.out];rintro e w9 ⟨rfl,rfl⟩))
      go_roundw
      case rel=>exact ⟨k+1,by omega,by go_num,⟨_,rfl⟩,⟨_,rfl⟩,_,HS,BS,HD,⟨by have:=HQ.out;omega⟩⟩
      case measure=>simp [intOf];omega
   ·have yx:decide ((0:Int) < (x:Int))=false:=decide_eq_false hx0
    go_wp2_with (first
    |((with_reducible refine gate_dst (N:=46) rfl ?_);refine wpList_load_mid rfl 27 (.tmp 7) rfl gs 0 rfl _ _ (lC BS.out) Try.underlying27 rfl (by kernel_rfl) ?_)
    |(go_at_call 22;refine (specUnder_calls s _ u v _ HS.out.now (Nat.le_trans HLN.out (by decide))).mono ?_;rintro e wn ⟨rfl,hb⟩;replace HS:=am (HS.out.grow hb);replace BS:=am (zb8 BS.out hb);replace HD:=am (HD.out.grow hb);clear hb BSc;have BSc:=zc8 BS.out)
    |((with_reducible refine gate_dst (N:=82) rfl ?_);refine wpList_load_mid rfl 27 (.tmp 7) rfl gs 0 rfl _ _ (lC BS.out) Try.underlying27 rfl (by kernel_rfl) ?_)
    |((with_reducible refine gate_store (t:=27) (p:=2) rfl ?_);refine store_block rfl rfl 27 (.tmp 2) (.tmp 82) rfl rfl rfl (zb8 BZ.out HD.out.below) rfl (by kernel_rfl) (aB rfl) ?_;intro wz hbox hg;have BZz:=am hbox;have HSz:=am (HS.out.grown hg (fun z hz=>by cases hz;exact .inl LZO.out));have HBz:=am (pw_below_grown (below_step HB.out HD.out.below) _ (below_step HB.out HD.out.below).size hg (fun z hz=>by cases hz;exact LZ.out));clear hbox hg))
    refine bodyPost_ret (results_ctt Try.results20 _ wz gz 27 #[.slice A0 s.cells.length c0,.slice (some ⟨b,o,none⟩) s.tasks.length c1,.int .i64 s.clock,.slice A3 s.log.length c3] (0,0) _ rfl BZz.out Try.underlying27 rfl (by kernel_rfl)) rfl ⟨s,_,_,_,rfl,⟨HSz.out.wide LG.out,HSZ.out,HTL.out,HLN.out,HBz.out⟩⟩
  ·have yk:decide ((k:Int) < 10)=false:=decide_eq_false hk9
   go_wp2_with (first
   |((with_reducible refine gate_dst (N:=46) rfl ?_);refine wpList_load_mid rfl 27 (.tmp 7) rfl gs 0 rfl _ _ (lC BS.out) Try.underlying27 rfl (by kernel_rfl) ?_)
   |(go_at_call 22;refine (specUnder_calls s _ u v _ HS.out.now (Nat.le_trans HLN.out (by decide))).mono ?_;rintro e wn ⟨rfl,hb⟩;replace HS:=am (HS.out.grow hb);replace BS:=am (zb8 BS.out hb);replace HD:=am (HD.out.grow hb);clear hb BSc;have BSc:=zc8 BS.out)
   |((with_reducible refine gate_dst (N:=82) rfl ?_);refine wpList_load_mid rfl 27 (.tmp 7) rfl gs 0 rfl _ _ (lC BS.out) Try.underlying27 rfl (by kernel_rfl) ?_)
   |((with_reducible refine gate_store (t:=27) (p:=2) rfl ?_);refine store_block rfl rfl 27 (.tmp 2) (.tmp 82) rfl rfl rfl (zb8 BZ.out HD.out.below) rfl (by kernel_rfl) (aB rfl) ?_;intro wz hbox hg;have BZz:=am hbox;have HSz:=am (HS.out.grown hg (fun z hz=>by cases hz;exact .inl LZO.out));have HBz:=am (pw_below_grown (below_step HB.out HD.out.below) _ (below_step HB.out HD.out.below).size hg (fun z hz=>by cases hz;exact LZ.out));clear hbox hg))
   refine bodyPost_ret (results_ctt Try.results20 _ wz gz 27 #[.slice A0 s.cells.length c0,.slice (some ⟨b,o,none⟩) s.tasks.length c1,.int .i64 s.clock,.slice A3 s.log.length c3] (0,0) _ rfl BZz.out Try.underlying27 rfl (by kernel_rfl)) rfl ⟨s,_,_,_,rfl,⟨HSz.out.wide LG.out,HSZ.out,HTL.out,HLN.out,HBz.out⟩⟩
theorem fnTreeUnderOn_calls (A:Option Addr) (c:Nat) (l:List Int) (A2:Option Addr) (c2:Nat) (l2:List Int) (w:World) (hC:(Kd.int .u8).C w A l.length l) (hc:l.length<=c) (hb:∀ i:Nat,0<=l.getD i 0/\l.getD i 0<=255) (hC2:(Kd.int .u8).C w A2 l2.length l2) (hc2:l2.length<=c2) (hb2:∀ i:Nat,0<=l2.getD i 0/\l2.getD i 0<=255):
  Calls Try.prog 5 #[.slice A l.length c,.slice A2 l2.length c2] w fun e w'=>e= .returned (.bool true)/\Below w.heap.size w w':=by
 have HC:=am hC;have HL:=am hc;have HY:=am hb;clear hC hc hb hC2 hc2 hb2;by_cases hbig:(1048576:Int) < (l.length:Int)
 ·have ybig:decide ((1048576:Int) < (l.length:Int))=true:=decide_eq_true hbig
  go_enter Try.func5,Try.ntmps5;go_wp2;go_ret;exact ⟨rfl,Below.refl _ _⟩
 ·have ybig:decide ((1048576:Int) < (l.length:Int))=false:=decide_eq_false hbig
  by_cases hbig2:(1048576:Int) < (l2.length:Int)
  ·have ybig2:decide ((1048576:Int) < (l2.length:Int))=true:=decide_eq_true hbig2
   go_enter Try.func5,Try.ntmps5;go_wp2;go_ret;exact ⟨rfl,Below.refl _ _⟩
  ·have ybig2:decide ((1048576:Int) < (l2.length:Int))=false:=decide_eq_false hbig2
   go_enter Try.func5,Try.ntmps5
   go_wp2_with (first
   |(go_at_call 20;refine (drawUnder_calls A c l _ HC.out HL.out HY.out).mono ?_;rintro e wf ⟨s,ss,x,y,rfl,hd⟩;obtain ⟨A0,c0,A1,c1,A3,c3,rfl,-,-,-,hg1,-,-⟩:=kSys_open hd.read;obtain ⟨b,o,-,rfl,-⟩:=C_field hg1 zTask 0 hd.pos (by decide);have HB:=am hd.below;have SK:=am hd.read;have G1:=am hg1;have HN:=am (show s.tasks.length<=1048576 from Nat.le_trans hd.few (by decide));have HTL:=am hd.pos;have HLN:=am hd.few;clear hd hg1;have htz:=HTL.out)
   |((with_reducible refine gate_dst (N:=5) rfl ?_);refine box_event rfl (N:=5) rfl (t:=27) (by go_simp<;>rfl) ?_;intro gs hg wt hbox hb;have BS0:=am hbox;have LBS:=am (Nat.le_of_eq hg.symm);have HBT:=am hb;clear hbox hb hg)
   |((with_reducible refine gate_store (t:=27) (p:=5) rfl ?_);refine store_block rfl rfl 27 (.tmp 5) (.tmp 21) rfl rfl rfl BS0.out rfl (by kernel_rfl) (aB rfl) ?_;intro wn hbox hg;have BS:=am hbox;replace HBT:=am (pw_below_grown HBT.out _ HBT.out.size hg (fun z hz=>by cases hz;exact LBS.out));clear BS0 hbox hg;have hbT:=HBT.out;clear HBT;replace HB:=am (below_step HB.out hbT);replace SK:=am (kSys.K_below hbT SK.out);replace G1:=am (Kd.C_below G1.out hbT);clear hbT;have BSc:=zc8 BS.out)
   |((with_reducible refine gate_dst (N:=30) rfl ?_);refine wpList_load_mid rfl 27 (.tmp 5) rfl gs 0 rfl _ _ (lC BS.out) Try.underlying27 rfl (by kernel_rfl) ?_)
   |(go_at_call 21;fail))
   obtain ⟨z,hz⟩:∃ z:Int,(l2.length:Int) % (s.tasks.length:Int)=z:=⟨_,rfl⟩;simp only [hz];clear hz;have UX:=am (under_not_self (ts:=s.tasks) x);obtain ⟨un,hun⟩:∃ z,underOf s.tasks x y=z:=⟨_,rfl⟩;have UN:=am hun;clear hun
   cases un with
   | false=>
    refine (implUnder_calls s _ _ _ _ SK.out HN.out).mono ?_;rw [UN.out];rintro e wn ⟨rfl,hb⟩;replace HB:=am (below_step HB.out hb);replace SK:=am (kSys.K_below hb SK.out);replace G1:=am (Kd.C_below G1.out hb);replace BS:=am (zb8 BS.out hb);clear BSc hb;have BSc:=zc8 BS.out
    go_wp2_with (first
    |((with_reducible refine gate_dst (N:=35) rfl ?_);refine wpList_load_mid rfl 27 (.tmp 5) rfl gs 0 rfl _ _ (lC BS.out) Try.underlying27 rfl (by kernel_rfl) ?_)
    |((with_reducible refine gate_dst (N:=44) rfl ?_);refine wpList_load_mid rfl 27 (.tmp 5) rfl gs 0 rfl _ _ (lC BS.out) Try.underlying27 rfl (by kernel_rfl) ?_)
    |((with_reducible refine gate_dst (N:=51) rfl ?_);refine wpList_load_mid rfl 27 (.tmp 5) rfl gs 0 rfl _ _ (lC BS.out) Try.underlying27 rfl (by kernel_rfl) ?_)
    |((with_reducible refine gate_dst (N:=58) rfl ?_);refine wpList_load_mid rfl 27 (.tmp 5) rfl gs 0 rfl _ _ (lC BS.out) Try.underlying27 rfl (by kernel_rfl) ?_)
    |(go_at_call 22;refine (specUnder_calls s _ _ _ _ SK.out HN.out).mono ?_;(first|rw [UN.out]);rintro e wn ⟨rfl,hb⟩;replace HB:=am (below_step HB.out hb);replace SK:=am (kSys.K_below hb SK.out);replace G1:=am (Kd.C_below G1.out hb);replace BS:=am (zb8 BS.out hb);clear BSc hb;have BSc:=zc8 BS.out)
    |(go_at_call 21;refine (implUnder_calls s _ _ _ _ SK.out HN.out).mono ?_;(first|rw [UX.out]);rintro e wn ⟨rfl,hb⟩;replace HB:=am (below_step HB.out hb);replace SK:=am (kSys.K_below hb SK.out);replace G1:=am (Kd.C_below G1.out hb);replace BS:=am (zb8 BS.out hb);clear BSc hb;have BSc:=zc8 BS.out))
    go_ret
    exact ⟨rfl,HB.out⟩
   | true=>
    obtain ⟨vn,hvn⟩:∃ q,underOf s.tasks y z=q:=⟨_,rfl⟩;have VN:=am hvn;clear hvn;refine (implUnder_calls s _ _ _ _ SK.out HN.out).mono ?_;rw [UN.out];rintro e wn ⟨rfl,hb⟩;replace HB:=am (below_step HB.out hb);replace SK:=am (kSys.K_below hb SK.out);replace G1:=am (Kd.C_below G1.out hb);replace BS:=am (zb8 BS.out hb);clear BSc hb;have BSc:=zc8 BS.out
    cases vn with
    | false=>
     go_wp2_with (first
     |((with_reducible refine gate_dst (N:=35) rfl ?_);refine wpList_load_mid rfl 27 (.tmp 5) rfl gs 0 rfl _ _ (lC BS.out) Try.underlying27 rfl (by kernel_rfl) ?_)
     |((with_reducible refine gate_dst (N:=44) rfl ?_);refine wpList_load_mid rfl 27 (.tmp 5) rfl gs 0 rfl _ _ (lC BS.out) Try.underlying27 rfl (by kernel_rfl) ?_)
     |((with_reducible refine gate_dst (N:=51) rfl ?_);refine wpList_load_mid rfl 27 (.tmp 5) rfl gs 0 rfl _ _ (lC BS.out) Try.underlying27 rfl (by kernel_rfl) ?_)
     |((with_reducible refine gate_dst (N:=58) rfl ?_);refine wpList_load_mid rfl 27 (.tmp 5) rfl gs 0 rfl _ _ (lC BS.out) Try.underlying27 rfl (by kernel_rfl) ?_)
     |(go_at_call 22;refine (specUnder_calls s _ _ _ _ SK.out HN.out).mono ?_;(first|rw [UN.out]);rintro e wn ⟨rfl,hb⟩;replace HB:=am (below_step HB.out hb);replace SK:=am (kSys.K_below hb SK.out);replace G1:=am (Kd.C_below G1.out hb);replace BS:=am (zb8 BS.out hb);clear BSc hb;have BSc:=zc8 BS.out)
     |(go_at_call 21;refine (implUnder_calls s _ _ _ _ SK.out HN.out).mono ?_;(first|rw [VN.out] | rw [UX.out]);rintro e wn ⟨rfl,hb⟩;replace HB:=am (below_step HB.out hb);replace SK:=am (kSys.K_below hb SK.out);replace G1:=am (Kd.C_below G1.out hb);replace BS:=am (zb8 BS.out hb);clear BSc hb;have BSc:=zc8 BS.out))
     go_ret
     exact ⟨rfl,HB.out⟩
    | true=>
     have XN:=am (under_trans UN.out VN.out)
     go_wp2_with (first
     |((with_reducible refine gate_dst (N:=35) rfl ?_);refine wpList_load_mid rfl 27 (.tmp 5) rfl gs 0 rfl _ _ (lC BS.out) Try.underlying27 rfl (by kernel_rfl) ?_)
     |((with_reducible refine gate_dst (N:=44) rfl ?_);refine wpList_load_mid rfl 27 (.tmp 5) rfl gs 0 rfl _ _ (lC BS.out) Try.underlying27 rfl (by kernel_rfl) ?_)
     |((with_reducible refine gate_dst (N:=51) rfl ?_);refine wpList_load_mid rfl 27 (.tmp 5) rfl gs 0 rfl _ _ (lC BS.out) Try.underlying27 rfl (by kernel_rfl) ?_)
     |((with_reducible refine gate_dst (N:=58) rfl ?_);refine wpList_load_mid rfl 27 (.tmp 5) rfl gs 0 rfl _ _ (lC BS.out) Try.underlying27 rfl (by kernel_rfl) ?_)
     |(go_at_call 22;refine (specUnder_calls s _ _ _ _ SK.out HN.out).mono ?_;(first|rw [UN.out]);rintro e wn ⟨rfl,hb⟩;replace HB:=am (below_step HB.out hb);replace SK:=am (kSys.K_below hb SK.out);replace G1:=am (Kd.C_below G1.out hb);replace BS:=am (zb8 BS.out hb);clear BSc hb;have BSc:=zc8 BS.out)
     |(go_at_call 21;refine (implUnder_calls s _ _ _ _ SK.out HN.out).mono ?_;(first|rw [VN.out] | rw [UX.out] | rw [XN.out]);rintro e wn ⟨rfl,hb⟩;replace HB:=am (below_step HB.out hb);replace SK:=am (kSys.K_below hb SK.out);replace G1:=am (Kd.C_below G1.out hb);replace BS:=am (zb8 BS.out hb);clear BSc hb;have BSc:=zc8 BS.out))
     go_ret;exact ⟨rfl,HB.out⟩
end Go.Proofs.Ytimamoimphjakaa.Eq
namespace Go.Proofs.Ytimamoimphjakaa.fnTreeUnderOn
open Go.ChangeShapes Go.WideShapes Go.ChangeAt Go.RowKit Go.Proofs.YtimamoimphjakaaW.PrintWords
theorem own:ownKnob Try.prog.godebug=none:=by kernel_rfl
theorem laidOut:laidOutB Try.prog=true:=by kernel_rfl
def IsRow (k:IntKind) (w:World) (a:Option Addr) (len cap:Nat) (zs:List Int):Prop:=
 (a=none/\len=0/\cap=0/\zs= [])\/
 ∃ x,a=some x/\len<=cap/\cap<=maxLen/\zs.length=cap/\(∀ i,i < zs.length->w.cell? (x.add i)=some (.int k (zs.getD i 0)))/\∀ n ∈ zs,(Lit.int k n).wf=true
theorem bytes {l:List Int} (h:∀ x ∈ l,(Lit.int .u8 x).wf=true) (i:Nat):0<=l.getD i 0/\l.getD i 0<=255:=by
 have:=range_u8 h i
 rwa [List.getD_eq_getElem?_getD]
theorem lifted (os:Os) (started:os.Started) (H:Type) (enc:TypeId × Value->H):
  ReturnsInHanded {} Try.checked os 5 .any (Rows.fnTreeUnderOnSpec.pre6 enc Try.prog Try.f5 Rows.fnTreeUnderOnRow.domain false) (Rows.fnTreeUnderOnSpec.post enc Try.prog Try.f5 false true false false):=by
 refine returnsInHanded_of_change_sized (C:=Try.checked) own started (by kernel_rfl) Try.func5
  (ChangeSpec.witness6 (enc:=enc) (C:=Try.checked) false ⟨#[],#[.slice none 0 0,.slice none 0 0], []⟩ 8 (by kernel_rfl) (by kernel_rfl) (by kernel_rfl) (by kernel_rfl)) ?_
 intro W base args ds gs before hval0 hW hcnd hsz0 _;have hval:∀ (j:Nat) t v,Try.f5.params[j]? = some t->args[j]? = some v->Value.okWide Try.prog W .any base t v:=hval0;have hW':=hW;obtain ⟨p,q,hA0,hV,rfl,hfz,hnd⟩:=hW;have hA:DataW.TrodAll enc Try.prog W 0 (fun _=>true) true Try.f5.params.toList args.toList ds p:=hA0;rw [Try.params5] at hA hval;obtain ⟨v0,vs0,d0,ds0,p0,q0,hargs,rfl,rfl,h0,r0⟩:=trodAll_cons hA;obtain ⟨v1,vs1,d1,ds1,p1,q1,rfl,rfl,rfl,h1,r1⟩:=trodAll_cons r0;obtain ⟨rfl,rfl,rfl⟩:=trodAll_nil r1;obtain rfl:args= #[v0,v1]:=by cases args;simp_all
 obtain ⟨rfl,rfl⟩:=trodVars_none hV;obtain ⟨a0,len0,cap0,rfl⟩:=okWide_slice Try.underlying22 (hval 0 22 v0 rfl rfl);have k0:=h0;have lt0:∀ x ∈ p0,x.block < W.heap.size:=by obtain ⟨m,hm⟩:=k0;exact DataW.trod_lt m _ _ _ hm
 obtain ⟨z0,w0⟩:∃ zs,IsRow .u8 W a0 len0 cap0 zs:=by
  obtain ⟨fuel,hf⟩:=h0;rcases open_ints Try.underlying22 Try.underlying5 (by kernel_rfl) hf with ⟨hcs,_⟩ | ⟨x,l,c,zs,hcs,_,hl,hm,hz,_,hcell,hwz⟩
  ·simp [Value.cells] at hcs
   obtain ⟨rfl,rfl,rfl⟩:=hcs;exact ⟨[],.inl ⟨rfl,rfl,rfl,rfl⟩⟩
  ·simp [Value.cells] at hcs
   obtain ⟨rfl,rfl,rfl⟩:=hcs;exact ⟨zs,.inr ⟨_,rfl,hl,hm,by simpa using hz,hcell,hwz⟩⟩
 obtain ⟨l0,rfl,hr0,hm0,hw0,hc0⟩:=ReadsInt.ofRowC w0;obtain ⟨a1,len1,cap1,rfl⟩:=okWide_slice Try.underlying22 (hval 1 22 v1 rfl rfl);have k1:=h1;have lt1:∀ x ∈ p1,x.block < W.heap.size:=by obtain ⟨m,hm⟩:=k1;exact DataW.trod_lt m _ _ _ hm
 obtain ⟨z1,w1⟩:∃ zs,IsRow .u8 W a1 len1 cap1 zs:=by
  obtain ⟨fuel,hf⟩:=h1;rcases open_ints Try.underlying22 Try.underlying5 (by kernel_rfl) hf with ⟨hcs,_⟩ | ⟨x,l,c,zs,hcs,_,hl,hm,hz,_,hcell,hwz⟩
  ·simp [Value.cells] at hcs
   obtain ⟨rfl,rfl,rfl⟩:=hcs;exact ⟨[],.inl ⟨rfl,rfl,rfl,rfl⟩⟩
  ·simp [Value.cells] at hcs
   obtain ⟨rfl,rfl,rfl⟩:=hcs;exact ⟨zs,.inr ⟨_,rfl,hl,hm,by simpa using hz,hcell,hwz⟩⟩
 obtain ⟨l1,rfl,hr1,hm1,hw1,hc1⟩:=ReadsInt.ofRowC w1;refine (Eq.fnTreeUnderOn_calls a0 cap0 l0 a1 cap1 l1 W (Kd.C_of_reads (d:=(0:Int)) (h1:=fun _=>rfl) hr0) hc0 (bytes hw0) (Kd.C_of_reads (d:=(0:Int)) (h1:=fun _=>rfl) hr1) hc1 (bytes hw1)).mono fun e W' ⟨he,bel⟩=> ?_
 subst he;exact ⟨_,rfl,_,_,_, [],_, [],hW',trodAll_mk1 (shut_bool Try.underlying4 _),(trodAll_cons_mk (Below.trod laidOut (by kernel_rfl) (of_decide_eq_true (by kernel_rfl)) k0 bel lt0) (trodAll_cons_mk (Below.trod laidOut (by kernel_rfl) (of_decide_eq_true (by kernel_rfl)) k1 bel lt1) trodAll_mk0)),rfl,bel.frame _,fun h=>by cases h⟩
theorem over:Rows.fnTreeUnderOnRow.holds Try.pinned (OpenSpec.ofChange Rows.fnTreeUnderOnSpec):=
 OpenClaim.holds_of_wide 5 Try.f5 rfl rfl rfl rfl rfl rfl rfl ⟨rfl,rfl,rfl,rfl,rfl⟩ rfl rfl rfl rfl rfl (by kernel_rfl) Try.func5 (by kernel_rfl)
  (of_decide_eq_true (by kernel_rfl)) (by unfold Func.isWrapper;first|(rw [if_pos (by decide +kernel)];kernel_rfl)|(rw [if_neg (by decide +kernel)];exact ⟨rfl,rfl⟩))
  (fun os started H enc _=>lifted os started H enc)
theorem proved:Rows.FnTreeUnderOnSaid:=over
end Go.Proofs.Ytimamoimphjakaa.fnTreeUnderOn
namespace Go.Proofs.Ytimamoimphjakaa
theorem fnTreeUnderOn_holds:Rows.FnTreeUnderOnSaid:=fnTreeUnderOn.proved
end Go.Proofs.Ytimamoimphjakaa
