/- The law FnTreeWalkNear: it returns true whatever the input, and the input reads as it did. No conditions. -/
import Derived.Test.YtimamoimphjakaaRows
import Derived.Test.YtimamoimphjakaaZ6
import Derived.ChangeOld
import Derived.OpenShut
import Derived.ProofKit
import Derived.ShutString
import Derived.SizedLaws
set_option maxHeartbeats 8000000
set_option maxRecDepth 100000
set_option linter.unusedVariables false
set_option linter.unusedSimpArgs false
namespace Go.Proofs.Ytimamoimphjakaa.Eq
open Go.RowKit Go.Proofs.YtimamoimphjakaaW.PrintWords Go.Proofs.YtimamoimphjakaaW.PrintLast Go.Proofs.YtimamoimphjakaaW.PrintMore
theorem specKids_calls (s:Sys) (cs:List Value) (task:Int) (w:World) (hx:kSys.K w s cs) (hn:s.tasks.length<=1048576):
  Calls Try.prog 32 #[.agg cs.toArray,.int .i64 task] w fun e w'=>∃ v,e= .returned v/\(Kd.int .i64).R 3 w' w.heap.size (fun _=>True) v (kids s.tasks task)/\Below w.heap.size w w':=by
 obtain ⟨A0,c0,A1,c1,A3,c3,rfl,l0,g0,l1,g1,l3,g3⟩:=kSys_open hx;have G:=am g1;clear g0 g1 g3 l0 l1 l3 hx;go_enter Try.func32,Try.ntmps32;go_wp2_with (first|((with_reducible refine gate_dst (N:=2) rfl ?_);refine box_event rfl (N:=2) rfl (t:=27) (by go_simp<;>rfl) ?_;intro g hg w2 hbox hb;have BK:=am hbox;have HB:=am hb;have GE:=am (show w.heap.size<=g by omega);clear hbox hb hg;have hc:=zc8 BK.out)|((with_reducible refine gate_dst (N:=7) rfl ?_);refine Kd.R_lit (w0:=w) (Kd.int .i64) w.heap.size 3 rfl (N:=7) rfl (xs:=([]:List Int)) (inner:= []) (ok:=fun _=>True) (okp:=fun _=>True) (by go_simp<;>rfl) (Reps.none _ _) (fun _ hk=>hk) trivial HB.out (below_size HB.out) (by simp) ?_;intro v0 w3 ho hb hg _;have BK1:=am (blk_grown BK.out hg (by simp));have HO1:=am ho;have HB1:=am hb;clear ho hb hg HB BK hc;have hc:=zc8 BK1.out))
 go_loopw [5,6] (fun v i w'=>∃ k:Nat,k<=s.tasks.length/\i= .int .i64 k/\Aside0 ((Kd.int .i64).R 3 w' w.heap.size (fun _=>True) v (pickTo (isKid s.tasks task) k))/\Aside0 (w'.heap[g]? = some (.cells #[.slice A0 s.cells.length c0,.slice A1 s.tasks.length c1,.int .i64 s.clock,.slice A3 s.log.length c3] 27 (0,0)))/\Aside0 (Below w.heap.size w w')) (fun _ i _=>s.tasks.length - (intOf i).toNat)
 case atStart=>exact ⟨0,Nat.zero_le _,rfl,HO1,BK1,HB1⟩
 case round=>
  clear HO1 BK1 HB1 hc;obtain ⟨k,hk,rfl,HO,BK,HB⟩:=hrel;have hlen:=pickTo_length (isKid s.tasks task) k;by_cases hlt:k < s.tasks.length
  · skip
    have BKc:=zc8 BK.out;obtain ⟨b,o,cs,rfl,hcl,hK,hcc,hc0⟩:=C_field (Kd.C_below G.out HB.out) zTask k hlt (by decide);rw [show s.tasks.getD k zTask=taskAt s.tasks k from rfl] at hK;obtain ⟨B3,d3,B8,d8,B9,d9,B10,d10,rfl,_,_,_,_,_,_,_,_⟩:=kTask_open hK;have h_up:=hcc 2 _ rfl;simp only [show kTask.sz=13 from rfl] at h_up;clear hcc hc0 hK hcl;have q0:(0:Int)<=(k:Int):=by omega
    have q1:(k:Int) < (s.tasks.length:Int):=by omega
    by_cases h0:0<=task
    ·have y0:decide (0<=task)=true:=decide_eq_true h0
     by_cases hy:(taskAt s.tasks k).up=task
     ·have y1:((taskAt s.tasks k).up == task)=true:=by simp [hy]
      have HU:=am hy;clear hy;by_cases hz:task < (k:Int)
      ·have y2:decide (task < (k:Int))=true:=decide_eq_true hz
       have HY:=am (show isKid s.tasks task k=true by simp [isKid,HU.out,h0,hz]);go_wp2_with (first|((with_reducible refine gate_builtin (b:=.append) (xs:=#[.tmp 32,.tmp 34]) rfl ?_);at_builtin;refine Kd.R_append (Kd.int .i64) (w0:=w) w.heap.size rfl (.tmp 32) (.tmp 34) 29 3 (.int .i64 0) 8 rfl Try.underlying29 info_int rfl (by decide) (by omega) _ (pickTo (isKid s.tasks task) k) (k:Int) [.int .i64 (k:Int)] (fun _=>True) (fun _=>False) rfl rfl rfl (fun _ hk=>hk.elim) (fun _ _=>trivial) HO.out HB.out (below_size HB.out) (by omega) ?_;intro v1 w1 ho hb hg _;have BK1:=am (blk_grown BK.out hg (Kd.R_ne HO.out BK.out (by decide)));have HO1:=am ho;have HB1:=am hb;clear ho hb hg HO HB BK))
       go_roundw
       case rel=>exact ⟨k+1,by omega,by go_num,⟨by rw [pickTo_yes (HY.out)];exact HO1.out⟩,BK1,HB1⟩
       case measure=>simp [intOf];omega
      ·have y2:decide (task < (k:Int))=false:=decide_eq_false hz
       have HY:=am (show isKid s.tasks task k=false by simp [isKid,hz]);go_wp2;go_roundw
       case rel=>exact ⟨k+1,by omega,by go_num,⟨by rw [pickTo_no (HY.out)];exact HO.out⟩,BK,HB⟩
       case measure=>simp [intOf];omega
     ·have y1:((taskAt s.tasks k).up == task)=false:=by simp [hy]
      have HY:=am (show isKid s.tasks task k=false by simp [isKid,hy]);clear hy;go_wp2;go_roundw
      case rel=>exact ⟨k+1,by omega,by go_num,⟨by rw [pickTo_no (HY.out)];exact HO.out⟩,BK,HB⟩
      case measure=>simp [intOf];omega
    ·have y0:decide (0<=task)=false:=decide_eq_false h0
     have HY:=am (show isKid s.tasks task k=false by simp [isKid,h0]);go_wp2;go_roundw
     case rel=>exact ⟨k+1,by omega,by go_num,⟨by rw [pickTo_no (HY.out)];exact HO.out⟩,BK,HB⟩
     case measure=>simp [intOf];omega
  ·have BKc:=zc8 BK.out
   go_wp2;go_ret;obtain rfl:k=s.tasks.length:=by omega
   exact ⟨_,rfl,HO.out,HB.out⟩
def zeroTask:Array Value:=#[.int .i64 0,.int .i64 0,.int .i64 0,.slice none 0 0,.int .i64 0,.int .i64 0,.int .i64 0,.int .i64 0,.slice none 0 0,.slice none 0 0,.slice none 0 0,.int .i64 0,.int .i64 0]
theorem agree_all {α:Type} (xs ys:List α) (hl:xs.length=ys.length) (h:∀ j,j < xs.length->xs[j]? = ys[j]?):xs=ys:=by
 apply List.ext_getElem?;intro j;by_cases hj:j < xs.length
 ·exact h j hj
 ·rw [List.getElem?_eq_none (by omega),List.getElem?_eq_none (by omega)]
theorem agree_step {α:Type} {xs ys:List α} {k:Nat} {z:α} (H:∀ j,j < k->xs[j]? = ys[j]?) (h1:k < xs.length) (h2:k < ys.length) (he:xs.getD k z=ys.getD k z) {j:Nat} (hj:j < k+1):xs[j]? = ys[j]? :=by
 by_cases h:j < k
 ·exact H j h
 ·obtain rfl:j=k:=by omega
  simp only [List.getD_eq_getElem?_getD] at he;rw [List.getElem?_eq_getElem (by omega),List.getElem?_eq_getElem (by omega)] at he ⊢;simpa using he
theorem lqInts_calls (xs ys:List Int) (A B:Option Addr) (c d:Nat) (w:World) (hx:(Kd.int .i64).C w A xs.length xs) (hy:(Kd.int .i64).C w B ys.length ys):
  Calls Try.prog 17 #[.slice A xs.length c,.slice B ys.length d] w fun e w'=>e= .returned (.bool (decide (xs=ys)))/\Drawn0 w w':=by
 have HX:=am hx;have HY:=am hy;have hm:=Kd.C_max hx;clear hx hy;by_cases hl:xs.length=ys.length
 ·have hlb:((xs.length:Int) != (ys.length:Int))=false:=by rw [hl];simp
  have HL:=am hl;clear hl;go_enter Try.func17,Try.ntmps17;go_wp2;have HLB:=am hlb;clear hlb;go_loopw [5] (fun v w'=>∃ k:Nat,k<=xs.length/\v= .int .i64 k/\Aside0 (∀ j,j < k->xs[j]? = ys[j]?)/\Drawn0 w w') (fun v _=>xs.length - (intOf v).toNat)
  case atStart=>exact ⟨0,Nat.zero_le _,rfl,⟨fun j hj=>by omega⟩,Drawn0.refl _⟩
  case round=>
   obtain ⟨k,hk,rfl,HJ,HD⟩:=hrel;obtain ⟨n,rfl⟩:=HD.out;clear HD;by_cases hlt:k < xs.length
   ·have hlt2:k < ys.length:=by rw [<-HL.out];exact hlt
    have h0:(0:Int)<=(k:Int):=by omega
    have h1:(k:Int) < (xs.length:Int):=by omega
    have h2:(k:Int) < (ys.length:Int):=by omega
    obtain ⟨ax,rfl,gx⟩:=Kd.at_int HX.out (k:Int) (by omega) h1;obtain ⟨ay,rfl,gy⟩:=Kd.at_int HY.out (k:Int) (by omega) h2;simp only [Int.toNat_natCast] at gx gy;by_cases he:rd xs k=rd ys k
    ·have heb:(rd xs k != rd ys k)=false:=by simp [he]
     have HE:=am he;clear he;go_wp2;go_quiet (fail);go_wp2;go_roundw
     case rel=>exact ⟨k+1,by omega,by go_num,⟨fun j hj=>agree_step HJ.out hlt hlt2 HE.out hj⟩,⟨⟨_,rfl⟩⟩⟩
     case measure=>simp [intOf];omega
    ·have heb:(rd xs k != rd ys k)=true:=by simp [he]
     have HE:=am he;clear he;go_wp2;go_quiet (fail);go_wp2;go_ret;exact ⟨ret_bool (decide_eq_false (fun h=>HE.out (by rw [h]))).symm,Drawn0.step ⟨⟨n,rfl⟩⟩ _⟩
   ·go_wp2
    go_ret;exact ⟨ret_bool (decide_eq_true (agree_all xs ys HL.out (fun j hj=>HJ.out j (by omega)))).symm,⟨⟨n,rfl⟩⟩⟩
 ·have hlb:((xs.length:Int) != (ys.length:Int))=true:=by simp;omega
  have hlc:(xs.length != ys.length)=true:=by simp;omega
  have hld:(xs.length == ys.length)=false:=by simp;omega
  have HL:=am hl;clear hl;go_enter Try.func17,Try.ntmps17;go_wp2;go_ret;exact ⟨ret_bool (decide_eq_false (fun h=>HL.out (by rw [h]))).symm,Drawn0.refl _⟩
end Go.Proofs.Ytimamoimphjakaa.Eq
namespace Go.Proofs.Ytimamoimphjakaa.Eq
theorem mem_pickTo {p:Nat->Bool} {k:Nat} {x:Int}:x ∈ pickTo p k ↔ ∃ i:Nat,i < k/\p i=true/\x=(i:Int):=by
 simp only [pickTo,List.mem_map,List.mem_filter,List.mem_range];constructor
 ·rintro ⟨i,⟨h1,h2⟩,rfl⟩;exact ⟨i,h1,h2,rfl⟩
 ·rintro ⟨i,h1,h2,rfl⟩;exact ⟨i,⟨h1,h2⟩,rfl⟩
theorem mem_kids {ts:List Task} {t x:Int}:x ∈ kids ts t ↔ ∃ i:Nat,i < ts.length/\0<=t/\(taskAt ts i).up=t/\t < (i:Int)/\x=(i:Int):=by
 simp only [kids,mem_pickTo,isKid,Bool.and_eq_true,decide_eq_true_eq];constructor
 ·rintro ⟨i,h1,⟨⟨h2,h3⟩,h4⟩,rfl⟩;exact ⟨i,h1,h2,h3,h4,rfl⟩
 ·rintro ⟨i,h1,h2,h3,h4,rfl⟩;exact ⟨i,h1,⟨⟨h2,h3⟩,h4⟩,rfl⟩
theorem pickTo_sorted (p:Nat->Bool) (k:Nat):(pickTo p k).Pairwise (· < ·):=by
 unfold pickTo;rw [List.pairwise_map];exact List.Pairwise.imp (fun h=>by omega) (List.Pairwise.filter _ List.pairwise_lt_range)
def walkF (ts:List Task):Nat->Int->List Int
 | 0,_=> []
 | f+1,t=>t :: ((kids ts t).map (walkF ts f)).flatten
theorem walkF_more {ts:List Task}:∀ (f:Nat) (t:Int),0<=t->(ts.length:Int)<=t+f->t < ts.length->walkF ts (f+1) t=walkF ts f t
 | 0,t,h0,h,h1=>by omega
 | f+1,t,h0,h,h1=>by
  unfold walkF
  congr 1
  congr 1
  apply List.map_congr_left;intro x hx;obtain ⟨i,hi,_,_,hlt,rfl⟩:=mem_kids.1 hx;exact walkF_more f i (by omega) (by omega) (by omega)
theorem walkF_enough {ts:List Task} {f:Nat} {t:Int} (d:Nat) (h0:0<=t) (h:(ts.length:Int)<=t+f) (h1:t < ts.length):walkF ts (f+d) t=walkF ts f t:=by
 induction d with
 | zero=>rfl
 | succ d ih=>rw [<-Nat.add_assoc,walkF_more (f+d) t h0 (by omega) h1,ih]
def walkOf (ts:List Task) (t:Int):List Int:=walkF ts ts.length t
theorem walkOf_eq {ts:List Task} {t:Int} (h0:0<=t) (h1:t < ts.length):walkOf ts t=t :: ((kids ts t).map (walkOf ts)).flatten:=by
 unfold walkOf;obtain ⟨n,hn⟩:∃ n,ts.length=n+1:=⟨ts.length - 1,by omega⟩
 conv=>(lhs;rw [hn];unfold walkF)
 congr 1;congr 1;apply List.map_congr_left;intro x hx;obtain ⟨i,hi,_,_,hlt,rfl⟩:=mem_kids.1 hx;rw [hn];exact (walkF_enough 1 (by omega) (by omega) (by omega)).symm
def isRoot (ts:List Task) (i:Nat):Bool:=decide ((taskAt ts i).up= -1)
def walkTo (ts:List Task) (k:Nat):List Int:=((pickTo (isRoot ts) k).map (walkOf ts)).flatten
def walkAll (ts:List Task):List Int:=walkTo ts ts.length
theorem walkF_mem {ts:List Task}:∀ (f:Nat) (t:Int),0<=t->t < ts.length->∀ x,x ∈ walkF ts f t->t<=x/\x < ts.length/\(x=t\/((taskAt ts x.toNat).up ∈ walkF ts f t/\(taskAt ts x.toNat).up < x/\t<=(taskAt ts x.toNat).up))
 | 0,t,h0,h1,x,hx=>by simp [walkF] at hx
 | f+1,t,h0,h1,x,hx=>by
  unfold walkF at hx ⊢;rcases List.mem_cons.1 hx with rfl | hx
  ·exact ⟨by omega,h1,.inl rfl⟩
  ·obtain ⟨l,hl,hxl⟩:=List.mem_flatten.1 hx
   obtain ⟨y,hy,rfl⟩:=List.mem_map.1 hl;obtain ⟨i,hi,_,hup,hlt,rfl⟩:=mem_kids.1 hy;obtain ⟨a1,a2,a3⟩:=walkF_mem f (i:Int) (by omega) (by omega) x hxl;refine ⟨by omega,a2,.inr ?_⟩;rcases a3 with rfl | ⟨b1,b2,b3⟩
   ·rw [Int.toNat_natCast,hup]
    exact ⟨List.mem_cons_self,by omega,by omega⟩
   ·exact ⟨List.mem_cons_of_mem _ (List.mem_flatten.2 ⟨_,List.mem_map.2 ⟨_,hy,rfl⟩,b1⟩),b2,by omega⟩
theorem walk_meet {ts:List Task} {f g:Nat} {a b:Int} (ha:0<=a) (ha':a < ts.length) (hb:0<=b) (hb':b < ts.length):∀ (n:Nat) (x:Int),x.toNat < n->x ∈ walkF ts f a->x ∈ walkF ts g b->a ∈ walkF ts g b\/b ∈ walkF ts f a
 | 0,x,h,_,_=>by omega
 | n+1,x,h,h1,h2=>by
  obtain ⟨p1,p2,p3⟩:=walkF_mem f a ha ha' x h1;obtain ⟨q1,q2,q3⟩:=walkF_mem g b hb hb' x h2;rcases p3 with rfl | ⟨p3,p4,p5⟩
  ·exact .inl h2
  ·rcases q3 with rfl | ⟨q3,q4,q5⟩
   ·exact .inr h1
   ·exact walk_meet ha ha' hb hb' n _ (by omega) p3 q3
theorem walk_kids_apart {ts:List Task} {f:Nat} {t:Int} {a b:Int} (ha:a ∈ kids ts t) (hb:b ∈ kids ts t) (hne:a ≠ b) {x:Int} (h1:x ∈ walkF ts f a) (h2:x ∈ walkF ts f b):False:=by
 obtain ⟨i,hi,h0,hui,hti,rfl⟩:=mem_kids.1 ha;obtain ⟨j,hj,_,huj,htj,rfl⟩:=mem_kids.1 hb;rcases walk_meet (by omega) (by omega) (by omega) (by omega) _ x (Nat.lt_succ_self _) h1 h2 with h | h
 ·obtain ⟨_,_,h3⟩:=walkF_mem f (j:Int) (by omega) (by omega) _ h
  rcases h3 with h3 | ⟨_,_,h5⟩
  ·exact hne h3
  ·rw [Int.toNat_natCast,hui] at h5;omega
 ·obtain ⟨_,_,h3⟩:=walkF_mem f (i:Int) (by omega) (by omega) _ h
  rcases h3 with h3 | ⟨_,_,h5⟩
  ·exact hne h3.symm
  ·rw [Int.toNat_natCast,huj] at h5;omega
theorem nodup_flat {α:Type} {β:Type} {g:α->List β}:∀ {l:List α},(∀ x ∈ l,(g x).Nodup)->l.Pairwise (fun a b=>∀ x,x ∈ g a->x ∈ g b->False)->((l.map g).flatten).Nodup
 | [],_,_=>by simp
 | a :: l,h1,h2=>by
  rw [List.map_cons,List.flatten_cons,List.nodup_append];rw [List.pairwise_cons] at h2;refine ⟨h1 a List.mem_cons_self,nodup_flat (fun x hx=>h1 x (List.mem_cons_of_mem _ hx)) h2.2,fun x hx y hy he=> ?_⟩;subst he;obtain ⟨m,hm,hxm⟩:=List.mem_flatten.1 hy;obtain ⟨b,hb,rfl⟩:=List.mem_map.1 hm;exact h2.1 b hb x hx hxm
theorem walkF_nodup {ts:List Task}:∀ (f:Nat) (t:Int),0<=t->t < ts.length->(walkF ts f t).Nodup
 | 0,t,_,_=>by simp [walkF]
 | f+1,t,h0,h1=>by
  unfold walkF;rw [List.nodup_cons];constructor
  ·intro h
   obtain ⟨l,hl,hx⟩:=List.mem_flatten.1 h;obtain ⟨y,hy,rfl⟩:=List.mem_map.1 hl;obtain ⟨i,hi,_,_,hlt,rfl⟩:=mem_kids.1 hy;have:=(walkF_mem f (i:Int) (by omega) (by omega) _ hx).1;omega
  ·refine nodup_flat (fun x hx=> ?_) ?_
   ·obtain ⟨i,hi,_,_,hlt,rfl⟩:=mem_kids.1 hx
    exact walkF_nodup f i (by omega) (by omega)
   ·refine List.Pairwise.imp_of_mem (fun {a b} ha hb hab x h1 h2=> ?_) (pickTo_sorted (isKid ts t) ts.length)
    exact walk_kids_apart ha hb (by omega) h1 h2
theorem walkAll_nodup (ts:List Task):(walkAll ts).Nodup:=by
 unfold walkAll walkTo;refine nodup_flat (fun x hx=> ?_) ?_
 ·obtain ⟨i,hi,_,rfl⟩:=mem_pickTo.1 hx
  exact walkF_nodup _ _ (by omega) (by omega)
 ·refine List.Pairwise.imp_of_mem (fun {a b} ha hb hab x h1 h2=> ?_) (pickTo_sorted (isRoot ts) ts.length)
  obtain ⟨i,hi,hri,rfl⟩:=mem_pickTo.1 ha;obtain ⟨j,hj,hrj,rfl⟩:=mem_pickTo.1 hb;simp only [isRoot,decide_eq_true_eq] at hri hrj;rcases walk_meet (by omega) (by omega) (by omega) (by omega) _ x (Nat.lt_succ_self _) h1 h2 with h | h
  ·obtain ⟨_,_,h3⟩:=walkF_mem ts.length (j:Int) (by omega) (by omega) _ h
   rcases h3 with h3 | ⟨_,_,h5⟩
   ·omega
   ·rw [Int.toNat_natCast,hri] at h5;omega
  ·obtain ⟨_,_,h3⟩:=walkF_mem ts.length (i:Int) (by omega) (by omega) _ h
   rcases h3 with h3 | ⟨_,_,h5⟩
   ·omega
   ·rw [Int.toNat_natCast,hrj] at h5;omega
theorem nodup_le:∀ (n:Nat) (l:List Int),l.Nodup->(∀ x ∈ l,0<=x/\x < n)->l.length<=n
 | 0,l,_,h=>by
  cases l with
  | nil=>simp
  | cons x l=>have:=h x List.mem_cons_self;omega
 | n+1,l,hd,h=>by
  have h1:=nodup_le n (l.erase (n:Int)) (hd.erase _) (fun x hx=>by
   have:=h x (List.mem_of_mem_erase hx)
   have hne:x ≠ (n:Int):=fun e=>by
    subst e;exact (List.Nodup.not_mem_erase hd) hx
   omega)
  have h2:l.length<=(l.erase (n:Int)).length+1:=by
   rw [List.length_erase];split <;> omega
  omega
theorem walkAll_mem {ts:List Task} {x:Int} (h:x ∈ walkAll ts):0<=x/\x < ts.length:=by
 obtain ⟨l,hl,hx⟩:=List.mem_flatten.1 h;obtain ⟨y,hy,rfl⟩:=List.mem_map.1 hl;obtain ⟨i,hi,_,rfl⟩:=mem_pickTo.1 hy;have:=walkF_mem ts.length (i:Int) (by omega) (by omega) x hx;omega
theorem walkAll_length (ts:List Task):(walkAll ts).length<=ts.length:=nodup_le _ _ (walkAll_nodup ts) (fun x hx=>walkAll_mem hx)
theorem walkTo_le (ts:List Task) {k:Nat} (h:k<=ts.length):(walkTo ts k).length<=ts.length:=by
 refine Nat.le_trans ?_ (walkAll_length ts);unfold walkAll;obtain ⟨d,hd⟩:∃ d,ts.length=k+d:=⟨ts.length - k,by omega⟩;rw [hd];clear hd h
 induction d with
 | zero=>exact Nat.le_refl _
 | succ d ih=>
  refine Nat.le_trans ih ?_;rw [<-Nat.add_assoc];unfold walkTo;by_cases hp:isRoot ts (k+d)=true
  ·rw [pickTo_yes hp];simp
  ·rw [pickTo_no (by simpa using hp)];exact Nat.le_refl _
theorem walkTo_yes {ts:List Task} {k:Nat} (h:isRoot ts k=true):walkTo ts (k+1)=walkTo ts k ++ walkOf ts k:=by
 unfold walkTo;rw [pickTo_yes h];simp
theorem walkTo_no {ts:List Task} {k:Nat} (h:isRoot ts k=false):walkTo ts (k+1)=walkTo ts k:=by
 unfold walkTo;rw [pickTo_no h]
end Go.Proofs.Ytimamoimphjakaa.Eq
namespace Go.Proofs.Ytimamoimphjakaa.Eq
open Go.RowKit Go.Proofs.YtimamoimphjakaaW.PrintWords Go.Proofs.YtimamoimphjakaaW.PrintLast Go.Proofs.YtimamoimphjakaaW.PrintMore
theorem implKids_calls (s:Sys) (cs:List Value) (task:Int) (w:World) (hx:kSys.K w s cs) (hn:s.tasks.length<=1048576):
  Calls Try.prog 31 #[.agg cs.toArray,.int .i64 task] w fun e w'=>∃ v,e= .returned v/\(Kd.int .i64).R 3 w' w.heap.size (fun _=>True) v (kids s.tasks task)/\Below w.heap.size w w':=by
 obtain ⟨A0,c0,A1,c1,A3,c3,rfl,l0,g0,l1,g1,l3,g3⟩:=kSys_open hx;have G:=am g1;clear g0 g1 g3 l0 l1 l3 hx;go_enter Try.func31,Try.ntmps31;by_cases hp:0<=task/\task < s.tasks.length
 ·obtain ⟨m,rfl⟩:=Int.eq_ofNat_of_zero_le hp.1
  have hm:m < s.tasks.length:=by omega
  have HP:=am (show (decide (0<=(m:Int)) && decide ((m:Int) < (s.tasks.length:Int)))=true by simp;omega);clear hp;go_wp2_with (first|((with_reducible refine gate_dst (N:=2) rfl ?_);refine box_event rfl (N:=2) rfl (t:=27) (by go_simp<;>rfl) ?_;intro g hg w2 hbox hb;have BK:=am hbox;have HB:=am hb;have GE:=am (show w.heap.size<=g by omega);clear hbox hb hg;have hc:=zc8 BK.out)|(go_at_call 51;refine (isPlace_calls _ _ _).mono ?_;rw [HP.out];rintro e w1 ⟨rfl,rfl⟩))
  go_loopw [5,6] (fun v i w'=>∃ k:Nat,m+1<=k/\k<=s.tasks.length/\i= .int .i64 k/\Aside0 ((Kd.int .i64).R 3 w' w.heap.size (fun _=>True) v (pickTo (isKid s.tasks m) k))/\Aside0 (w'.heap[g]? = some (.cells #[.slice A0 s.cells.length c0,.slice A1 s.tasks.length c1,.int .i64 s.clock,.slice A3 s.log.length c3] 27 (0,0)))/\Aside0 (Below w.heap.size w w')) (fun _ i _=>s.tasks.length - (intOf i).toNat)
  case atStart=>exact ⟨m+1,Nat.le_refl _,hm,by go_num,⟨by rw [pickTo_none (fun i hi=>by unfold isKid;have:¬ (m:Int) < (i:Int):=(by omega);simp [this])];exact Kd.R_nil _ _ _ _ _⟩,BK,HB⟩
  case round=>
   clear BK HB hc;obtain ⟨k,hmk,hk,rfl,HO,BK,HB⟩:=hrel;have hlen:=pickTo_length (isKid s.tasks m) k;by_cases hlt:k < s.tasks.length
   · skip
     have BKc:=zc8 BK.out;obtain ⟨b,o,cs,rfl,hcl,hK,hcc,hc0⟩:=C_field (Kd.C_below G.out HB.out) zTask k hlt (by decide);rw [show s.tasks.getD k zTask=taskAt s.tasks k from rfl] at hK;obtain ⟨B3,d3,B8,d8,B9,d9,B10,d10,rfl,_,_,_,_,_,_,_,_⟩:=kTask_open hK;have h_up:=hcc 2 _ rfl;simp only [show kTask.sz=13 from rfl] at h_up;clear hcc hc0 hK hcl;have q0:(0:Int)<=(k:Int):=by omega
     have q1:(k:Int) < (s.tasks.length:Int):=by omega
     by_cases hy:(taskAt s.tasks k).up=(m:Int)
     ·have y1:((taskAt s.tasks k).up == (m:Int))=true:=by simp [hy]
      have HY:=am (show isKid s.tasks m k=true by simp [isKid,hy];omega);clear hy;go_wp2_with (first|((with_reducible refine gate_builtin (b:=.append) (xs:=#[.tmp 30,.tmp 32]) rfl ?_);at_builtin;refine Kd.R_append (Kd.int .i64) (w0:=w) w.heap.size rfl (.tmp 30) (.tmp 32) 29 3 (.int .i64 0) 8 rfl Try.underlying29 info_int rfl (by decide) (by omega) _ (pickTo (isKid s.tasks m) k) (k:Int) [.int .i64 (k:Int)] (fun _=>True) (fun _=>False) rfl rfl rfl (fun _ hk=>hk.elim) (fun _ _=>trivial) HO.out HB.out (below_size HB.out) (by omega) ?_;intro v1 w1 ho hb hg _;have BK1:=am (blk_grown BK.out hg (Kd.R_ne HO.out BK.out (by decide)));have HO1:=am ho;have HB1:=am hb;clear ho hb hg HO HB BK))
      go_roundw
      case rel=>exact ⟨k+1,by omega,by omega,by go_num,⟨by rw [pickTo_yes HY.out];exact HO1.out⟩,BK1,HB1⟩
      case measure=>simp [intOf];omega
     ·have y1:((taskAt s.tasks k).up == (m:Int))=false:=by simp [hy]
      have HY:=am (show isKid s.tasks m k=false by simp [isKid,hy]);clear hy;go_wp2;go_roundw
      case rel=>exact ⟨k+1,by omega,by omega,by go_num,⟨by rw [pickTo_no HY.out];exact HO.out⟩,BK,HB⟩
      case measure=>simp [intOf];omega
   ·have BKc:=zc8 BK.out
    go_wp2;go_ret;obtain rfl:k=s.tasks.length:=by omega
    exact ⟨_,rfl,HO.out,HB.out⟩
 ·have HP:=am (show (decide (0<=task) && decide (task < (s.tasks.length:Int)))=false by simp;omega)
  have HN:=am (kids_out hp);clear hp;go_wp2_with (first|((with_reducible refine gate_dst (N:=2) rfl ?_);refine box_event rfl (N:=2) rfl (t:=27) (by go_simp<;>rfl) ?_;intro g hg w2 hbox hb;have BK:=am hbox;have HB:=am hb;have GE:=am (show w.heap.size<=g by omega);clear hbox hb hg;have hc:=zc8 BK.out)|(go_at_call 51;refine (isPlace_calls _ _ _).mono ?_;rw [HP.out];rintro e w1 ⟨rfl,rfl⟩))
  go_ret;exact ⟨_,rfl,by rw [HN.out];exact Kd.R_nil _ _ _ _ _,HB.out⟩
def under (ts:List Task):Nat->Int->Int->Bool
 | 0,_,_=>false
 | f+1,t,up=>if 0<=t/\t < (ts.length:Int)/\(taskAt ts t.toNat).up < t then (if (taskAt ts t.toNat).up=up then decide (0<=up) else under ts f (taskAt ts t.toNat).up up) else false
theorem under_more (ts:List Task) (up:Int):∀ (f:Nat) (t:Int),t < f->under ts (f+1) t up=under ts f t up
 | 0,t,h=>by
  unfold under
  rw [if_neg (by omega)]
 | f+1,t,h=>by
  unfold under;by_cases c:0<=t/\t < (ts.length:Int)/\(taskAt ts t.toNat).up < t
  ·rw [if_pos c,if_pos c,under_more ts up f _ (by omega)]
  ·rw [if_neg c,if_neg c]
theorem under_enough (ts:List Task) (up t:Int) (f d:Nat) (h:t < f):under ts (f+d) t up=under ts f t up:=by
 induction d with
 | zero=>rfl
 | succ d ih=>rw [<-Nat.add_assoc,under_more ts up (f+d) t (by omega),ih]
def underOf (ts:List Task) (t up:Int):Bool:=under ts (t.toNat+1) t up
theorem underOf_in {ts:List Task} {t up:Int} (h0:0<=t) (h1:t < (ts.length:Int)) (h2:(taskAt ts t.toNat).up < t):underOf ts t up=if (taskAt ts t.toNat).up=up then decide (0<=up) else underOf ts (taskAt ts t.toNat).up up:=by
 unfold underOf
 conv=>(lhs;unfold under)
 rw [if_pos ⟨h0,h1,h2⟩];have e:t.toNat=((taskAt ts t.toNat).up.toNat+1)+(t.toNat - ((taskAt ts t.toNat).up.toNat+1))\/(taskAt ts t.toNat).up < 0:=by omega
 by_cases hneg:(taskAt ts t.toNat).up < 0
 ·generalize (taskAt ts t.toNat).up=u at hneg h2
  have a1:∀ f,under ts f u up=false:=fun f=>by cases f with
   | zero=>rfl
   | succ f=>unfold under;rw [if_neg (by omega)]
  rw [a1,a1]
 ·generalize (taskAt ts t.toNat).up=u at hneg h2 e
  have e':t.toNat=(u.toNat+1)+(t.toNat - (u.toNat+1)):=by omega
  rw [e',under_enough ts up u (u.toNat+1) _ (by omega)]
theorem underOf_out {ts:List Task} {t up:Int} (h:¬ (0<=t/\t < (ts.length:Int)/\(taskAt ts t.toNat).up < t)):underOf ts t up=false:=by
 unfold underOf under;rw [if_neg h]
theorem above_calls (s:Sys) (A0 A1 A3:Option Addr) (c0 c1 c3:Nat) (m g:Nat) (w:World) (hn:s.tasks.length<=1048576) (hm:m < s.tasks.length) (g1:kTask.C w A1 s.tasks.length s.tasks) (bk:w.heap[g]? = some (.cells #[.slice A0 s.cells.length c0,.slice A1 s.tasks.length c1,.int .i64 s.clock,.slice A3 s.log.length c3] 27 (0,0))):
  Calls Try.prog 52 #[.int .i64 m,.pointer (some ⟨g,0,none⟩)] w fun e w'=>e= .returned (.tuple #[.int .i64 (taskAt s.tasks m).up,.bool (decide (0<=(taskAt s.tasks m).up) && decide ((taskAt s.tasks m).up < (m:Int)))])/\w=w':=by
 have BKc:=zc8 bk;obtain ⟨b,o,cs,hA,hcl,hK,hcc,hc0⟩:=C_field g1 zTask m hm (by decide);cases hA;rw [show s.tasks.getD m zTask=taskAt s.tasks m from rfl] at hK;obtain ⟨B3,d3,B8,d8,B9,d9,B10,d10,rfl,_,_,_,_,_,_,_,_⟩:=kTask_open hK;have h_up:=hcc 2 _ rfl;simp only [show kTask.sz=13 from rfl] at h_up;have m0:(0:Int)<=(m:Int):=by omega
 have m1:(m:Int) < (s.tasks.length:Int):=by omega
 clear hcc hc0 hK hcl bk g1;go_enter Try.func52,Try.ntmps52;go_wp2_with (go_at_call 51;refine (isPlace_calls _ _ _).mono ?_;rintro e w1 ⟨rfl,rfl⟩)
 go_ret2;exact ⟨rfl,rfl⟩
theorem implUnder_calls (s:Sys) (cs:List Value) (task up:Int) (w:World) (hx:kSys.K w s cs) (hn:s.tasks.length<=1048576):
  Calls Try.prog 21 #[.agg cs.toArray,.int .i64 task,.int .i64 up] w fun e w'=>e= .returned (.bool (underOf s.tasks task up))/\Below w.heap.size w w':=by
 obtain ⟨A0,c0,A1,c1,A3,c3,rfl,l0,g0,l1,g1,l3,g3⟩:=kSys_open hx;have G:=am g1;clear g0 g1 g3 l0 l1 l3 hx;go_enter Try.func21,Try.ntmps21;by_cases hp:0<=task/\task < s.tasks.length
 ·obtain ⟨m,rfl⟩:=Int.eq_ofNat_of_zero_le hp.1
  have hm:m < s.tasks.length:=by omega
  have HP:=am (show (decide (0<=(m:Int)) && decide ((m:Int) < (s.tasks.length:Int)))=true by simp;omega);clear hp;go_wp2_with (first|((with_reducible refine gate_dst (N:=3) rfl ?_);refine box_event rfl (N:=3) rfl (t:=27) (by go_simp<;>rfl) ?_;intro g hg w2 hbox hb;have BK:=am hbox;have HB:=am hb;have GE:=am (show w.heap.size<=g by omega);clear hbox hb hg;have hc:=zc8 BK.out)|(go_at_call 51;refine (isPlace_calls _ _ _).mono ?_;rw [HP.out];rintro e w1 ⟨rfl,rfl⟩))
  go_loopw [1] (fun v w'=>∃ t:Nat,t < s.tasks.length/\v= .int .i64 t/\Aside0 (underOf s.tasks m up=underOf s.tasks t up)/\Aside0 (w'.heap[g]? = some (.cells #[.slice A0 s.cells.length c0,.slice A1 s.tasks.length c1,.int .i64 s.clock,.slice A3 s.log.length c3] 27 (0,0)))/\Aside0 (Below w.heap.size w w')) (fun v _=>(intOf v).toNat)
  case atStart=>exact ⟨m,hm,rfl,⟨rfl⟩,BK,HB⟩
  case round=>
   clear BK HB hc hm HP;obtain ⟨t,hml,rfl,HJ,BK,HB⟩:=hrel;have BKc:=zc8 BK.out;have m0:(0:Int)<=(t:Int):=by omega
   have m1:(t:Int) < (s.tasks.length:Int):=by omega
   by_cases hu:0<=(taskAt s.tasks t).up/\(taskAt s.tasks t).up < (t:Int)
   ·have HA:=am (show (decide (0<=(taskAt s.tasks t).up) && decide ((taskAt s.tasks t).up < (t:Int)))=true by simp;omega)
    have HS:=am (underOf_in (ts:=s.tasks) (up:=up) m0 m1 (by rw [Int.toNat_natCast];exact hu.2));by_cases he:(taskAt s.tasks t).up=up
    ·have y2:((taskAt s.tasks t).up == up)=true:=by simp [he]
     have HE:=am he;clear he;go_wp2_with (first|(go_at_call 52;refine (above_calls s A0 _ A3 c0 c1 c3 t g _ hn hml (Kd.C_below G.out HB.out) BK.out).mono ?_;rw [HA.out];rintro e w1 ⟨rfl,rfl⟩))
     go_ret;exact ⟨ret_bool (by have h:=HS.out;rw [Int.toNat_natCast,if_pos HE.out] at h;rw [HJ.out,h,<-HE.out,decide_eq_true hu.1]),HB.out⟩
    ·have y2:((taskAt s.tasks t).up == up)=false:=by simp [he]
     have HE:=am he;clear he;obtain ⟨u,hu'⟩:=Int.eq_ofNat_of_zero_le hu.1;have HUU:=am hu';clear hu';go_wp2_with (first|(go_at_call 52;refine (above_calls s A0 _ A3 c0 c1 c3 t g _ hn hml (Kd.C_below G.out HB.out) BK.out).mono ?_;rw [HA.out];rintro e w1 ⟨rfl,rfl⟩))
     go_roundw
     case rel=>exact ⟨u,by have:=HUU.out;omega,by rw [HUU.out],⟨by have h:=HS.out;rw [Int.toNat_natCast,if_neg HE.out,HUU.out] at h;rw [HJ.out,h]⟩,BK,HB⟩
     case measure=>simp only [intOf];omega
   ·have HA:=am (show (decide (0<=(taskAt s.tasks t).up) && decide ((taskAt s.tasks t).up < (t:Int)))=false by simp;omega)
    have HS:=am (show underOf s.tasks t up=false by
     by_cases h2:(taskAt s.tasks t).up < (t:Int)
     ·rw [underOf_in m0 m1 (by rw [Int.toNat_natCast];exact h2),Int.toNat_natCast,underOf_out (t:=(taskAt s.tasks t).up) (by omega)]
      split
      ·rename_i h3;rw [<-h3];simp;omega
      ·rfl
     ·exact underOf_out (by rw [Int.toNat_natCast];omega))
    clear hu;go_wp2_with (first|(go_at_call 52;refine (above_calls s A0 _ A3 c0 c1 c3 t g _ hn hml (Kd.C_below G.out HB.out) BK.out).mono ?_;rw [HA.out];rintro e w1 ⟨rfl,rfl⟩))
    go_ret;exact ⟨ret_bool (by rw [HJ.out,HS.out]),HB.out⟩
 ·have HP:=am (show (decide (0<=task) && decide (task < (s.tasks.length:Int)))=false by simp;omega)
  have HN:=am (underOf_out (ts:=s.tasks) (t:=task) (up:=up) (by omega));clear hp;go_wp2_with (first|((with_reducible refine gate_dst (N:=3) rfl ?_);refine box_event rfl (N:=3) rfl (t:=27) (by go_simp<;>rfl) ?_;intro g hg w2 hbox hb;have BK:=am hbox;have HB:=am hb;have GE:=am (show w.heap.size<=g by omega);clear hbox hb hg;have hc:=zc8 BK.out)|(go_at_call 51;refine (isPlace_calls _ _ _).mono ?_;rw [HP.out];rintro e w1 ⟨rfl,rfl⟩))
  go_ret;exact ⟨ret_bool HN.out.symm,HB.out⟩
end Go.Proofs.Ytimamoimphjakaa.Eq
namespace Go.Proofs.Ytimamoimphjakaa.Eq
section
variable {ts:List Task}
def upAt (ts:List Task) (t:Int):Int:=(taskAt ts t.toNat).up
theorem under_iff {t up:Int}:underOf ts t up=true ↔ (0<=t/\t < ts.length/\upAt ts t < t)/\((upAt ts t=up/\0<=up)\/(upAt ts t ≠ up/\underOf ts (upAt ts t) up=true)):=by
 by_cases h:0<=t/\t < (ts.length:Int)/\(taskAt ts t.toNat).up < t
 ·rw [underOf_in h.1 h.2.1 h.2.2]
  constructor
  ·intro hu
   refine ⟨h, ?_⟩;unfold upAt;split at hu
   ·rename_i he
    exact .inl ⟨he,by simpa using hu⟩
   ·rename_i he
    exact .inr ⟨he,hu⟩
  ·rintro ⟨_,hu⟩
   unfold upAt at hu;rcases hu with ⟨h1,h2⟩ | ⟨h1,h2⟩
   ·rw [if_pos h1]
    simpa using h2
   ·rw [if_neg h1]
    exact h2
 ·rw [underOf_out h]
  constructor
  ·intro hu
   cases hu
  ·rintro ⟨h1,_⟩
   exact absurd h1 h
theorem under_lt:∀ (n:Nat) {t up:Int},t.toNat < n->underOf ts t up=true->0<=up/\up < t/\0<=t/\t < ts.length
 | 0,t,up,h,_=>by omega
 | n+1,t,up,h,hu=>by
  obtain ⟨⟨h0,h1,h2⟩,h3⟩:=under_iff.1 hu;rcases h3 with ⟨rfl,h4⟩ | ⟨h4,h5⟩
  ·exact ⟨h4,h2,h0,h1⟩
  ·by_cases hneg:upAt ts t < 0
   ·obtain ⟨⟨h6,_⟩,_⟩:=under_iff.1 h5
    omega
   ·have:=under_lt n (by omega) h5
    omega
theorem under_in {t up:Int} (h:underOf ts t up=true):0<=up/\up < t/\0<=t/\t < ts.length:=under_lt _ (Nat.lt_succ_self _) h
theorem under_next {t up c:Int} (ht:0<=t/\t < ts.length/\upAt ts t < t) (hc:0<=c) (h:upAt ts t=c\/underOf ts (upAt ts t) c=true):underOf ts t c=true:=by
 rw [under_iff];refine ⟨ht, ?_⟩;by_cases he:upAt ts t=c
 ·exact .inl ⟨he,hc⟩
 ·exact .inr ⟨he,h.resolve_left he⟩
theorem under_on:∀ (n:Nat) {a b c:Int},a.toNat < n->underOf ts a b=true->underOf ts b c=true->underOf ts a c=true
 | 0,a,b,c,h,_,_=>by omega
 | n+1,a,b,c,h,h1,h2=>by
  have hb:=under_in h1;have hc:=under_in h2;obtain ⟨h3,h4⟩:=under_iff.1 h1;refine under_next (up:=b) h3 hc.1 (.inr ?_);rcases h4 with ⟨rfl,_⟩ | ⟨_,h6⟩
  ·exact h2
  ·have:=under_in h6
   exact under_on n (by omega) h6 h2
theorem under_trans {a b c:Int} (h1:underOf ts a b=true) (h2:underOf ts b c=true):underOf ts a c=true:=under_on _ (Nat.lt_succ_self _) h1 h2
theorem kid_under {k t:Int} (h:k ∈ kids ts t):upAt ts k=t/\t < k/\0<=t/\0<=k/\k < ts.length/\underOf ts k t=true:=by
 obtain ⟨i,hi,h0,hu,hlt,rfl⟩:=mem_kids.1 h
 have he:upAt ts (i:Int)=t:=by
  unfold upAt;rw [Int.toNat_natCast];exact hu
 exact ⟨he,hlt,h0,by omega,by omega,under_next (up:=t) ⟨by omega,by omega,by omega⟩ h0 (.inl he)⟩
def adjB (R:Int->Int->Prop):List Int->Prop
 | []=>True
 | [_]=>True
 | x :: y :: l=>R x y/\adjB R (y :: l)
theorem adj_append {R:Int->Int->Prop}:∀ {a b:List Int},adjB R a->adjB R b->(∀ x ∈ a,∀ y,b.head? = some y->R x y)->adjB R (a ++ b)
 | [],b,_,hb,_=>hb
 | [x], [],_,_,_=>trivial
 | [x],y :: b,_,hb,h=>⟨h x (by simp) y rfl,hb⟩
 | x :: y :: a,b,ha,hb,h=>⟨ha.1,adj_append (a:=y :: a) ha.2 hb (fun z hz=>h z (by simp only [List.mem_cons] at hz ⊢;exact .inr hz))⟩
theorem adj_at {R:Int->Int->Prop}:∀ {l:List Int},adjB R l->∀ i,(h:i+1 < l.length)->R (l[i]'(by omega)) l[i+1]
 | [],_,i,h=>by simp at h
 | [x],_,i,h=>by simp at h
 | x :: y :: l,ha,0,h=>ha.1
 | x :: y :: l,ha,i+1,h=>adj_at (l:=y :: l) ha.2 i (by simpa using h)
theorem head_flat {l:List (List Int)} {y:Int} (h:l.flatten.head? = some y):∃ m ∈ l,m.head? = some y:=by
 induction l with
 | nil=>simp at h
 | cons a l ih=>
  rw [List.flatten_cons] at h
  cases a with
  | nil=>
   obtain ⟨m,hm,he⟩:=ih h
   exact ⟨m,by simp [hm],he⟩
  | cons x a=>exact ⟨x :: a,by simp,by simpa using h⟩
theorem adj_flat {R:Int->Int->Prop}:∀ {l:List (List Int)},(∀ m ∈ l,adjB R m)->(∀ m ∈ l,∀ x ∈ m,∀ m' ∈ l,∀ y,m'.head? = some y->R x y)->adjB R l.flatten
 | [],_,_=>trivial
 | a :: l,h1,h2=>by
  rw [List.flatten_cons];refine adj_append (h1 a (by simp)) (adj_flat (fun m hm=>h1 m (by simp [hm])) (fun m hm x hx m' hm' y hy=>h2 m (by simp [hm]) x hx m' (by simp [hm']) y hy)) (fun x hx y hy=> ?_);obtain ⟨m,hm,he⟩:=head_flat hy;exact h2 a (by simp) x hx m (by simp [hm]) y he
def nearR (ts:List Task) (x y:Int):Prop:=0<=upAt ts y->x=upAt ts y\/underOf ts x (upAt ts y)=true
theorem walkF_head {f:Nat} {t y:Int} (h:(walkF ts f t).head? = some y):y=t:=by
 cases f with
 | zero=>simp [walkF] at h
 | succ f=>simpa [walkF] using h.symm
theorem walkF_below {f:Nat}:∀ {t x:Int},0<=t->t < ts.length->x ∈ walkF ts f t->x=t\/underOf ts x t=true:=by
 induction f with
 | zero=>intro t x _ _ h;simp [walkF] at h
 | succ f ih=>
  intro t x h0 h1 h;unfold walkF at h;rcases List.mem_cons.1 h with rfl | h
  ·exact .inl rfl
  ·obtain ⟨l,hl,hx⟩:=List.mem_flatten.1 h
   obtain ⟨k,hk,rfl⟩:=List.mem_map.1 hl;obtain ⟨h2,h3,h4,h5,h6,h7⟩:=kid_under hk;rcases ih h5 h6 hx with rfl | h8
   ·exact .inr h7
   ·exact .inr (under_trans h8 h7)
theorem walkF_near:∀ (f:Nat) {t:Int},0<=t->t < ts.length->adjB (nearR ts) (walkF ts f t)
 | 0,t,_,_=>trivial
 | f+1,t,h0,h1=>by
  show adjB (nearR ts) ([t] ++ ((kids ts t).map (walkF ts f)).flatten);refine adj_append trivial (adj_flat (fun m hm=> ?_) (fun m hm x hx m' hm' y hy=> ?_)) (fun x hx y hy=> ?_)
  ·obtain ⟨k,hk,rfl⟩:=List.mem_map.1 hm
   obtain ⟨h2,h3,h4,h5,h6,h7⟩:=kid_under hk;exact walkF_near f h5 h6
  ·obtain ⟨k,hk,rfl⟩:=List.mem_map.1 hm
   obtain ⟨k',hk',rfl⟩:=List.mem_map.1 hm';obtain rfl:=walkF_head hy;obtain ⟨h2,h3,h4,h5,h6,h7⟩:=kid_under hk;obtain ⟨g2,_⟩:=kid_under hk';intro _;rw [g2];rcases walkF_below h5 h6 hx with rfl | h8
   ·exact .inr h7
   ·exact .inr (under_trans h8 h7)
  ·obtain ⟨m,hm,he⟩:=head_flat hy
   obtain ⟨k,hk,rfl⟩:=List.mem_map.1 hm;obtain rfl:=walkF_head he;obtain ⟨g2,_⟩:=kid_under hk;intro _;rw [g2];simp at hx;exact .inl hx
theorem walkAll_near:adjB (nearR ts) (walkAll ts):=by
 unfold walkAll walkTo;refine adj_flat (fun m hm=> ?_) (fun m hm x hx m' hm' y hy=> ?_)
 ·obtain ⟨k,hk,rfl⟩:=List.mem_map.1 hm
  obtain ⟨i,hi,_,rfl⟩:=mem_pickTo.1 hk;exact walkF_near _ (by omega) (by omega)
 ·obtain ⟨k,hk,rfl⟩:=List.mem_map.1 hm'
  obtain ⟨i,hi,hr,rfl⟩:=mem_pickTo.1 hk;obtain rfl:=walkF_head hy;simp only [isRoot,decide_eq_true_eq] at hr;intro hp;unfold upAt at hp;rw [Int.toNat_natCast,hr] at hp;omega
end
end Go.Proofs.Ytimamoimphjakaa.Eq
namespace Go.Proofs.Ytimamoimphjakaa.Eq
open Go.RowKit Go.Proofs.YtimamoimphjakaaW.PrintWords Go.Proofs.YtimamoimphjakaaW.PrintLast Go.Proofs.YtimamoimphjakaaW.PrintMore
theorem task_up {W:World} {b o:Nat} {ts:List Task} (h:kTask.C W (some ⟨b,o,none⟩) ts.length ts) {i:Nat} (hi:i < ts.length):W.cell? ⟨b,o+i*13+2,none⟩=some (.int .i64 (taskAt ts i).up):=by
 obtain ⟨b2,o2,cs2,e2,hcl,hK,hcc,hc0⟩:=C_field h zTask i hi (by decide);cases e2;rw [show ts.getD i zTask=taskAt ts i from rfl] at hK;obtain ⟨B3,d3,B8,d8,B9,d9,B10,d10,rfl,_,_,_,_,_,_,_,_⟩:=kTask_open hK;exact hcc 2 _ rfl
theorem rd_mem {xs:List Int} {k:Nat} (h:k < xs.length):rd xs (k:Int) ∈ xs:=by
 simp [rd,List.getD_eq_getElem?_getD,List.getElem?_eq_getElem h]
def Grew (w w':World) (v v':Value):Prop:=w.grownBy w' v.ownBlock/\(v'.ownBlock=v.ownBlock\/∃ b,v'.ownBlock=some b/\w.heap.size<=b)
theorem grown_comp {w w1 w2:World} {r r1:Option Nat} (h:w.grownBy w1 r) (k:w1.grownBy w2 r1) (hat:r1=r\/∃ b,r1=some b/\w.heap.size<=b):w.grownBy w2 r:=
 ⟨k.os.trans h.os,k.tape.trans h.tape,k.output.trans h.output,Nat.le_trans h.size k.size,fun i hi hne=>(k.block i (Nat.lt_of_lt_of_le hi h.size) (fun he=>by
  rcases hat with rfl | ⟨b,rfl,hb⟩
  ·exact hne he
  ·injection he with he;omega)).trans (h.block i hi hne)⟩
theorem Grew.trans {w w1 w2:World} {v v1 v2:Value} (h:Grew w w1 v v1) (k:Grew w1 w2 v1 v2):Grew w w2 v v2:=
 ⟨grown_comp h.1 k.1 h.2,by
  rcases k.2 with e | ⟨b,hb,hle⟩
  ·rw [e];exact h.2
  ·exact .inr ⟨b,hb,Nat.le_trans h.1.size hle⟩⟩
theorem Grew.below {w w1:World} (h:Below w.heap.size w w1) (v:Value):Grew w w1 v v:=⟨grown_of_below h _,.inl rfl⟩
theorem Grew.drew {w w1:World} {v v1:Value} (h:Grew w w1 v v1):Grew w w1.drew v v1:=⟨⟨h.1.os,h.1.tape,h.1.output,h.1.size,h.1.block⟩,h.2⟩
theorem flat_take {α β:Type} (g:α->List β) (l:List α) (z:α) (j:Nat) (h:j < l.length):((l.take (j+1)).map g).flatten=((l.take j).map g).flatten ++ g (l.getD j z):=by
 rw [List.take_succ_eq_append_getElem h,List.map_append,List.flatten_append];simp [List.getD_eq_getElem?_getD,List.getElem?_eq_getElem h]
theorem flat_take_le {α β:Type} (g:α->List β) (l:List α) (j:Nat):((l.take j).map g).flatten.length<=(l.map g).flatten.length:=by
 conv=>(rhs;rw [<-List.take_append_drop j l])
 rw [List.map_append,List.flatten_append,List.length_append];omega
theorem kidAt {ts:List Task} {m k:Nat} (h:k < (kids ts m).length):∃ i:Nat,i < ts.length/\m < i/\rd (kids ts m) (k:Int)=(i:Int):=by
 obtain ⟨i,h1,_,_,h4,h3⟩:=mem_kids.1 (List.getElem_mem h);exact ⟨i,h1,by omega,by rw [rd,Int.toNat_natCast,List.getD_eq_getElem?_getD,List.getElem?_eq_getElem h,Option.getD_some,h3]⟩
theorem l21_calls (s:Sys) (cs:List Value) (w0:World) (hx:kSys.K w0 s cs) (hn:s.tasks.length<=1048576):∀ (f m:Nat),m < s.tasks.length->s.tasks.length<=m+f->∀ (w:World) (v:Value) (xs:List Int),
  Below w0.heap.size w0 w->Kd.R (Kd.int .i64) 3 w w0.heap.size (fun _=>True) v xs->xs.length+(walkF s.tasks f m).length<=2097152->
  Calls Try.prog 60 #[.agg cs.toArray,.int .i64 m,v] w fun e w'=>∃ v1,e= .returned v1/\Kd.R (Kd.int .i64) 3 w' w0.heap.size (fun _=>True) v1 (xs ++ walkF s.tasks f m)/\Below w0.heap.size w0 w'/\Grew w w' v v1:=by
 obtain ⟨A0,c0,A1,c1,A3,c3,rfl,l0,g0,l1,g1,l3,g3⟩:=kSys_open hx;have G:=am (And.intro g0 (And.intro g1 g3));clear g0 g1 g3 hx;intro f
 induction f with
 | zero=>intro m h1 h2;omega
 | succ f ih=>
  intro m hm hf w v xs hB0 hO0 hL0;have hB:=am hB0;have hO:=am hO0;have hL:=hL0;rw [show walkF s.tasks (f+1) m=(m:Int) :: ((kids s.tasks m).map (walkF s.tasks f)).flatten from rfl] at hL ⊢;simp only [List.length_cons] at hL;clear hB0 hO0 hL0;have IH:=am ih;clear ih;go_enter Try.func60,Try.ntmps60;go_wp2_with (first|((with_reducible refine gate_dst (N:=3) rfl ?_);refine box_event rfl (N:=3) rfl (t:=27) (by go_simp<;>rfl) ?_;intro g hg w2 hbox hb;have BK:=am hbox;have HG:=am (Grew.below hb v);have HB:=am (below_step hB.out hb);have HO:=am (Kd.R_below hO.out hb);clear hbox hb hg;have hc:=zc8 BK.out)|((with_reducible refine gate_builtin (b:=.append) (xs:=#[.tmp 9,.tmp 11]) rfl ?_);at_builtin;refine Kd.R_append (Kd.int .i64) (w0:=w0) w0.heap.size rfl (.tmp 9) (.tmp 11) 29 3 (.int .i64 0) 8 rfl Try.underlying29 info_int rfl (by decide) (by omega) _ xs (m:Int) [.int .i64 (m:Int)] (fun _=>True) (fun _=>False) rfl rfl rfl (fun _ hk=>hk.elim) (fun _ _=>trivial) HO.out HB.out (below_size HB.out) (by first|omega|(simp only [List.length_append,List.length_cons,List.length_nil] at *;omega)) ?_;intro v1 w1 ho hb hg hat;have BK1:=am (blk_grown BK.out hg (Kd.R_ne HO.out BK.out (by decide)));have HG1:=am (HG.out.trans ⟨hg,hat⟩);have HO1:=am ho;have HB1:=am hb;clear ho hb hg hat HO HB BK HG hc;have hc:=zc8 BK1.out)|(go_at_call 32;refine (specKids_calls s _ (m:Int) _ (kSys_mk s l0 (Kd.C_below G.out.1 HB1.out) l1 (Kd.C_below G.out.2.1 HB1.out) l3 (Kd.C_below G.out.2.2 HB1.out)) hn).mono ?_;rintro e w2 ⟨vk,rfl,ho,hb⟩;have HK:=am (Kd.R_lower (base':=w0.heap.size) (Kd.R_newR ho HO1.out) (below_size HB1.out));have BK2:=am (zb8 BK1.out hb);have HO2:=am (Kd.R_below HO1.out hb);have HB2:=am (below_step HB1.out hb);have HG2:=am (HG1.out.trans (Grew.below hb _));clear ho hb BK1 HO1 HB1 HG1 hc;have hc:=zc8 BK2.out))
  go_loopw [2,8] (fun vo i w'=>∃ j:Nat,j<=(kids s.tasks m).length/\i= .int .i64 j/\Aside0 (Kd.R (Kd.int .i64) 3 w' w0.heap.size (fun _=>True) vo (xs ++ ((m:Int) :: (((kids s.tasks m).take j).map (walkF s.tasks f)).flatten)))/\Aside0 (Kd.R (Kd.int .i64) 3 w' w0.heap.size (fun k=>True/\some k ≠ vo.ownBlock) vk (kids s.tasks m))/\Aside0 (w'.heap[g]? = some (.cells #[.slice A0 s.cells.length c0,.slice A1 s.tasks.length c1,.int .i64 s.clock,.slice A3 s.log.length c3] 27 (0,0)))/\Aside0 (Below w0.heap.size w0 w')/\Aside0 (Grew w w' v vo)) (fun _ i _=>(kids s.tasks m).length - (intOf i).toNat)
  case atStart=>exact ⟨0,Nat.zero_le _,rfl,HO2,HK,BK2,HB2,HG2⟩
  case round=>
   clear HO2 HK BK2 HB2 HG2 hc;obtain ⟨j,hj,rfl,HO,HK,BK,HB,HG⟩:=hrel;have BKc:=zc8 BK.out;have hkl:(kids s.tasks m).length<=1048576:=Nat.le_trans (pickTo_length _ _) hn;obtain ⟨Av,cv,rfl⟩:=Kd.R_slice HK.out;by_cases hlt:j < (kids s.tasks m).length
   ·have q0:(0:Int)<=(j:Int):=by omega
    have q1:(j:Int) < ((kids s.tasks m).length:Int):=by omega
    obtain ⟨i,hil,hmi,hi⟩:=kidAt hlt;obtain ⟨gl,cap,he,hg1,hg2,hg3⟩:=Kd.R_form HK.out (by omega);cases he;have h_kid:=(Kd.R_celln 0 HK.out (j:Int) q0 q1).1;rw [show rdOf 0 (kids s.tasks m) (j:Int)=(i:Int) from hi,Int.toNat_natCast] at h_kid;have HT:=am (flat_take (walkF s.tasks f) (kids s.tasks m) 0 j hlt);rw [show (kids s.tasks m).getD j 0=(i:Int) from by rw [<-hi];rfl] at HT;clear hg3 hi;go_wp2;refine wp_region_still_tail 6 (by kernel_rfl) (by kernel_rfl) ?_;simp only [List.take_succ_cons,List.take_zero,List.drop_succ_cons,List.drop_zero];iterate 6 still_step
    refine wpStill_nil ?_;have ih:=IH.out;have ihA:=am ih;clear ih;go_wp2_with (go_at_call 60;refine (ihA.out i hil (by omega) _ _ _ (below_drew HB.out) (Kd.R_drew HO.out) (by have h1:=HT.out;have h2:=flat_take_le (walkF s.tasks f) (kids s.tasks m) (j+1);rw [h1] at h2;simp only [List.length_append,List.length_cons,List.length_nil] at *;omega)).mono ?_;rintro e w3 ⟨v3,rfl,ho,hb,hg⟩;have HO3:=am ho;have HB3:=am hb;have HG3:=am (HG.out.drew.trans hg);have BK3:=am (blk_grown (blk_drew BK.out) hg.1 (Kd.R_ne (Kd.R_drew HO.out) (blk_drew BK.out) (by decide)));have HK3:=am (Kd.R_after (Kd.R_drew HK.out) hg.1 hg.2);clear ho hb hg HO HB HG BK HK)
    go_roundw
    case rel=>exact ⟨j+1,by omega,by go_num,⟨by have h:=HO3.out;rw [HT.out];rw [List.append_assoc,List.cons_append] at h;exact h⟩,HK3,BK3,HB3,HG3⟩
    case measure=>simp [intOf];omega
   ·go_wp2
    go_ret;obtain rfl:j=(kids s.tasks m).length:=by omega
    exact ⟨_,rfl,by have h:=HO.out;rw [List.take_length] at h;exact h,HB.out,HG.out⟩
theorem specWalk_calls (s:Sys) (cs:List Value) (w:World) (hx:kSys.K w s cs) (hn:s.tasks.length<=1048576):
  Calls Try.prog 37 #[.agg cs.toArray] w fun e w'=>∃ v,e= .returned v/\(Kd.int .i64).R 3 w' w.heap.size (fun _=>True) v (walkAll s.tasks)/\Below w.heap.size w w':=by
 obtain ⟨A0,c0,A1,c1,A3,c3,rfl,l0,g0,l1,g1,l3,g3⟩:=kSys_open hx;have G:=am (And.intro g0 (And.intro g1 g3));clear g0 g1 g3;have HX:=am hx;clear hx;go_enter Try.func37,Try.ntmps37;go_wp2_with (first|((with_reducible refine gate_dst (N:=1) rfl ?_);refine box_event rfl (N:=1) rfl (t:=27) (by go_simp<;>rfl) ?_;intro g hg w2 hbox hb;have BK:=am hbox;have HB:=am hb;have GE:=am (show w.heap.size<=g by omega);clear hbox hb hg;have hc:=zc8 BK.out)|((with_reducible refine gate_dst (N:=5) rfl ?_);refine Kd.R_lit (w0:=w) (Kd.int .i64) w.heap.size 3 rfl (N:=5) rfl (xs:=([]:List Int)) (inner:= []) (ok:=fun _=>True) (okp:=fun _=>True) (by go_simp<;>rfl) (Reps.none _ _) (fun _ hk=>hk) trivial HB.out (below_size HB.out) (by simp) ?_;intro v0 w3 ho hb hg _;have BK1:=am (blk_grown BK.out hg (by simp));have HO1:=am ho;have HB1:=am hb;clear ho hb hg HB BK hc;have hc:=zc8 BK1.out))
 go_loopw [3,4] (fun v i w'=>∃ k:Nat,k<=s.tasks.length/\i= .int .i64 k/\Aside0 (Kd.R (Kd.int .i64) 3 w' w.heap.size (fun _=>True) v (walkTo s.tasks k))/\Aside0 (w'.heap[g]? = some (.cells #[.slice A0 s.cells.length c0,.slice A1 s.tasks.length c1,.int .i64 s.clock,.slice A3 s.log.length c3] 27 (0,0)))/\Aside0 (Below w.heap.size w w')) (fun _ i _=>s.tasks.length - (intOf i).toNat)
 case atStart=>exact ⟨0,Nat.zero_le _,rfl,HO1,BK1,HB1⟩
 case round=>
  clear HO1 BK1 HB1 hc;obtain ⟨k,hk,rfl,HO,BK,HB⟩:=hrel;by_cases hlt:k < s.tasks.length
  · skip
    have BKc:=zc8 BK.out;obtain ⟨b,o,cs,rfl,hcl,hK,hcc,hc0⟩:=C_field (Kd.C_below G.out.2.1 HB.out) zTask k hlt (by decide);rw [show s.tasks.getD k zTask=taskAt s.tasks k from rfl] at hK;obtain ⟨B3,d3,B8,d8,B9,d9,B10,d10,rfl,_,_,_,_,_,_,_,_⟩:=kTask_open hK;have h_up:=hcc 2 _ rfl;simp only [show kTask.sz=13 from rfl] at h_up;clear hcc hc0 hK hcl;have q0:(0:Int)<=(k:Int):=by omega
    have q1:(k:Int) < (s.tasks.length:Int):=by omega
    have hwl:=walkTo_le s.tasks (k:=k+1) hlt;by_cases hy:(taskAt s.tasks k).up= -1
    ·have y1:((taskAt s.tasks k).up == -1)=true:=by simp [hy]
     have HR:=am (walkTo_yes (ts:=s.tasks) (k:=k) (by simp [isRoot,hy]));clear hy;rw [HR.out,List.length_append] at hwl;go_wp2_with (go_at_call 60;refine (l21_calls s _ w HX.out hn s.tasks.length k hlt (by omega) _ _ _ HB.out HO.out (by unfold walkOf at hwl;omega)).mono ?_;rintro e w3 ⟨v3,rfl,ho,hb,hg⟩;have HO3:=am ho;have HB3:=am hb;have BK3:=am (blk_grown BK.out hg.1 (Kd.R_ne HO.out BK.out (by decide)));clear ho hb hg HO HB BK BKc)
     go_roundw
     case rel=>exact ⟨k+1,by omega,by go_num,⟨by rw [HR.out];exact HO3.out⟩,BK3,HB3⟩
     case measure=>simp [intOf];omega
    ·have y1:((taskAt s.tasks k).up == -1)=false:=by simp [hy]
     have HR:=am (walkTo_no (ts:=s.tasks) (k:=k) (by simp [isRoot,hy]));clear hy;go_wp2;go_roundw
     case rel=>exact ⟨k+1,by omega,by go_num,⟨by rw [HR.out];exact HO.out⟩,BK,HB⟩
     case measure=>simp [intOf];omega
  ·have BKc:=zc8 BK.out
   go_wp2;go_ret;obtain rfl:k=s.tasks.length:=by omega
   exact ⟨_,rfl,HO.out,HB.out⟩
theorem len_le_flat {ts:List Task}:∀ (l:List Int),(∀ x ∈ l,0<=x/\x < (ts.length:Int))->l.length<=((l.map (walkOf ts)).flatten).length
 | [],_=>by simp
 | x :: l,h=>by
  have h1:=len_le_flat l (fun y hy=>h y (List.mem_cons_of_mem _ hy));have h2:=h x List.mem_cons_self;rw [List.map_cons,List.flatten_cons,List.length_append,walkOf_eq h2.1 h2.2];simp only [List.length_cons];omega
theorem stack_step {ts:List Task} {st:List Int} {m:Nat} (hm:m < ts.length) (ws W:List Int) (h:ws ++ (((st ++ [(m:Int)]).reverse).map (walkOf ts)).flatten=W):
  (ws ++ [(m:Int)]) ++ (((st ++ (kids ts m).reverse).reverse).map (walkOf ts)).flatten=W:=by
 rw [<-h];simp only [List.reverse_append,List.reverse_reverse,List.map_append,List.flatten_append,List.reverse_cons,List.reverse_nil,List.nil_append,List.map_cons,List.map_nil,List.flatten_cons,List.flatten_nil,List.append_nil,List.singleton_append];rw [walkOf_eq (t:=(m:Int)) (by omega) (by omega)];simp
theorem rev_take {K:List Int} {j p:Nat} (h:p+1+j=K.length):(K.reverse).take (j+1)=(K.reverse).take j ++ [K.getD p 0]:=by
 rw [List.take_succ_eq_append_getElem (by simp;omega)]
 congr 2
 rw [List.getElem_reverse,List.getD_eq_getElem?_getD,List.getElem?_eq_getElem (by omega),Option.getD_some]
 congr 1
 omega
theorem implWalk_calls (s:Sys) (cs:List Value) (w:World) (hx:kSys.K w s cs) (hn:s.tasks.length<=1048576):
  Calls Try.prog 36 #[.agg cs.toArray] w fun e w'=>∃ v,e= .returned v/\(Kd.int .i64).R 3 w' w.heap.size (fun _=>True) v (walkAll s.tasks)/\Below w.heap.size w w':=by
 obtain ⟨A0,c0,A1,c1,A3,c3,rfl,l0,g0,l1,g1,l3,g3⟩:=kSys_open hx;have G:=am (And.intro g0 (And.intro g1 g3));clear g0 g1 g3;have HX:=am hx;clear hx;go_enter Try.func36,Try.ntmps36;go_wp2_with ((with_reducible refine gate_dst (N:=1) rfl ?_);refine box_event rfl (N:=1) rfl (t:=27) (by go_simp<;>rfl) ?_;intro g hg w2 hbox hb;have BK:=am hbox;have HB:=am hb;have GE:=am (show w.heap.size<=g by omega);clear hbox hb hg;have hc:=zc8 BK.out)
 go_loopw [3,13] (fun v i w'=>∃ k:Nat,k<=s.tasks.length/\i= .int .i64 k/\Aside0 (Kd.R (Kd.int .i64) 3 w' w.heap.size (fun _=>True) v (walkTo s.tasks k))/\Aside0 (w'.heap[g]? = some (.cells #[.slice A0 s.cells.length c0,.slice A1 s.tasks.length c1,.int .i64 s.clock,.slice A3 s.log.length c3] 27 (0,0)))/\Aside0 (Below w.heap.size w w')) (fun _ i _=>s.tasks.length - (intOf i).toNat)
 case atStart=>exact ⟨0,Nat.zero_le _,rfl,⟨Kd.R_nil _ _ _ _ _⟩,BK,HB⟩
 case round=>
  clear BK HB hc;obtain ⟨k,hk,rfl,HO,BK,HB⟩:=hrel;by_cases hlt:k < s.tasks.length
  · skip
    have BKc:=zc8 BK.out;obtain ⟨b,o,cs,rfl,hcl,hK,hcc,hc0⟩:=C_field (Kd.C_below G.out.2.1 HB.out) zTask k hlt (by decide);rw [show s.tasks.getD k zTask=taskAt s.tasks k from rfl] at hK;have HK:=am hK;have HCC:=am hcc;have q0:(0:Int)<=(k:Int):=by omega
    have q1:(k:Int) < (s.tasks.length:Int):=by omega
    clear hK hcc hc0;obtain ⟨B3,d3,B8,d8,B9,d9,B10,d10,hcs,_,_,_,_,_,_,_,_⟩:=kTask_open HK.out;have e2:cs.toArray[2]? = some (.int .i64 (taskAt s.tasks k).up):=by rw [hcs];rfl
    clear hcs;have HE2:=am e2;clear e2;have hwl:=walkTo_le s.tasks (k:=k+1) hlt;by_cases hy:(taskAt s.tasks k).up= -1
    ·have y1:((taskAt s.tasks k).up != -1)=false:=by simp [hy]
     have HR:=am (walkTo_yes (ts:=s.tasks) (k:=k) (by simp [isRoot,hy]));clear hy;go_wp2_with (first|((with_reducible refine gate_dst (N:=17) rfl ?_);refine wpList_load_mid rfl 38 (.tmp 16) rfl b (o+k*13) rfl cs _ HCC.out Try.underlying38 rfl (by rw [hcl];kernel_rfl) ?_)|((with_reducible refine gate_dst (N:=5) rfl ?_);refine box_event rfl (N:=5) rfl (cs:=zeroTask) (t:=38) (by go_simp<;>rfl) ?_;intro g5 hg w2 hbox hb;have BK5:=am hbox;have G5:=am (show wr.heap.size<=g5 by omega);have HW:=am hb;clear hbox hb hg)|((with_reducible refine gate_store (t:=38) (p:=5) rfl ?_);refine store_block rfl rfl 38 (.tmp 5) (.tmp 17) rfl rfl rfl BK5.out (by rw [hcl];rfl) (by rw [hcl];kernel_rfl) (kTask.K_one HK.out) ?_;intro w3 hbox hg;have BT:=am hbox;have HW3:=am (pw_below_grown HW.out _ HW.out.size hg (fun z hz=>by cases hz;exact G5.out));clear hbox hg BK5 HW;have u2:=(zc8 BT.out 2).trans HE2.out)|((with_reducible refine gate_dst (N:=22) rfl ?_);refine Kd.R_lit (w0:=w3) (Kd.int .i64) w3.heap.size 3 rfl (N:=22) rfl (xs:= [(k:Int)]) (inner:= [.int .i64 (k:Int)]) (ok:=fun _=>True) (okp:=fun _=>True) (by go_simp<;>rfl) (Kd.reps_scalar [(k:Int)]) (fun _ hk=>hk) trivial (Below.refl _ _) (Nat.le_refl _) (by simp) ?_;intro vst w5 ho hb hg hat;have HW5:=am (below_step HW3.out hb);clear hb))
     have HS:=am (Kd.R_lower (base':=w.heap.size) (Kd.R_newR ho (Kd.R_below HO.out HW3.out)) (below_size (below_step HB.out HW3.out)))
     have HO1:=am (Kd.R_after (v:=.slice none 0 0) (v1:=vst) (Kd.R_apart_nil (Kd.R_below HO.out HW3.out)) hg (by
      obtain ⟨b,hb,hle⟩:=hat;exact .inr ⟨b,hb,hle⟩))
     have BK1:=am (zb8 BK.out HW5.out);have HB1:=am (below_step HB.out HW5.out);clear ho hg hat HO BK HB HW3 HW5 BT HK HCC HE2 u2 BKc;go_loopg [3,6] (walkOf s.tasks k).length (fun gn vw vs w'=>∃ (ws st:List Int),Aside0 (Kd.R (Kd.int .i64) 3 w' w.heap.size (fun k=>True/\some k ≠ vs.ownBlock) vw ws)/\Aside0 (Kd.R (Kd.int .i64) 3 w' w.heap.size (fun k=>True/\some k ≠ vw.ownBlock) vs st)/\Aside0 (ws ++ ((st.reverse).map (walkOf s.tasks)).flatten=walkTo s.tasks (k+1))/\Aside0 (((st.reverse).map (walkOf s.tasks)).flatten.length=gn)/\Aside0 (∀ x ∈ st,0<=x/\x < (s.tasks.length:Int))/\Aside0 (w'.heap[g]? = some (.cells #[.slice A0 s.cells.length c0,.slice (some ⟨b,o,none⟩) s.tasks.length c1,.int .i64 s.clock,.slice A3 s.log.length c3] 27 (0,0)))/\Aside0 (Below w.heap.size w w'))
     case atStart=>exact ⟨walkTo s.tasks k, [(k:Int)],HO1,HS,⟨by rw [HR.out];simp⟩,⟨by simp⟩,⟨fun x hx=>by rw [List.mem_singleton.1 hx];omega⟩,BK1,HB1⟩
     case round=>
      clear HO1 HS BK1 HB1;obtain ⟨ws,st,HO,HS,HEQ,HGN,HIN,BK,HB⟩:=hrel;have BKc:=zc8 BK.out;rcases List.eq_nil_or_concat st with rfl | ⟨st,top,rfl⟩
      ·obtain ⟨As,cs',rfl⟩:=Kd.R_slice HS.out
       simp only [List.length_nil] at*;go_wp2;go_roundw
       case rel=>exact ⟨k+1,by omega,by go_num,⟨by have h:=HEQ.out;simp only [List.reverse_nil,List.map_nil,List.flatten_nil,List.append_nil] at h;rw [<-h];exact R_any HO.out⟩,BK,HB⟩
       case measure=>simp [intOf];omega
      ·simp only [List.concat_eq_append] at*
       have htop:=HIN.out top (by simp);obtain ⟨m,rfl⟩:=Int.eq_ofNat_of_zero_le htop.1;have hml:m < s.tasks.length:=by omega
       have HE2:=am (stack_step hml ws _ HEQ.out)
       have HIN2:=am (show ∀ x ∈ st ++ (kids s.tasks m).reverse,0<=x/\x < (s.tasks.length:Int) from fun x hx=>by
        rcases List.mem_append.1 hx with hx | hx
        ·exact HIN.out x (by simp [hx])
        ·obtain ⟨i,hi,_,_,_,rfl⟩:=mem_kids.1 (List.mem_reverse.1 hx)
         omega)
       have HLN:=am (show st.length+(kids s.tasks m).length<=1048576/\ws.length+1<=1048576 by
        have h1:=congrArg List.length HE2.out;have h2:=len_le_flat (ts:=s.tasks) ((st ++ (kids s.tasks m).reverse).reverse) (fun x hx=>HIN2.out x (List.mem_reverse.1 hx));simp only [List.length_append,List.length_reverse,List.length_cons,List.length_nil] at h1 h2;omega)
       have hl1:=HLN.out.1;have hl2:=HLN.out.2;clear htop;have hsl:(st ++ [(m:Int)]).length=st.length+1:=by simp
       obtain ⟨gs,cap,rfl,hg1,hg2,hg3⟩:=Kd.R_form HS.out (by omega);have q0:(0:Int)<=(st.length:Int):=by omega
       have hst:=(Kd.R_celln 0 HS.out (st.length:Int) q0 (by omega)).1;rw [show rdOf 0 (st ++ [(m:Int)]) (st.length:Int)=(m:Int) from by simp [rdOf],Int.toNat_natCast] at hst;have HS0:=HS;clear HS;have HS:=am (Kd.R_take HS0.out (m:=st.length) (by omega));rw [List.take_left' rfl] at HS;have hcap:=(Kd.R_reads' HS0.out).2.1;rw [hsl] at hcap HO HS0;clear hg3 HS0 hg2;obtain ⟨i0,hi0⟩:∃ i0,Try.prog.info? 3=some i0:=Option.isSome_iff_exists.1 (by kernel_rfl);have hcut:=cut_to 29 3 .i64 Try.underlying29 hi0 (some ⟨gs,0,none⟩) (st.length+1) cap (st.length:Int) q0 (by omega) hcap;simp only [Int.toNat_natCast] at hcut;clear hi0;rw [hsl];go_wp2_with (first|((with_reducible refine gate_builtin (b:=.append) (xs:=#[.tmp 37,.tmp 39]) rfl ?_);at_builtin;refine Kd.R_append (Kd.int .i64) (w0:=w) w.heap.size rfl (.tmp 37) (.tmp 39) 29 3 (.int .i64 0) 8 rfl Try.underlying29 info_int rfl (by decide) (by omega) _ ws (m:Int) [.int .i64 (m:Int)] (fun k=>True/\some k ≠ (Value.slice (some ⟨gs,0,none⟩) (st.length+1) cap).ownBlock) (fun _=>False) rfl rfl rfl (fun _ hk=>hk.elim) (fun k hk=>⟨trivial,Kd.fresh_ok HS.out k hk⟩) HO.out HB.out (below_size HB.out) (by first|omega|(simp only [List.length_append,List.length_cons,List.length_nil] at *;omega)) ?_;intro v1 w1 ho hb hg hat;have HS1:=am (Kd.R_after HS.out hg hat);have HO1:=am ho;have BK1:=am (blk_grown BK.out hg (Kd.R_ne HO.out BK.out (by decide)));have HB1:=am hb;clear ho hb hg hat HO HB BK HS BKc;have BKc:=zc8 BK1.out)|(go_at_call 31;refine (implKids_calls s _ (m:Int) _ (kSys_mk s l0 (Kd.C_below G.out.1 HB1.out) l1 (Kd.C_below G.out.2.1 HB1.out) l3 (Kd.C_below G.out.2.2 HB1.out)) hn).mono ?_;rintro e w2 ⟨vk,rfl,ho,hb⟩;obtain ⟨Ak,ck,rfl⟩:=Kd.R_slice ho;have HK:=am (Kd.R_lower (base':=w.heap.size) (Kd.R_newR ho HS1.out) (below_size HB1.out));have BK2:=am (zb8 BK1.out hb);have HO2:=am (Kd.R_below HO1.out hb);have HS2:=am (Kd.R_below HS1.out hb);have HB2:=am (below_step HB1.out hb);clear ho hb BK1 HO1 HB1 HS1 BKc))
       go_loopw [6,9] (fun vs i w'=>∃ (j:Nat) (x:Int),x+1+(j:Int)=((kids s.tasks m).length:Int)/\i= .int .i64 x/\ -1<=x/\Aside0 (Kd.R (Kd.int .i64) 3 w' w.heap.size (fun k=>True/\some k ≠ vs.ownBlock) v1 (ws ++ [(m:Int)]))/\Aside0 (Kd.R (Kd.int .i64) 3 w' w.heap.size (fun k=>True/\some k ≠ v1.ownBlock) vs (st ++ (kids s.tasks m).reverse.take j))/\Aside0 (Kd.R (Kd.int .i64) 3 w' w.heap.size (fun k=>True/\some k ≠ vs.ownBlock) (.slice Ak (kids s.tasks m).length ck) (kids s.tasks m))/\Aside0 (w'.heap[g]? = some (.cells #[.slice A0 s.cells.length c0,.slice (some ⟨b,o,none⟩) s.tasks.length c1,.int .i64 s.clock,.slice A3 s.log.length c3] 27 (0,0)))/\Aside0 (Below w.heap.size w w')) (fun _ i _=>(intOf i+1).toNat)
       case atStart=>exact ⟨0,_,by omega,rfl,by omega,HO2,⟨by simpa using HS2.out⟩,HK,BK2,HB2⟩
       case round=>
        clear HO2 HS2 HK BK2 HB2;obtain ⟨j,x,hx,rfl,hx1,HO,HS,HK,BK,HB⟩:=hrel;have BKc:=zc8 BK.out;by_cases hx0:0<=x
        ·obtain ⟨p,rfl⟩:=Int.eq_ofNat_of_zero_le hx0
         have hpl:p < (kids s.tasks m).length:=by omega
         have p0:(0:Int)<=(p:Int):=by omega
         have p1:(p:Int) < ((kids s.tasks m).length:Int):=by omega
         have HRT:=am (rev_take (K:=kids s.tasks m) (j:=j) (p:=p) (by omega));obtain ⟨gk,capk,he,hk1,hk2,hk3⟩:=Kd.R_form HK.out (by omega);cases he;have h_kid:=(Kd.R_celln 0 HK.out (p:Int) p0 p1).1;rw [show rdOf 0 (kids s.tasks m) (p:Int)=(kids s.tasks m).getD p 0 from rfl,Int.toNat_natCast] at h_kid;generalize (kids s.tasks m).getD p 0=q at h_kid HRT;clear hk3;go_wp2_with ((with_reducible refine gate_builtin (b:=.append) (xs:=#[.tmp 51,.tmp 56]) rfl ?_);at_builtin;refine Kd.R_append (Kd.int .i64) (w0:=w) w.heap.size rfl (.tmp 51) (.tmp 56) 29 3 (.int .i64 0) 8 rfl Try.underlying29 info_int rfl (by decide) (by omega) _ (st ++ (kids s.tasks m).reverse.take j) q [.int .i64 q] (fun k=>True/\some k ≠ v1.ownBlock) (fun _=>False) rfl rfl rfl (fun _ hk=>hk.elim) (fun k hk=>⟨trivial,Kd.fresh_ok HO.out k hk⟩) HS.out HB.out (below_size HB.out) (by have:=HLN.out;simp only [List.length_append,List.length_take,List.length_reverse];omega) ?_;intro v9 w1 ho hb hg hat;have HS1:=am ho;have HK1:=am (Kd.R_after HK.out hg hat);have HO1:=am (Kd.R_after HO.out hg hat);have BK1:=am (blk_grown BK.out hg (Kd.R_ne HS.out BK.out (by decide)));have HB1:=am hb;clear ho hb hg hat HO HB BK HS HK BKc)
         go_roundw
         case rel=>exact ⟨j+1,(p:Int) - 1,by omega,rfl,by omega,HO1,⟨by rw [HRT.out,<-List.append_assoc];exact HS1.out⟩,HK1,BK1,HB1⟩
         case measure=>simp only [intOf];omega
        ·go_wp2
         have hj:j=(kids s.tasks m).length:=by omega
         have hst2:(st ++ (kids s.tasks m).reverse.take j)=st ++ (kids s.tasks m).reverse:=by rw [hj,List.take_of_length_le (by simp)]
         have hg1:1<=gk/\((((st ++ (kids s.tasks m).reverse).reverse).map (walkOf s.tasks)).flatten).length=gk - 1:=by
          have h1:=congrArg List.length HE2.out;have h2:=congrArg List.length HEQ.out;rw [List.length_append,List.length_append,List.length_singleton] at h1;rw [List.length_append,HGN.out] at h2;omega
         go_roundg (gk - 1)
         case measure=>omega
         case rel=>exact ⟨ws ++ [(m:Int)],st ++ (kids s.tasks m).reverse,HO,⟨by rw [<-hst2];exact HS.out⟩,HE2,⟨hg1.2⟩,HIN2,BK,HB⟩
    ·have y1:((taskAt s.tasks k).up != -1)=true:=by simp [hy]
     have HR:=am (walkTo_no (ts:=s.tasks) (k:=k) (by simp [isRoot,hy]));clear hy;go_wp2_with (first|((with_reducible refine gate_dst (N:=17) rfl ?_);refine wpList_load_mid rfl 38 (.tmp 16) rfl b (o+k*13) rfl cs _ HCC.out Try.underlying38 rfl (by rw [hcl];kernel_rfl) ?_)|((with_reducible refine gate_dst (N:=5) rfl ?_);refine box_event rfl (N:=5) rfl (cs:=zeroTask) (t:=38) (by go_simp<;>rfl) ?_;intro g5 hg w2 hbox hb;have BK5:=am hbox;have G5:=am (show wr.heap.size<=g5 by omega);have HW:=am hb;clear hbox hb hg)|((with_reducible refine gate_store (t:=38) (p:=5) rfl ?_);refine store_block rfl rfl 38 (.tmp 5) (.tmp 17) rfl rfl rfl BK5.out (by rw [hcl];rfl) (by rw [hcl];kernel_rfl) (kTask.K_one HK.out) ?_;intro w3 hbox hg;have BT:=am hbox;have HW3:=am (pw_below_grown HW.out _ HW.out.size hg (fun z hz=>by cases hz;exact G5.out));clear hbox hg BK5 HW;have u2:=(zc8 BT.out 2).trans HE2.out))
     go_roundw
     case rel=>exact ⟨k+1,by omega,by go_num,⟨by rw [HR.out];exact Kd.R_below HO.out HW3.out⟩,⟨zb8 BK.out HW3.out⟩,⟨below_step HB.out HW3.out⟩⟩
     case measure=>simp [intOf];omega
  ·have BKc:=zc8 BK.out
   go_wp2;go_ret;obtain rfl:k=s.tasks.length:=by omega
   exact ⟨_,rfl,HO.out,HB.out⟩
theorem lqSame_calls (xs:List Int) (A B:Option Addr) (c d:Nat) (w:World) (hx:(Kd.int .i64).C w A xs.length xs) (hy:(Kd.int .i64).C w B xs.length xs):
  Calls Try.prog 17 #[.slice A xs.length c,.slice B xs.length d] w fun e w'=>e= .returned (.bool true)/\Below w.heap.size w w':=by
 refine (lqInts_calls xs xs A B c d w hx hy).mono ?_;rintro e w' ⟨rfl,hd⟩;exact ⟨by rw [decide_eq_true rfl],hd.below⟩
theorem near_at {ts:List Task} {k:Nat} (h:k < (walkAll ts).length) (h1:1<=k):nearR ts (rd (walkAll ts) ((k:Int) - 1)) (rd (walkAll ts) (k:Int)):=by
 have:=adj_at (walkAll_near (ts:=ts)) (k - 1) (by omega)
 have e1:rd (walkAll ts) (k:Int)=(walkAll ts)[k - 1+1]:=by
  simp [rd,List.getD_eq_getElem?_getD,List.getElem?_eq_getElem h,show k - 1+1=k by omega]
 have e2:rd (walkAll ts) ((k:Int) - 1)=(walkAll ts)[k - 1]:=by
  rw [show (k:Int) - 1=((k - 1:Nat):Int) by omega];simp [rd,List.getD_eq_getElem?_getD,List.getElem?_eq_getElem (show k - 1 < (walkAll ts).length by omega)]
 rw [e1,e2];exact this
theorem fnTreeWalkNear_calls (A:Option Addr) (c:Nat) (l:List Int) (w:World) (hC:(Kd.int .u8).C w A l.length l) (hc:l.length<=c) (hb:∀ i:Nat,0<=l.getD i 0/\l.getD i 0<=255):
  Calls Try.prog 10 #[.slice A l.length c] w fun e w'=>e= .returned (.bool true)/\Below w.heap.size w w':=by
 have HC:=am hC;have HL:=am hc;have HY:=am hb;clear hC hc hb;by_cases hbig:(1048576:Int) < (l.length:Int)
 ·have ybig:decide ((1048576:Int) < (l.length:Int))=true:=decide_eq_true hbig
  go_enter Try.func10,Try.ntmps10;go_wp2;go_ret;exact ⟨rfl,Below.refl _ _⟩
 ·have ybig:decide ((1048576:Int) < (l.length:Int))=false:=decide_eq_false hbig
  go_enter Try.func10,Try.ntmps10
  go_wp2_with (first
  |(go_at_call 35;refine (drawTreeWalk_calls A c l _ HC.out HL.out HY.out).mono ?_;rintro e wf ⟨s,ss,rfl,hd⟩;obtain ⟨A0,c0,A1,c1,A3,c3,rfl,-,-,-,hg1,-,-⟩:=kSys_open hd.read;obtain ⟨b,o,-,rfl,-⟩:=C_field hg1 zTask 0 hd.pos (by decide);have HB:=am hd.below;have SK:=am hd.read;have G1:=am hg1;have HN:=am (show s.tasks.length<=1048576 from Nat.le_trans hd.few (by decide));have HTL:=am hd.pos;have HLN:=am hd.few;clear hd hg1)
  |((with_reducible refine gate_dst (N:=3) rfl ?_);refine box_event rfl (N:=3) rfl (t:=27) (by go_simp<;>rfl) ?_;intro gs hg wt hbox hb;have BS0:=am hbox;have LBS:=am (Nat.le_of_eq hg.symm);have HBT:=am hb;clear hbox hb hg)
  |((with_reducible refine gate_store (t:=27) (p:=3) rfl ?_);refine store_block rfl rfl 27 (.tmp 3) (.tmp 11) rfl rfl rfl BS0.out rfl (by kernel_rfl) (aB rfl) ?_;intro wn hbox hg;have BS:=am hbox;replace HBT:=am (pw_below_grown HBT.out _ HBT.out.size hg (fun z hz=>by cases hz;exact LBS.out));clear BS0 hbox hg;have hbT:=HBT.out;clear HBT;replace HB:=am (below_step HB.out hbT);replace SK:=am (kSys.K_below hbT SK.out);replace G1:=am (Kd.C_below G1.out hbT);clear hbT;have BSc:=zc8 BS.out)
  |((with_reducible refine gate_dst (N:=12) rfl ?_);refine wpList_load_mid rfl 27 (.tmp 3) rfl gs 0 rfl _ _ (lC BS.out) Try.underlying27 rfl (by kernel_rfl) ?_)
  |(go_at_call 36;refine (implWalk_calls s _ _ SK.out HN.out).mono ?_;rintro e wn ⟨v,rfl,hv,hb⟩;obtain ⟨Al,cl,ev,-,hcv⟩:=Kd.R_reads hv;subst ev;have LV:=am hcv;clear hv hcv;replace HB:=am (below_step HB.out hb);replace SK:=am (kSys.K_below hb SK.out);replace G1:=am (Kd.C_below G1.out hb);replace BS:=am (zb8 BS.out hb);clear BSc hb;have BSc:=zc8 BS.out)
  |((with_reducible refine gate_dst (N:=15) rfl ?_);refine wpList_load_mid rfl 27 (.tmp 3) rfl gs 0 rfl _ _ (lC BS.out) Try.underlying27 rfl (by kernel_rfl) ?_)
  |(go_at_call 37;refine (specWalk_calls s _ _ SK.out HN.out).mono ?_;rintro e wn ⟨v,rfl,hv,hb⟩;obtain ⟨Av,cv,ev,-,hcv⟩:=Kd.R_reads hv;subst ev;have LU:=am hcv;clear hv hcv;replace HB:=am (below_step HB.out hb);replace SK:=am (kSys.K_below hb SK.out);replace G1:=am (Kd.C_below G1.out hb);replace BS:=am (zb8 BS.out hb);replace LV:=am (Kd.C_below LV.out hb);clear BSc hb;have BSc:=zc8 BS.out)
  |(go_at_call 17;refine (lqSame_calls (walkAll s.tasks) Al Av cl cv _ LV.out LU.out).mono ?_;rintro e wn ⟨rfl,hb⟩;replace HB:=am (below_step HB.out hb);replace SK:=am (kSys.K_below hb SK.out);replace G1:=am (Kd.C_below G1.out hb);replace BS:=am (zb8 BS.out hb);replace LV:=am (Kd.C_below LV.out hb);clear BSc hb;have BSc:=zc8 BS.out))
  have HWL:=am (walkAll_length s.tasks);clear LU;go_loopw [5] (fun i w'=>∃ k:Nat,1<=k/\k<=(walkAll s.tasks).length+1/\i= .int .i64 k/\Aside0 (w'.heap[gs]? = some (.cells #[.slice A0 s.cells.length c0,.slice (some ⟨b,o,none⟩) s.tasks.length c1,.int .i64 s.clock,.slice A3 s.log.length c3] 27 (0,0)))/\Aside0 (kTask.C w' (some ⟨b,o,none⟩) s.tasks.length s.tasks)/\Aside0 (kSys.K w' s [.slice A0 s.cells.length c0,.slice (some ⟨b,o,none⟩) s.tasks.length c1,.int .i64 s.clock,.slice A3 s.log.length c3])/\Aside0 (Below w.heap.size w w')/\Aside0 ((Kd.int .i64).C w' Al (walkAll s.tasks).length (walkAll s.tasks))) (fun i _=>(walkAll s.tasks).length+1 - (intOf i).toNat)
  case atStart=>exact ⟨1,Nat.le_refl _,by omega,rfl,BS,G1,SK,HB,LV⟩
  case round=>
   clear BS G1 SK LV HB BSc;obtain ⟨k,hk1,hk,rfl,BS,G1,SK,HB,LV⟩:=hrel;have BSc:=zc8 BS.out;have hwl:=HWL.out;have hn9:=HN.out;by_cases hlt:k < (walkAll s.tasks).length
   ·have q0:(0:Int)<=(k:Int):=by omega
    have q1:(k:Int) < ((walkAll s.tasks).length:Int):=by omega
    obtain ⟨j9,hj9⟩:∃ j:Int,wrap64 ((k:Int) - 1)=j:=⟨_,rfl⟩;have wi:IntKind.i64.wrap ((k:Int) - 1)=j9:=(i64_w _).trans hj9;have J9:=am (show j9=(k:Int) - 1 by rw [<-hj9];unfold wrap64;omega);have g0:(0:Int)<=j9:=by have:=J9.out;omega
    have g1:j9 < ((walkAll s.tasks).length:Int):=by have:=J9.out;omega
    obtain ⟨al,rfl,gx⟩:=Kd.at_int LV.out (k:Int) q0 q1;obtain ⟨ay,hay,gy⟩:=Kd.at_int LV.out j9 g0 g1;cases hay;obtain ⟨hm0,hm1⟩:=walkAll_mem (rd_mem hlt);obtain ⟨i,hi⟩:=Int.eq_ofNat_of_zero_le hm0;rw [hi] at gx hm1;simp only [Int.toNat_natCast] at gx;have hil:i < s.tasks.length:=by omega
    have p0:(0:Int)<=(i:Int):=by omega
    obtain ⟨z,hz⟩:∃ z,rd (walkAll s.tasks) j9=z:=⟨_,rfl⟩;rw [hz] at gy;obtain ⟨u,hu⟩:∃ u,(taskAt s.tasks i).up=u:=⟨_,rfl⟩;have NR:=am (show 0<=u->z=u\/underOf s.tasks z u=true from by have h:=near_at hlt hk1 (ts:=s.tasks);rw [<-J9.out,hz,hi] at h;unfold nearR upAt at h;rw [Int.toNat_natCast,hu] at h;exact h);have GU:=am (task_up G1.out hil);rw [hu] at GU;have GX:=am gx;have GY:=am gy;have hl9:(walkAll s.tasks).length<=1048576:=Nat.le_trans hwl hn9;clear gx gy hu hz hi hm0 hwl;go_wp2;refine st9 (n:=10) (S:=fun W=>W.heap[gs]? = some (.cells #[.slice A0 s.cells.length c0,.slice (some ⟨b,o,none⟩) s.tasks.length c1,.int .i64 s.clock,.slice A3 s.log.length c3] 27 (0,0))/\W.cell? (al.add k)=some (.int .i64 (i:Int))/\W.cell? ⟨b,o+i*13+2,none⟩=some (.int .i64 u)) (ds:= []) (by kernel_rfl) rfl ⟨blk_drew BS.out,GX.out,GU.out⟩ (fun hHeld=> ?_);have hb:=below_drew (Below.refl wr.heap.size wr);generalize wr.drew=w7 at hb hHeld ⊢;clear GX GU;replace HB:=am (below_step HB.out hb);replace SK:=am (kSys.K_below hb SK.out);replace G1:=am (Kd.C_below G1.out hb);replace BS:=am (zb8 BS.out hb);replace LV:=am (Kd.C_below LV.out hb);replace GY:=am (pw_cell_below hb GY.out);clear BSc hb;have BSc:=zc8 BS.out;refine ba9 (fuel:=0) (n:=10) [0,1,2,3,4,5,6,7,8,9] (by kernel_rfl) (fun N _ _ _ _ h=>by cases N <;> exact h) hHeld ?_
    iterate 10 (
     refine stillS_step (v:= ?_) (a':= ?_) rfl (Or.inl ⟨by rfl, ?_⟩) ?_ ?_;rotate_left
     ·rintro W ⟨s0,s1,s2⟩
      have t0:=zc8 s0;clear s0;go_simp;with_reducible rfl
     rotate_left
     ·simp only [Act.put,sA,sZ,sS,i64_w]
      rfl)
    refine stillS_nil ?_;refine done_ (by kernel_rfl) ?_;clear hHeld;by_cases h0:(0:Int)<=u
    ·have y0:decide ((0:Int)<=u)=true:=decide_eq_true h0
     have NS:=NR.out h0;have NQ:=am NS;clear NR NS h0;by_cases h1:z=u
     ·have y1:(z != u)=false:=by simp [h1]
      clear h1 NQ;go_wp2;refine st9 (n:=22) (S:=fun W=>W.heap[gs]? = some (.cells #[.slice A0 s.cells.length c0,.slice (some ⟨b,o,none⟩) s.tasks.length c1,.int .i64 s.clock,.slice A3 s.log.length c3] 27 (0,0))/\W.cell? (al.add j9.toNat)=some (.int .i64 z)) (ds:= []) (by kernel_rfl) rfl ⟨blk_drew BS.out,GY.out⟩ (fun hHeld=> ?_);have hb:=below_drew (Below.refl w7.heap.size w7);generalize w7.drew=w7 at hb hHeld ⊢;clear GY;replace HB:=am (below_step HB.out hb);replace SK:=am (kSys.K_below hb SK.out);replace G1:=am (Kd.C_below G1.out hb);replace BS:=am (zb8 BS.out hb);replace LV:=am (Kd.C_below LV.out hb);clear BSc hb;have BSc:=zc8 BS.out;refine ba9 (fuel:=3) (n:=19) [0,1,2,3,4,5,6,7,8,9,10,11,12,13,14,15,16,17,18] (by kernel_rfl) (fun N _ _ _ _ h=>by cases N <;> exact h) hHeld ?_
      iterate 12 (
       refine stillS_step (v:= ?_) (a':= ?_) rfl (Or.inl ⟨by rfl, ?_⟩) ?_ ?_;rotate_left
       ·rintro W ⟨s0,s1⟩
        have t0:=zc8 s0;clear s0;go_simp;with_reducible rfl
       rotate_left
       ·simp only [Act.put,sA,sZ,sS,i64_w]
        rfl)
      iterate 7 (
       refine stillS_step (v:=undef) (a':= ?_) rfl (Or.inr ⟨by rfl,rfl⟩) ?_ ?_;rotate_left
       ·simp only [Act.put,sA,sZ,sS]
        rfl)
      refine stillS_nil ?_;refine on9 (i:=19) (N:=some 53) rfl rfl (by kernel_rfl) (by decide) (fun K hK=> ?_);rw [if_neg (by exact Bool.false_ne_true)];refine hK.out _ _ hHeld (fun hHeld=> ?_);clear hK K;refine norm_ (a':= ?_) ?_ ?_;rotate_left
      ·show Act.put _ (some 53) _=_
       simp only [Act.put,sA,sZ,sS,i64_w];rfl
      refine ba9 (fuel:=0) (n:=2) [20,21] (by kernel_rfl) (fun N _ _ _ _ h=>by cases N <;> exact h) hHeld ?_
      iterate 1 (
       refine stillS_step (v:=undef) (a':= ?_) rfl (Or.inr ⟨by rfl,rfl⟩) ?_ ?_;rotate_left
       ·simp only [Act.put,sA,sZ,sS]
        rfl)
      iterate 1 (
       refine stillS_step (v:= ?_) (a':= ?_) rfl (Or.inl ⟨by rfl, ?_⟩) ?_ ?_;rotate_left
       ·rintro W ⟨s0,s1⟩
        have t0:=zc8 s0;clear s0;go_simp;with_reducible rfl
       rotate_left
       ·simp only [Act.put,sA,sZ,sS,i64_w]
        rfl)
      refine stillS_nil ?_;refine done_ (by kernel_rfl) ?_;clear hHeld;go_wp2;go_roundw
      case rel=>exact ⟨k+1,by omega,by omega,by go_num,BS,G1,SK,HB,LV⟩
      case measure=>simp [intOf];omega
     ·have y1:(z != u)=true:=by simp [h1]
      have UN:=am (NQ.out.resolve_left h1);clear h1 NQ;go_wp2;refine st9 (n:=22) (S:=fun W=>W.heap[gs]? = some (.cells #[.slice A0 s.cells.length c0,.slice (some ⟨b,o,none⟩) s.tasks.length c1,.int .i64 s.clock,.slice A3 s.log.length c3] 27 (0,0))/\W.cell? (al.add j9.toNat)=some (.int .i64 z)) (ds:= []) (by kernel_rfl) rfl ⟨blk_drew BS.out,GY.out⟩ (fun hHeld=> ?_);have hb:=below_drew (Below.refl w7.heap.size w7);generalize w7.drew=w7 at hb hHeld ⊢;clear GY;replace HB:=am (below_step HB.out hb);replace SK:=am (kSys.K_below hb SK.out);replace G1:=am (Kd.C_below G1.out hb);replace BS:=am (zb8 BS.out hb);replace LV:=am (Kd.C_below LV.out hb);clear BSc hb;have BSc:=zc8 BS.out;refine ba9 (fuel:=3) (n:=19) [0,1,2,3,4,5,6,7,8,9,10,11,12,13,14,15,16,17,18] (by kernel_rfl) (fun N _ _ _ _ h=>by cases N <;> exact h) hHeld ?_
      iterate 19 (
       refine stillS_step (v:= ?_) (a':= ?_) rfl (Or.inl ⟨by rfl, ?_⟩) ?_ ?_;rotate_left
       ·rintro W ⟨s0,s1⟩
        have t0:=zc8 s0;clear s0;go_simp;with_reducible rfl
       rotate_left
       ·simp only [Act.put,sA,sZ,sS,i64_w]
        rfl)
      refine stillS_nil ?_;refine on9 (i:=19) (N:=some 53) rfl rfl (by kernel_rfl) (by decide) (fun K hK=> ?_);refine goes_ Try.func21 (by kernel_rfl) rfl #[.agg #[.slice A0 s.cells.length c0,.slice (some ⟨b,o,none⟩) s.tasks.length c1,.int .i64 s.clock,.slice A3 s.log.length c3],.int .i64 z,.int .i64 u] (by rfl) rfl rfl (by (try simp only [List.map_toArray,List.map_cons,List.map_nil]);first | done | rfl) ?_;refine (implUnder_calls s _ z u _ SK.out HN.out).mono ?_;rintro e wn ⟨rfl,hb⟩;rw [UN.out];refine ⟨_,rfl, ?_⟩;refine hK.out _ _ ⟨zb8 hHeld.1 hb,pw_cell_below hb hHeld.2⟩ (fun hHeld=> ?_);clear hK K;refine norm_ (a':= ?_) ?_ ?_;rotate_left
      ·show Act.put _ (some 53) _=_
       simp only [Act.put,sA,sZ,sS,i64_w];rfl
      replace HB:=am (below_step HB.out hb);replace SK:=am (kSys.K_below hb SK.out);replace G1:=am (Kd.C_below G1.out hb);replace BS:=am (zb8 BS.out hb);replace LV:=am (Kd.C_below LV.out hb);clear BSc hb;have BSc:=zc8 BS.out;refine ba9 (fuel:=0) (n:=2) [20,21] (by kernel_rfl) (fun N _ _ _ _ h=>by cases N <;> exact h) hHeld ?_
      iterate 2 (
       refine stillS_step (v:= ?_) (a':= ?_) rfl (Or.inl ⟨by rfl, ?_⟩) ?_ ?_;rotate_left
       ·rintro W ⟨s0,s1⟩
        have t0:=zc8 s0;clear s0;go_simp;with_reducible rfl
       rotate_left
       ·simp only [Act.put,sA,sZ,sS,i64_w]
        rfl)
      refine stillS_nil ?_;refine done_ (by kernel_rfl) ?_;clear hHeld;go_wp2;go_roundw
      case rel=>exact ⟨k+1,by omega,by omega,by go_num,BS,G1,SK,HB,LV⟩
      case measure=>simp [intOf];omega
    ·have y0:decide ((0:Int)<=u)=false:=decide_eq_false h0
     clear h0 NR;go_wp2;refine st9 (n:=22) (S:=fun W=>W.heap[gs]? = some (.cells #[.slice A0 s.cells.length c0,.slice (some ⟨b,o,none⟩) s.tasks.length c1,.int .i64 s.clock,.slice A3 s.log.length c3] 27 (0,0))/\W.cell? (al.add j9.toNat)=some (.int .i64 z)) (ds:= []) (by kernel_rfl) rfl ⟨blk_drew BS.out,GY.out⟩ (fun hHeld=> ?_);have hb:=below_drew (Below.refl w7.heap.size w7);generalize w7.drew=w7 at hb hHeld ⊢;clear GY;replace HB:=am (below_step HB.out hb);replace SK:=am (kSys.K_below hb SK.out);replace G1:=am (Kd.C_below G1.out hb);replace BS:=am (zb8 BS.out hb);replace LV:=am (Kd.C_below LV.out hb);clear BSc hb;have BSc:=zc8 BS.out;refine ba9 (fuel:=3) (n:=19) [0,1,2,3,4,5,6,7,8,9,10,11,12,13,14,15,16,17,18] (by kernel_rfl) (fun N _ _ _ _ h=>by cases N <;> exact h) hHeld ?_
     iterate 3 (
      refine stillS_step (v:= ?_) (a':= ?_) rfl (Or.inl ⟨by rfl, ?_⟩) ?_ ?_;rotate_left
      ·rintro W ⟨s0,s1⟩
       have t0:=zc8 s0;clear s0;go_simp;with_reducible rfl
      rotate_left
      ·simp only [Act.put,sA,sZ,sS,i64_w]
       rfl)
     iterate 7 (
      refine stillS_step (v:=undef) (a':= ?_) rfl (Or.inr ⟨by rfl,rfl⟩) ?_ ?_;rotate_left
      ·simp only [Act.put,sA,sZ,sS]
       rfl)
     iterate 2 (
      refine stillS_step (v:= ?_) (a':= ?_) rfl (Or.inl ⟨by rfl, ?_⟩) ?_ ?_;rotate_left
      ·rintro W ⟨s0,s1⟩
       have t0:=zc8 s0;clear s0;go_simp;with_reducible rfl
      rotate_left
      ·simp only [Act.put,sA,sZ,sS,i64_w]
       rfl)
     iterate 7 (
      refine stillS_step (v:=undef) (a':= ?_) rfl (Or.inr ⟨by rfl,rfl⟩) ?_ ?_;rotate_left
      ·simp only [Act.put,sA,sZ,sS]
       rfl)
     refine stillS_nil ?_;refine on9 (i:=19) (N:=some 53) rfl rfl (by kernel_rfl) (by decide) (fun K hK=> ?_);rw [if_neg (by exact Bool.false_ne_true)];refine hK.out _ _ hHeld (fun hHeld=> ?_);clear hK K;refine norm_ (a':= ?_) ?_ ?_;rotate_left
     ·show Act.put _ (some 53) _=_
      simp only [Act.put,sA,sZ,sS,i64_w];rfl
     refine ba9 (fuel:=0) (n:=2) [20,21] (by kernel_rfl) (fun N _ _ _ _ h=>by cases N <;> exact h) hHeld ?_
     iterate 1 (
      refine stillS_step (v:=undef) (a':= ?_) rfl (Or.inr ⟨by rfl,rfl⟩) ?_ ?_;rotate_left
      ·simp only [Act.put,sA,sZ,sS]
       rfl)
     iterate 1 (
      refine stillS_step (v:= ?_) (a':= ?_) rfl (Or.inl ⟨by rfl, ?_⟩) ?_ ?_;rotate_left
      ·rintro W ⟨s0,s1⟩
       have t0:=zc8 s0;clear s0;go_simp;with_reducible rfl
      rotate_left
      ·simp only [Act.put,sA,sZ,sS,i64_w]
       rfl)
     refine stillS_nil ?_;refine done_ (by kernel_rfl) ?_;clear hHeld;go_wp2;go_roundw
     case rel=>exact ⟨k+1,by omega,by omega,by go_num,BS,G1,SK,HB,LV⟩
     case measure=>simp [intOf];omega
   ·have q1:¬ (k:Int) < ((walkAll s.tasks).length:Int):=by omega
    go_wp2;go_ret;exact ⟨rfl,HB.out⟩
end Go.Proofs.Ytimamoimphjakaa.Eq
namespace Go.Proofs.Ytimamoimphjakaa.fnTreeWalkNear
open Go.ChangeShapes Go.WideShapes Go.ChangeAt Go.RowKit Go.Proofs.YtimamoimphjakaaW.PrintWords
theorem own:ownKnob Try.prog.godebug=none:=by kernel_rfl
theorem laidOut:laidOutB Try.prog=true:=by kernel_rfl
def IsRow (k:IntKind) (w:World) (a:Option Addr) (len cap:Nat) (zs:List Int):Prop:=
 (a=none/\len=0/\cap=0/\zs= [])\/
 ∃ x,a=some x/\len<=cap/\cap<=maxLen/\zs.length=cap/\(∀ i,i < zs.length->w.cell? (x.add i)=some (.int k (zs.getD i 0)))/\∀ n ∈ zs,(Lit.int k n).wf=true
theorem bytes {l:List Int} (h:∀ x ∈ l,(Lit.int .u8 x).wf=true) (i:Nat):0<=l.getD i 0/\l.getD i 0<=255:=by
 have:=range_u8 h i
 rwa [List.getD_eq_getElem?_getD]
theorem lifted (os:Os) (started:os.Started) (H:Type) (enc:TypeId × Value->H):
  ReturnsInHanded {} Try.checked os 10 .any (Rows.fnTreeWalkNearSpec.pre6 enc Try.prog Try.f10 Rows.fnTreeWalkNearRow.domain false) (Rows.fnTreeWalkNearSpec.post enc Try.prog Try.f10 false true false false):=by
 refine returnsInHanded_of_change_sized (C:=Try.checked) own started (by kernel_rfl) Try.func10
  (ChangeSpec.witness6 (enc:=enc) (C:=Try.checked) false ⟨#[],#[.slice none 0 0], []⟩ 8 (by kernel_rfl) (by kernel_rfl) (by kernel_rfl) (by kernel_rfl)) ?_
 intro W base args ds gs before hval0 hW hcnd hsz0 _;have hval:∀ (j:Nat) t v,Try.f10.params[j]? = some t->args[j]? = some v->Value.okWide Try.prog W .any base t v:=hval0;have hW':=hW;obtain ⟨p,q,hA0,hV,rfl,hfz,hnd⟩:=hW;have hA:DataW.TrodAll enc Try.prog W 0 (fun _=>true) true Try.f10.params.toList args.toList ds p:=hA0;rw [Try.params10] at hA hval;obtain ⟨v0,vs0,d0,ds0,p0,q0,hargs,rfl,rfl,h0,r0⟩:=trodAll_cons hA;obtain ⟨rfl,rfl,rfl⟩:=trodAll_nil r0;obtain rfl:args= #[v0]:=by cases args;simp_all
 obtain ⟨rfl,rfl⟩:=trodVars_none hV;obtain ⟨a0,len0,cap0,rfl⟩:=okWide_slice Try.underlying22 (hval 0 22 v0 rfl rfl);have k0:=h0;have lt0:∀ x ∈ p0,x.block < W.heap.size:=by obtain ⟨m,hm⟩:=k0;exact DataW.trod_lt m _ _ _ hm
 obtain ⟨z0,w0⟩:∃ zs,IsRow .u8 W a0 len0 cap0 zs:=by
  obtain ⟨fuel,hf⟩:=h0;rcases open_ints Try.underlying22 Try.underlying5 (by kernel_rfl) hf with ⟨hcs,_⟩ | ⟨x,l,c,zs,hcs,_,hl,hm,hz,_,hcell,hwz⟩
  ·simp [Value.cells] at hcs
   obtain ⟨rfl,rfl,rfl⟩:=hcs;exact ⟨[],.inl ⟨rfl,rfl,rfl,rfl⟩⟩
  ·simp [Value.cells] at hcs
   obtain ⟨rfl,rfl,rfl⟩:=hcs;exact ⟨zs,.inr ⟨_,rfl,hl,hm,by simpa using hz,hcell,hwz⟩⟩
 obtain ⟨l0,rfl,hr0,hm0,hw0,hc0⟩:=ReadsInt.ofRowC w0;refine (Eq.fnTreeWalkNear_calls a0 cap0 l0 W (Kd.C_of_reads (d:=(0:Int)) (h1:=fun _=>rfl) hr0) hc0 (bytes hw0)).mono fun e W' ⟨he,bel⟩=> ?_
 subst he;exact ⟨_,rfl,_,_,_, [],_, [],hW',trodAll_mk1 (shut_bool Try.underlying4 _),(trodAll_cons_mk (Below.trod laidOut (by kernel_rfl) (of_decide_eq_true (by kernel_rfl)) k0 bel lt0) trodAll_mk0),rfl,bel.frame _,fun h=>by cases h⟩
theorem over:Rows.fnTreeWalkNearRow.holds Try.pinned (OpenSpec.ofChange Rows.fnTreeWalkNearSpec):=
 OpenClaim.holds_of_wide 10 Try.f10 rfl rfl rfl rfl rfl rfl rfl ⟨rfl,rfl,rfl,rfl,rfl⟩ rfl rfl rfl rfl rfl (by kernel_rfl) Try.func10 (by kernel_rfl)
  (of_decide_eq_true (by kernel_rfl)) (by unfold Func.isWrapper;first|(rw [if_pos (by decide +kernel)];kernel_rfl)|(rw [if_neg (by decide +kernel)];exact ⟨rfl,rfl⟩))
  (fun os started H enc _=>lifted os started H enc)
theorem proved:Rows.FnTreeWalkNearSaid:=over
end Go.Proofs.Ytimamoimphjakaa.fnTreeWalkNear
namespace Go.Proofs.Ytimamoimphjakaa
theorem fnTreeWalkNear_holds:Rows.FnTreeWalkNearSaid:=fnTreeWalkNear.proved
end Go.Proofs.Ytimamoimphjakaa
