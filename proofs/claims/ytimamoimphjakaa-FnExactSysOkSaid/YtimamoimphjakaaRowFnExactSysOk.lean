/- The law FnExactSysOk: it returns true whatever the input, and the input reads as it did. No conditions. -/
import Derived.Test.YtimamoimphjakaaRows
import Derived.Test.YtimamoimphjakaaX3
import Derived.ChangeOld
import Derived.ChangeSame
import Derived.ChangeShapes
import Derived.Deep.Fields
import Derived.Deep.Slices
import Derived.OpenShut
import Derived.ProofKit
import Derived.ShutString
import Derived.SizedLaws
import Derived.WideShapes
set_option maxHeartbeats 8000000
set_option maxRecDepth 100000
set_option linter.unusedVariables false
set_option linter.unusedSimpArgs false
namespace Go.Proofs.Ytimamoimphjakaa.Eq
open Go.RowKit Go.Proofs.YtimamoimphjakaaW.PrintWords Go.Proofs.YtimamoimphjakaaW.PrintLast
open Go.ChangeShapes Go.WideShapes Go.Deep
section
variable {H:Type} (enc:TypeId × Value->H) (P:Program) (w:World) (base:Nat) (spare:Nat->Bool) (held:Bool)
def Opens {α:Type} (t:Nat) (d:Kd α):Prop:=∀ (fuel:Nat) (cs:List Value) (x:DataW H × List MemPlace),DataW.trod enc P w base spare held fuel t cs=some x->∃ a,d.K w a cs
variable {enc P w base spare held}
theorem opens_int {t:Nat} (ht:P.underlying t=some (.int .i64)):Opens enc P w base spare held t (Kd.int .i64):=fun fuel cs x h=>by
 obtain ⟨n,rfl,_⟩:=DataW.trod_int ht h;exact ⟨n,rfl⟩
theorem choose_list {α:Type} {p:Nat->α->Prop}:∀ (n:Nat),(∀ i,i < n->∃ a,p i a)->∃ xs:List α,xs.length=n/\∀ i a,xs[i]? = some a->p i a
 | 0,_=>⟨[],rfl,fun i a h=>by simp at h⟩
 | n+1,h=>by
  obtain ⟨xs,h1,h2⟩:=choose_list n (fun i hi=>h i (by omega));obtain ⟨a,ha⟩:=h n (by omega);refine ⟨xs ++ [a],by simp [h1],fun i b hb=> ?_⟩;rw [List.getElem?_append] at hb;split at hb
  ·exact h2 i b hb
  ·have:i=n:=by
    have:=(List.getElem?_eq_some_iff.1 hb).1
    simp at this;omega
   subst this;rw [h1,Nat.sub_self] at hb;cases hb;exact ha
theorem opens_slice {α:Type} {t e e':Nat} {d:Kd α} (ht:P.underlying t=some (.slice e)) (hC:P.cellsOf e=d.sz) (hE:Opens enc P w base spare held e d):Opens enc P w base spare held t (Kd.slice e' d):=fun fuel cs x h=>by
 rcases open_slice ht h with ⟨rfl,_⟩ | ⟨a,len,cap,m,n,D,Pl,rfl,_,hl,hm,hmm,_,hi⟩
 ·exact ⟨[],none,0,rfl,Nat.le_refl _,Kd.C_nil d w⟩
 ·have hlm:len<=m:=by rw [hmm];split <;> omega
  obtain ⟨xs,hx1,hx2⟩:=choose_list (p:=fun i (b:α)=>∃ cs',w.cells? base (a.add (i*P.cellsOf e)) (P.cellsOf e)=some cs'/\d.K w b cs') len (fun i hlt=>by
   obtain ⟨cs',h1,h2⟩:=hi i (by omega);obtain ⟨b,hb⟩:=hE _ _ _ h2;exact ⟨b,cs',h1,hb⟩)
  subst hx1;refine ⟨xs,some a,cap,rfl,hl,rfl,by unfold maxLen at hm;omega,fun _=>⟨a,rfl,fun j p hj=> ?_⟩⟩;obtain ⟨cs',h1,h2⟩:=hx2 j p hj;obtain ⟨_,hcl,hat⟩:=World.cells?_some h1;refine ⟨cs',hcl.trans hC,h2,fun i u hu=> ?_⟩;have hil:i < cs'.length:=(List.getElem?_eq_some_iff.1 hu).1;have:=hat i (by omega);rw [hu] at this;rw [<-this,<-hC,Eq.add_add_]
def OpensAt {β:Type} (enc:TypeId × Value->H) (P:Program) (w:World) (base:Nat) (spare:Nat->Bool) (held:Bool) (ts:List Nat) (d:Kd β):Prop:=
 ∀ (n:Nat) (cs:List Value),cs.length=ts.length->(∀ j t,ts[j]? = some t->∃ x,DataW.trod enc P w base spare held n t ((cs.drop j).take 1)=some x)->∃ a,d.K w a cs
theorem opensAt_one {β:Type} {t:Nat} {d:Kd β} (h:Opens enc P w base spare held t d):OpensAt enc P w base spare held [t] d:=fun n cs hl hj=>by
 obtain ⟨x,hx⟩:=hj 0 t rfl;rw [List.drop_zero,List.take_of_length_le (by simp at hl;omega)] at hx;exact h _ _ _ hx
theorem opensAt_cons {β γ:Type} {t:Nat} {ts:List Nat} {d:Kd β} {d':Kd γ} (h:Opens enc P w base spare held t d) (k:OpensAt enc P w base spare held ts d'):OpensAt enc P w base spare held (t :: ts) (Kd.pair d d'):=fun n cs hl hj=>by
 match cs,hl with
 | c :: cs,hl=>
  obtain ⟨x,hx⟩:=hj 0 t rfl;obtain ⟨a,ha⟩:=h _ _ _ hx;obtain ⟨b,hb⟩:=k n cs (by simpa using hl) (fun j t' ht=>by simpa using hj (j+1) t' (by simpa using ht));exact ⟨(a,b), [c],cs,rfl,by simpa using ha,hb⟩
theorem opens_struct {β γ:Type} {t:Nat} {fs:Array Field} {ts:List Nat} {d:Kd γ} {f:β->γ} (g:γ->β) (hfg:∀ c,f (g c)=c) (ht:P.underlying t=some (.struct fs)) (hone:oneCellFields P fs=true) (hC:P.cellsOf t=fs.size) (hts:fs.toList.map (·.type)=ts)
  (h:OpensAt enc P w base spare held ts d):Opens enc P w base spare held t (Kd.iso d f):=fun fuel cs x hx=>by
 obtain ⟨xs,n,_,_,hlen,hxl,hg⟩:=DataW.trod_struct ht hx;have hl:ts.length=fs.size:=by rw [<-hts];simp
 obtain ⟨c,hc⟩:=h n cs (by rw [hlen,hC,hl]) (fun j t' hj=>by
  rw [<-hts,List.getElem?_map,Option.map_eq_some_iff] at hj;obtain ⟨fl,hfl,rfl⟩:=hj;have hfl':fs[j]? = some fl:=by simpa using hfl
  obtain ⟨h1,h2⟩:=hone_of hone j fl hfl'
  have:=hg j fl hfl'
  rw [h1,h2] at this;have hj2:j < fs.size:=(Array.getElem?_eq_some_iff.1 hfl').1;exact ⟨xs[j]'(by omega),this.trans (List.getElem?_eq_getElem (by omega))⟩)
 exact ⟨g c,show d.K w (f (g c)) cs by rw [hfg];exact hc⟩
end
section
variable {H:Type} {enc:TypeId × Value->H} {w:World} {base:Nat} {spare:Nat->Bool} {held:Bool}
theorem open_i:Opens enc Try.prog w base spare held 3 (Kd.int .i64):=opens_int Try.underlying3
theorem open_Put:Opens enc Try.prog w base spare held 188 kPutL:=
 opens_struct (g:=fun c=>⟨c.1,c.2⟩) (fun c=>rfl) Try.underlying188 (by kernel_rfl) (by kernel_rfl) rfl
  (opensAt_cons open_i (opensAt_one open_i))
theorem open_Cell:Opens enc Try.prog w base spare held 139 kCellL:=
 opens_struct (g:=fun c=>⟨c.1,c.2.1,c.2.2⟩) (fun c=>rfl) Try.underlying139 (by kernel_rfl) (by kernel_rfl) rfl
  (opensAt_cons open_i (opensAt_cons open_i (opensAt_one open_i)))
theorem open_Task:Opens enc Try.prog w base spare held 133 kTaskL:=
 opens_struct (g:=fun c=>⟨c.1,c.2.1,c.2.2.1,c.2.2.2.1,c.2.2.2.2.1,c.2.2.2.2.2.1,c.2.2.2.2.2.2.1,c.2.2.2.2.2.2.2.1,c.2.2.2.2.2.2.2.2.1,c.2.2.2.2.2.2.2.2.2.1,c.2.2.2.2.2.2.2.2.2.2.1,c.2.2.2.2.2.2.2.2.2.2.2.1,c.2.2.2.2.2.2.2.2.2.2.2.2⟩) (fun c=>rfl) Try.underlying133 (by kernel_rfl) (by kernel_rfl) rfl
  (opensAt_cons open_i (opensAt_cons open_i (opensAt_cons open_i (opensAt_cons (opens_slice (by kernel_rfl) (by kernel_rfl) open_i) (opensAt_cons open_i (opensAt_cons open_i (opensAt_cons open_i (opensAt_cons open_i (opensAt_cons (opens_slice (by kernel_rfl) (by kernel_rfl) open_i) (opensAt_cons (opens_slice (by kernel_rfl) (by kernel_rfl) open_Put) (opensAt_cons (opens_slice (by kernel_rfl) (by kernel_rfl) open_Put) (opensAt_cons open_i (opensAt_one open_i)))))))))))))
theorem open_Entry:Opens enc Try.prog w base spare held 136 kEntryL:=
 opens_struct (g:=fun c=>⟨c.1,c.2.1,c.2.2.1,c.2.2.2.1,c.2.2.2.2.1,c.2.2.2.2.2⟩) (fun c=>rfl) Try.underlying136 (by kernel_rfl) (by kernel_rfl) rfl
  (opensAt_cons open_i (opensAt_cons open_i (opensAt_cons open_i (opensAt_cons (opens_slice (by kernel_rfl) (by kernel_rfl) open_Put) (opensAt_cons (opens_slice (by kernel_rfl) (by kernel_rfl) open_Put) (opensAt_one open_i))))))
theorem open_Sys:Opens enc Try.prog w base spare held 61 kSysL:=
 opens_struct (g:=fun c=>⟨c.1,c.2.1,c.2.2.1,c.2.2.2⟩) (fun c=>rfl) Try.underlying61 (by kernel_rfl) (by kernel_rfl) rfl
  (opensAt_cons (opens_slice (by kernel_rfl) (by kernel_rfl) open_Cell) (opensAt_cons (opens_slice (by kernel_rfl) (by kernel_rfl) open_Task) (opensAt_cons open_i (opensAt_one (opens_slice (by kernel_rfl) (by kernel_rfl) open_Entry)))))
end
section
variable {H:Type} {enc:TypeId × Value->H} {w:World} {base:Nat} {spare:Nat->Bool} {held:Bool}
theorem open_Deed:Opens enc Try.prog w base spare held 202 kDeedL:=
 opens_struct (g:=fun c=>⟨c.1,c.2.1,c.2.2⟩) (fun c=>rfl) Try.underlying202 (by kernel_rfl) (by kernel_rfl) rfl
  (opensAt_cons open_i (opensAt_cons open_i (opensAt_one open_i)))
theorem open_Act:Opens enc Try.prog w base spare held 171 kActL:=
 opens_struct (g:=fun c=>⟨c.1,c.2.1,c.2.2.1,c.2.2.2⟩) (fun c=>rfl) Try.underlying171 (by kernel_rfl) (by kernel_rfl) rfl
  (opensAt_cons open_i (opensAt_cons (opens_slice (by kernel_rfl) (by kernel_rfl) open_Deed) (opensAt_cons (opens_slice (by kernel_rfl) (by kernel_rfl) open_i) (opensAt_one open_i))))
theorem open_Prog:Opens enc Try.prog w base spare held 56 kProgL:=
 opens_struct (g:=fun c=>⟨c.1,c.2⟩) (fun c=>rfl) Try.underlying56 (by kernel_rfl) (by kernel_rfl) rfl
  (opensAt_cons (opens_slice (by kernel_rfl) (by kernel_rfl) open_i) (opensAt_one (opens_slice (by kernel_rfl) (by kernel_rfl) (opens_slice (t:=129) (e:=171) (by kernel_rfl) (by kernel_rfl) open_Act))))
end
end Go.Proofs.Ytimamoimphjakaa.Eq
namespace Go.Proofs.Ytimamoimphjakaa.fnExactSysOk
open Go.ChangeShapes Go.WideShapes Go.ChangeAt Go.RowKit
theorem own:ownKnob Try.prog.godebug=none:=by kernel_rfl
theorem laidOut:laidOutB Try.prog=true:=by kernel_rfl
theorem lifted (os:Os) (started:os.Started) (H:Type) (enc:TypeId × Value->H):
  ReturnsInHanded {} Try.checked os 14 .any (Rows.fnExactSysOkSpec.pre6 enc Try.prog Try.f14 Rows.fnExactSysOkRow.domain false) (Rows.fnExactSysOkSpec.post enc Try.prog Try.f14 false true false false):=by
 refine returnsInHanded_of_change_sized (C:=Try.checked) own started (by kernel_rfl) Try.func14
  (ChangeSpec.witness6 (enc:=enc) (C:=Try.checked) false ⟨#[],#[.agg #[.slice none 0 0,.slice none 0 0],.agg #[.slice none 0 0,.slice none 0 0,.int .i64 0,.slice none 0 0]], []⟩ 8 (by kernel_rfl) (by kernel_rfl) (by kernel_rfl) (by kernel_rfl)) ?_
 intro W base args ds gs before hval0 hW hcnd hsz0 _;have hval:∀ (j:Nat) t v,Try.f14.params[j]? = some t->args[j]? = some v->Value.okWide Try.prog W .any base t v:=hval0;have hW':=hW;obtain ⟨p,q,hA0,hV,rfl,hfz,hnd⟩:=hW;have hA:DataW.TrodAll enc Try.prog W 0 (fun _=>true) true Try.f14.params.toList args.toList ds p:=hA0;rw [Try.params14] at hA hval;obtain ⟨v0,vs0,d0,ds0,p0,q0,hargs,rfl,rfl,h0,r0⟩:=trodAll_cons hA;obtain ⟨v1,vs1,d1,ds1,p1,q1,rfl,rfl,rfl,h1,r1⟩:=trodAll_cons r0;obtain ⟨rfl,rfl,rfl⟩:=trodAll_nil r1;obtain rfl:args= #[v0,v1]:=by cases args;simp_all
 obtain ⟨rfl,rfl⟩:=trodVars_none hV;obtain ⟨cs0,rfl,z0⟩:=okWide_struct Try.underlying56 (hval 0 56 v0 rfl rfl);have k0:=h0;have lt0:∀ x ∈ p0,x.block < W.heap.size:=by obtain ⟨m,hm⟩:=k0;exact DataW.trod_lt m _ _ _ hm
 obtain ⟨s0,S0⟩:∃ s,Eq.kProgL.K W s cs0.toList:=by obtain ⟨m,hm⟩:=h0;exact Eq.open_Prog m _ _ hm
 obtain ⟨cs1,rfl,z1⟩:=okWide_struct Try.underlying61 (hval 1 61 v1 rfl rfl);have k1:=h1;have lt1:∀ x ∈ p1,x.block < W.heap.size:=by obtain ⟨m,hm⟩:=k1;exact DataW.trod_lt m _ _ _ hm
 obtain ⟨s1,S1⟩:∃ s,Eq.kSysL.K W s cs1.toList:=by obtain ⟨m,hm⟩:=h1;exact Eq.open_Sys m _ _ hm
 refine (Eq.fnExactSysOk_calls s0 cs0.toList s1 cs1.toList W S0 S1).mono fun e W' ⟨he,bel⟩=> ?_
 subst he;exact ⟨_,rfl,_,_,_, [],_, [],hW',trodAll_mk1 (shut_bool Try.underlying4 _),(trodAll_cons_mk (Below.trod laidOut (by kernel_rfl) (of_decide_eq_true (by kernel_rfl)) k0 bel lt0) (trodAll_cons_mk (Below.trod laidOut (by kernel_rfl) (of_decide_eq_true (by kernel_rfl)) k1 bel lt1) trodAll_mk0)),rfl,bel.frame _,fun h=>by cases h⟩
theorem over:Rows.fnExactSysOkRow.holds Try.pinned (OpenSpec.ofChange Rows.fnExactSysOkSpec):=
 OpenClaim.holds_of_wide 14 Try.f14 rfl rfl rfl rfl rfl rfl rfl ⟨rfl,rfl,rfl,rfl,rfl⟩ rfl rfl rfl rfl rfl (by kernel_rfl) Try.func14 (by kernel_rfl)
  (of_decide_eq_true (by kernel_rfl)) (by unfold Func.isWrapper;first|(rw [if_pos (by decide +kernel)];kernel_rfl)|(rw [if_neg (by decide +kernel)];exact ⟨rfl,rfl⟩))
  (fun os started H enc _=>lifted os started H enc)
theorem proved:Rows.FnExactSysOkSaid:=over
end Go.Proofs.Ytimamoimphjakaa.fnExactSysOk
namespace Go.Proofs.Ytimamoimphjakaa
theorem fnExactSysOk_holds:Rows.FnExactSysOkSaid:=fnExactSysOk.proved
end Go.Proofs.Ytimamoimphjakaa
