/- The law FnExactSysReady: it returns true whatever the input, and the input and the variable read as they did. The listed variable starts as the program's text lays it (the card). -/
import Derived.Test.YtclangliilnijaaGreatDoorRows
import Derived.Test.YtclangliilnijaaGreatDoorY4
import Derived.Test.YtclangliilnijaaGreatDoorCards
import Derived.Test.YtclangliilnijaaGreatDoorTie
import Derived.ChangeOld
import Derived.ChangeSame
import Derived.ChangeShapes
import Derived.Deep.Fields
import Derived.Deep.Slices
import Derived.LaidMore
import Derived.OpenShut
import Derived.ProofKit
import Derived.SevenTiedAt
import Derived.ShutString
import Derived.SizedLaws
import Derived.Stop.ErrReads
import Derived.Stop.Joined
import Derived.Stop.LaidErr
import Derived.WideShapes
set_option maxHeartbeats 8000000
set_option maxRecDepth 100000
set_option linter.unusedVariables false
set_option linter.unusedSimpArgs false
namespace Go.Proofs.YtclangliilnijaaGreatDoor.Eq
open Go.RowKit Go.Proofs.YtclangliilnijaaGreatDoorW.PrintWords Go.Proofs.YtclangliilnijaaGreatDoorW.PrintLast
open Go.ChangeShapes Go.WideShapes Go.Deep
section
variable {H:Type} (enc:TypeId × Value->H) (P:Program) (w:World) (base:Nat) (spare:Nat->Bool) (held:Bool)
def Opens {α:Type} (t:Nat) (d:Kd α):Prop:=∀ (fuel:Nat) (cs:List Value) (x:DataW H × List MemPlace),DataW.trod enc P w base spare held fuel t cs=some x->∃ a,d.K w a cs
variable {enc P w base spare held}
theorem opens_int {t:Nat} (ht:P.underlying t=some (.int .i64)):Opens enc P w base spare held t (Kd.int .i64):=fun fuel cs x h=>by
 obtain ⟨n,rfl,_⟩:=DataW.trod_int ht h;exact ⟨n,rfl⟩
theorem choose_list {α:Type} {p:Nat->α->Prop}:∀ (n:Nat),(∀ i,i < n->∃ a,p i a)->∃ xs:List α,xs.length=n/\∀ i a,xs[i]? = some a->p i a
 | 0,_=>⟨[],rfl,fun i a h=>by simp at h⟩
 | n+1,h=>by
  obtain ⟨xs,h1,h2⟩:=choose_list n (fun i hi=>h i (by omega));obtain ⟨a,ha⟩:=h n (by omega);refine ⟨xs ++ [a],by simp [h1],fun i b hb=> ?_⟩;rw [List.getElem?_append] at hb;split at hb
  ·exact h2 i b hb
  ·have:i=n:=by
    have:=(List.getElem?_eq_some_iff.1 hb).1
    simp at this;omega
   subst this;rw [h1,Nat.sub_self] at hb;cases hb;exact ha
theorem opens_slice {α:Type} {t e e':Nat} {d:Kd α} (ht:P.underlying t=some (.slice e)) (hC:P.cellsOf e=d.sz) (hE:Opens enc P w base spare held e d):Opens enc P w base spare held t (Kd.slice e' d):=fun fuel cs x h=>by
 rcases open_slice ht h with ⟨rfl,_⟩ | ⟨a,len,cap,m,n,D,Pl,rfl,_,hl,hm,hmm,_,hi⟩
 ·exact ⟨[],none,0,rfl,Nat.le_refl _,Kd.C_nil d w⟩
 ·have hlm:len<=m:=by rw [hmm];split <;> omega
  obtain ⟨xs,hx1,hx2⟩:=choose_list (p:=fun i (b:α)=>∃ cs',w.cells? base (a.add (i*P.cellsOf e)) (P.cellsOf e)=some cs'/\d.K w b cs') len (fun i hlt=>by
   obtain ⟨cs',h1,h2⟩:=hi i (by omega);obtain ⟨b,hb⟩:=hE _ _ _ h2;exact ⟨b,cs',h1,hb⟩)
  subst hx1;refine ⟨xs,some a,cap,rfl,hl,rfl,by unfold maxLen at hm;omega,fun _=>⟨a,rfl,fun j p hj=> ?_⟩⟩;obtain ⟨cs',h1,h2⟩:=hx2 j p hj;obtain ⟨_,hcl,hat⟩:=World.cells?_some h1;refine ⟨cs',hcl.trans hC,h2,fun i u hu=> ?_⟩;have hil:i < cs'.length:=(List.getElem?_eq_some_iff.1 hu).1;have:=hat i (by omega);rw [hu] at this;rw [<-this,<-hC,Eq.add_add_]
def OpensAt {β:Type} (enc:TypeId × Value->H) (P:Program) (w:World) (base:Nat) (spare:Nat->Bool) (held:Bool) (ts:List Nat) (d:Kd β):Prop:=
 ∀ (n:Nat) (cs:List Value),cs.length=ts.length->(∀ j t,ts[j]? = some t->∃ x,DataW.trod enc P w base spare held n t ((cs.drop j).take 1)=some x)->∃ a,d.K w a cs
theorem opensAt_one {β:Type} {t:Nat} {d:Kd β} (h:Opens enc P w base spare held t d):OpensAt enc P w base spare held [t] d:=fun n cs hl hj=>by
 obtain ⟨x,hx⟩:=hj 0 t rfl;rw [List.drop_zero,List.take_of_length_le (by simp at hl;omega)] at hx;exact h _ _ _ hx
theorem opensAt_cons {β γ:Type} {t:Nat} {ts:List Nat} {d:Kd β} {d':Kd γ} (h:Opens enc P w base spare held t d) (k:OpensAt enc P w base spare held ts d'):OpensAt enc P w base spare held (t :: ts) (Kd.pair d d'):=fun n cs hl hj=>by
 match cs,hl with
 | c :: cs,hl=>
  obtain ⟨x,hx⟩:=hj 0 t rfl;obtain ⟨a,ha⟩:=h _ _ _ hx;obtain ⟨b,hb⟩:=k n cs (by simpa using hl) (fun j t' ht=>by simpa using hj (j+1) t' (by simpa using ht));exact ⟨(a,b), [c],cs,rfl,by simpa using ha,hb⟩
theorem opens_struct {β γ:Type} {t:Nat} {fs:Array Field} {ts:List Nat} {d:Kd γ} {f:β->γ} (g:γ->β) (hfg:∀ c,f (g c)=c) (ht:P.underlying t=some (.struct fs)) (hone:oneCellFields P fs=true) (hC:P.cellsOf t=fs.size) (hts:fs.toList.map (·.type)=ts)
  (h:OpensAt enc P w base spare held ts d):Opens enc P w base spare held t (Kd.iso d f):=fun fuel cs x hx=>by
 obtain ⟨xs,n,_,_,hlen,hxl,hg⟩:=DataW.trod_struct ht hx;have hl:ts.length=fs.size:=by rw [<-hts];simp
 obtain ⟨c,hc⟩:=h n cs (by rw [hlen,hC,hl]) (fun j t' hj=>by
  rw [<-hts,List.getElem?_map,Option.map_eq_some_iff] at hj;obtain ⟨fl,hfl,rfl⟩:=hj;have hfl':fs[j]? = some fl:=by simpa using hfl
  obtain ⟨h1,h2⟩:=hone_of hone j fl hfl'
  have:=hg j fl hfl'
  rw [h1,h2] at this;have hj2:j < fs.size:=(Array.getElem?_eq_some_iff.1 hfl').1;exact ⟨xs[j]'(by omega),this.trans (List.getElem?_eq_getElem (by omega))⟩)
 exact ⟨g c,show d.K w (f (g c)) cs by rw [hfg];exact hc⟩
end
section
variable {H:Type} {enc:TypeId × Value->H} {w:World} {base:Nat} {spare:Nat->Bool} {held:Bool}
theorem open_i:Opens enc Tryz.prog w base spare held 3 (Kd.int .i64):=opens_int Tryz.underlying3
theorem open_Put:Opens enc Tryz.prog w base spare held 204 kPutL:=
 opens_struct (g:=fun c=>⟨c.1,c.2⟩) (fun c=>rfl) Tryz.underlying204 (by kernel_rfl) (by kernel_rfl) rfl
  (opensAt_cons open_i (opensAt_one open_i))
theorem open_Cell:Opens enc Tryz.prog w base spare held 133 kCellL:=
 opens_struct (g:=fun c=>⟨c.1,c.2.1,c.2.2⟩) (fun c=>rfl) Tryz.underlying133 (by kernel_rfl) (by kernel_rfl) rfl
  (opensAt_cons open_i (opensAt_cons open_i (opensAt_one open_i)))
theorem open_Task:Opens enc Tryz.prog w base spare held 126 kTaskL:=
 opens_struct (g:=fun c=>⟨c.1,c.2.1,c.2.2.1,c.2.2.2.1,c.2.2.2.2.1,c.2.2.2.2.2.1,c.2.2.2.2.2.2.1,c.2.2.2.2.2.2.2.1,c.2.2.2.2.2.2.2.2.1,c.2.2.2.2.2.2.2.2.2.1,c.2.2.2.2.2.2.2.2.2.2.1,c.2.2.2.2.2.2.2.2.2.2.2.1,c.2.2.2.2.2.2.2.2.2.2.2.2⟩) (fun c=>rfl) Tryz.underlying126 (by kernel_rfl) (by kernel_rfl) rfl
  (opensAt_cons open_i (opensAt_cons open_i (opensAt_cons open_i (opensAt_cons (opens_slice (by kernel_rfl) (by kernel_rfl) open_i) (opensAt_cons open_i (opensAt_cons open_i (opensAt_cons open_i (opensAt_cons open_i (opensAt_cons (opens_slice (by kernel_rfl) (by kernel_rfl) open_i) (opensAt_cons (opens_slice (by kernel_rfl) (by kernel_rfl) open_Put) (opensAt_cons (opens_slice (by kernel_rfl) (by kernel_rfl) open_Put) (opensAt_cons open_i (opensAt_one open_i)))))))))))))
theorem open_Entry:Opens enc Tryz.prog w base spare held 129 kEntryL:=
 opens_struct (g:=fun c=>⟨c.1,c.2.1,c.2.2.1,c.2.2.2.1,c.2.2.2.2.1,c.2.2.2.2.2⟩) (fun c=>rfl) Tryz.underlying129 (by kernel_rfl) (by kernel_rfl) rfl
  (opensAt_cons open_i (opensAt_cons open_i (opensAt_cons open_i (opensAt_cons (opens_slice (by kernel_rfl) (by kernel_rfl) open_Put) (opensAt_cons (opens_slice (by kernel_rfl) (by kernel_rfl) open_Put) (opensAt_one open_i))))))
theorem open_Sys:Opens enc Tryz.prog w base spare held 30 kSysL:=
 opens_struct (g:=fun c=>⟨c.1,c.2.1,c.2.2.1,c.2.2.2⟩) (fun c=>rfl) Tryz.underlying30 (by kernel_rfl) (by kernel_rfl) rfl
  (opensAt_cons (opens_slice (by kernel_rfl) (by kernel_rfl) open_Cell) (opensAt_cons (opens_slice (by kernel_rfl) (by kernel_rfl) open_Task) (opensAt_cons open_i (opensAt_one (opens_slice (by kernel_rfl) (by kernel_rfl) open_Entry)))))
end
section
variable {H:Type} {enc:TypeId × Value->H} {w:World} {base:Nat} {spare:Nat->Bool} {held:Bool}
theorem open_Deed:Opens enc Tryz.prog w base spare held 222 kDeedL:=
 opens_struct (g:=fun c=>⟨c.1,c.2.1,c.2.2⟩) (fun c=>rfl) Tryz.underlying222 (by kernel_rfl) (by kernel_rfl) rfl
  (opensAt_cons open_i (opensAt_cons open_i (opensAt_one open_i)))
theorem open_Act:Opens enc Tryz.prog w base spare held 165 kActL:=
 opens_struct (g:=fun c=>⟨c.1,c.2.1,c.2.2.1,c.2.2.2⟩) (fun c=>rfl) Tryz.underlying165 (by kernel_rfl) (by kernel_rfl) rfl
  (opensAt_cons open_i (opensAt_cons (opens_slice (by kernel_rfl) (by kernel_rfl) open_Deed) (opensAt_cons (opens_slice (by kernel_rfl) (by kernel_rfl) open_i) (opensAt_one open_i))))
theorem open_Prog:Opens enc Tryz.prog w base spare held 25 kProgL:=
 opens_struct (g:=fun c=>⟨c.1,c.2⟩) (fun c=>rfl) Tryz.underlying25 (by kernel_rfl) (by kernel_rfl) rfl
  (opensAt_cons (opens_slice (by kernel_rfl) (by kernel_rfl) open_i) (opensAt_one (opens_slice (by kernel_rfl) (by kernel_rfl) (opens_slice (t:=122) (e:=165) (by kernel_rfl) (by kernel_rfl) open_Act))))
end
end Go.Proofs.YtclangliilnijaaGreatDoor.Eq
namespace Go.Proofs.YtclangliilnijaaGreatDoor.fnExactSysReady
open Go.ChangeShapes Go.WideShapes Go.ChangeAt Go.RowKit
theorem own:ownKnob Tryz.prog.godebug=none:=by kernel_rfl
theorem laidOut:laidOutB Tryz.prog=true:=by kernel_rfl
theorem gE:Tryz.prog.globalNamed "loop.example/equerry/impl.errSys" = some 0:=by kernel_rfl
theorem gET:(Tryz.prog.globals[0]?).map (·.type)=some 93:=by kernel_rfl
theorem cE:Tryz.prog.cellsOf 279=1:=by kernel_rfl
theorem cS:Tryz.prog.cellsOf 9=1:=by kernel_rfl
theorem star: "*" ++ "errors.errorString" = "*errors.errorString" :=by decide
theorem rowE (u:TypeId) (h:Tryz.prog.typeName? 3 u=some "*errors.errorString"):u=253:=
 typeName_ptr_named (nm:= "errors.errorString") (by rw [star];kernel_rfl) (by kernel_rfl) (by decide) u (by rw [star];exact h)
theorem doorMet (os:Os) (args:Array Value):laidMetH Tryz.prog Rows.fnExactSysReadyRow.laid ((World.doorLaid Tryz.prog 400 os).forCall (fun _ _=>0) ⟨#[],args, []⟩).memory:=
 laidMetH_of_parts3 (fuel:=8) (laidMet_of_run' 8 (by kernel_rfl) (by kernel_rfl)) (by kernel_rfl) (by kernel_rfl)
theorem var_below {W W':World} {cs:Array Value} (h:W.var? Tryz.prog "loop.example/equerry/impl.errSys" = some cs) (hb:Below W.heap.size W W'):W'.var? Tryz.prog "loop.example/equerry/impl.errSys" = some cs:=by
 unfold World.var? at h ⊢;rw [gE] at h ⊢;simp only [Option.bind_some] at h ⊢
 have hlt:0 < W.heap.size:=by
  rcases Nat.lt_or_ge 0 W.heap.size with h' | h'
  ·exact h'
  ·rw [Array.getElem?_eq_none h'] at h;cases h
 rw [hb.block 0 hlt];exact h
theorem lifted (os:Os) (started:os.Started) (H:Type) (enc:TypeId × Value->H):
  ReturnsInHanded {} Tryz.checked os 3 .any (fun w args=>(Rows.fnExactSysReadySpec.pre enc Tryz.prog Tryz.f3 [] false w args/\laidMetH Tryz.prog Rows.fnExactSysReadyRow.laid w)/\sizedMet enc Tryz.prog Tryz.f3 (OpenSpec.ofChange Rows.fnExactSysReadySpec) false w args)
   (Rows.fnExactSysReadySpec.post enc Tryz.prog Tryz.f3 false true false false):=by
 refine returnsInHanded_of_change_and (C:=Tryz.checked) (X:=fun w _=>laidMetH Tryz.prog Rows.fnExactSysReadyRow.laid w) (fun _ _ _ hh h=>h.of_heap hh) own started (by kernel_rfl) Tryz.func3
  (ChangeSpec.witness_shaped (enc:=enc) (C:=Tryz.checked) (os:=os) (X:=fun w _=>laidMetH Tryz.prog Rows.fnExactSysReadyRow.laid w) false (World.doorLaid Tryz.prog 400 os) #[.agg #[.slice none 0 0,.slice none 0 0],.agg #[.slice none 0 0,.slice none 0 0,.int .i64 0,.slice none 0 0]] 8 rfl (World.shaped_of_RefB (by kernel_rfl) (by kernel_rfl)) (by kernel_rfl) (by kernel_rfl) (by kernel_rfl) (doorMet os _)) ?_
 intro W base args ds gs before hval0 hW _ _ hL0 _;have hval:∀ (j:Nat) t v,Tryz.f3.params[j]? = some t->args[j]? = some v->Value.okWide Tryz.prog W .any base t v:=hval0;have hW':=hW;obtain ⟨p,q,hA0,hV0,rfl,hfz,hnd⟩:=hW;have hA:DataW.TrodAll enc Tryz.prog W 0 (fun _=>true) true Tryz.f3.params.toList args.toList ds p:=hA0;have hV:DataW.TrodVars enc Tryz.prog W (fun _=>true) ["loop.example/equerry/impl.errSys"] gs q:=hV0;rw [Tryz.params3] at hA hval;obtain ⟨v0,vs0,d0,ds0,p0,q0,hargs,rfl,rfl,h0,r0⟩:=trodAll_cons hA;obtain ⟨v1,vs1,d1,ds1,p1,q1,rfl,rfl,rfl,h1,r1⟩:=trodAll_cons r0;obtain ⟨rfl,rfl,rfl⟩:=trodAll_nil r1;obtain rfl:args= #[v0,v1]:=by cases args;simp_all
 obtain ⟨cs0,rfl,z0⟩:=okWide_struct Tryz.underlying25 (hval 0 25 v0 rfl rfl);have k0:=h0;have lt0:∀ x ∈ p0,x.block < W.heap.size:=by obtain ⟨m,hm⟩:=k0;exact DataW.trod_lt m _ _ _ hm
 obtain ⟨s0,S0⟩:∃ s,Eq.kProgL.K W s cs0.toList:=by obtain ⟨m,hm⟩:=h0;exact Eq.open_Prog m _ _ hm
 obtain ⟨cs1,rfl,z1⟩:=okWide_struct Tryz.underlying30 (hval 1 30 v1 rfl rfl);have k1:=h1;have lt1:∀ x ∈ p1,x.block < W.heap.size:=by obtain ⟨m,hm⟩:=k1;exact DataW.trod_lt m _ _ _ hm
 obtain ⟨s1,S1⟩:∃ s,Eq.kSysL.K W s cs1.toList:=by obtain ⟨m,hm⟩:=h1;exact Eq.open_Sys m _ _ hm
 have hL:laidMet Tryz.prog Rows.fnExactSysReadyRow.laid W:=by
  have h:=hL0;rw [MakeChecks.laidMetH_plain _ _ _ (by kernel_rfl)] at h;exact h
 obtain ⟨a0,t0,hv0,hc0,-,-⟩:=laid_sentinel hL gE gET Tryz.underlying93 rowE Tryz.underlying253 Tryz.underlying279 rfl rfl Tryz.underlying9 cE cS;obtain ⟨rfl,rfl⟩:=hV.unique (vars_read1 enc gE gET Tryz.underlying93 hv0 trivial _);have hg0:W.cell? ⟨0,0,none⟩=some (.iface 253 (.pointer (some a0))):=by simpa using World.var?_cell gE hv0 0
 refine (Eq.fnExactSysReady_calls s0 cs0.toList s1 cs1.toList W S0 S1 a0 hg0).mono fun e W' ⟨he,bel⟩=> ?_
 subst he;exact ⟨_,rfl,_,_,_, [],_, [.cell 0 0],hW',trodAll_mk1 (shut_bool Tryz.underlying4 _),(trodAll_cons_mk (Below.trod laidOut (by kernel_rfl) (of_decide_eq_true (by kernel_rfl)) k0 bel lt0) (trodAll_cons_mk (Below.trod laidOut (by kernel_rfl) (of_decide_eq_true (by kernel_rfl)) k1 bel lt1) trodAll_mk0)),vars_read1 enc gE gET Tryz.underlying93 (var_below hv0 bel) trivial _,bel.frame _,fun h=>by cases h⟩
theorem an {a b:Bool} (ha:a=true) (hb:b=true):(a && b)=true:=by rw [ha,hb];rfl
theorem c0:(Rows.fnExactSysReadyRow.wf (OpenSpec.ofChange Rows.fnExactSysReadySpec))=true:=by kernel_rfl
theorem c1:(laidOutB Tryz.pinned.checked.prog)=true:=by kernel_rfl
theorem c2:(mapsRowed Tryz.pinned.checked.prog)=true:=by kernel_rfl
theorem c3:(Tryz.f3.params.all (Tryz.pinned.checked.prog.readableRec ·))=true:=by kernel_rfl
theorem c4:(namedTie Tryz.pinned.checked.prog Rows.fnExactSysReadyRow.named Rows.fnExactSysReadySpec.vars)=true:=by kernel_rfl
theorem c5:(Rows.fnExactSysReadyRow.stops == [])=true:=by kernel_rfl
theorem c6:(Tryz.pinned.checked.prog.stops == [])=true:=by kernel_rfl
theorem c7:(Rows.fnExactSysReadyRow.knobs == [])=true:=by kernel_rfl
theorem c8:(Tryz.pinned.checked.prog.stopKnobs == [])=true:=by kernel_rfl
theorem c9:(Rows.fnExactSysReadyRow.inPlace == Tryz.pinned.checked.prog.inPlace 3)=true:=by kernel_rfl
theorem c10:(Rows.fnExactSysReadyRow.unfollowed == Tryz.pinned.checked.prog.unfollowed 3)=true:=by kernel_rfl
theorem c11:(Rows.fnExactSysReadyRow.recurses == Tryz.pinned.checked.prog.recurses 3)=true:=by kernel_rfl
theorem c12:(Rows.fnExactSysReadyRow.named == Tryz.pinned.checked.prog.varsNamed 3)=true:=by kernel_rfl
theorem c13:(Rows.fnExactSysReadyRow.maps == (Tryz.f3.params.toList ++ Rows.fnExactSysReadySpec.plain.varTypes Tryz.pinned.checked.prog).any (Tryz.pinned.checked.prog.mapsRec ·))=true:=by kernel_rfl
theorem c14:(Rows.fnExactSysReadyRow.ifaces == (Tryz.f3.params.toList ++ Rows.fnExactSysReadySpec.plain.varTypes Tryz.pinned.checked.prog).any (Tryz.pinned.checked.prog.ifacesRec ·))=true:=by kernel_rfl
theorem c15:(Rows.fnExactSysReadyRow.mapsOut == Tryz.pinned.checked.prog.mapsAmong Tryz.f3.resultTypes.toList)=true:=by kernel_rfl
theorem c16:(Rows.fnExactSysReadyRow.loops == (Tryz.f3.params.toList ++ Rows.fnExactSysReadySpec.plain.varTypes Tryz.pinned.checked.prog).any (Tryz.pinned.checked.prog.loopsFrom ·))=true:=by kernel_rfl
theorem c17:(Rows.fnExactSysReadyRow.wideKeys == (Tryz.f3.params.toList ++ Rows.fnExactSysReadySpec.plain.varTypes Tryz.pinned.checked.prog ++ Tryz.f3.resultTypes.toList).any (Tryz.pinned.checked.prog.wideKeysFrom ·))=true:=by kernel_rfl
theorem c18:(Rows.fnExactSysReadySpec.vars.all (Tryz.pinned.checked.prog.varReadable ·))=true:=by kernel_rfl
theorem c19:(Tryz.f3.resultTypes.all (fun t=>Tryz.pinned.checked.prog.readableRec t && decide (t < Tryz.pinned.checked.prog.types.size)))=true:=by kernel_rfl
theorem c20:(Rows.fnExactSysReadyRow.ifacesOut == Tryz.f3.resultTypes.toList.any (Tryz.pinned.checked.prog.ifacesRec ·))=true:=by kernel_rfl
theorem c21:(Rows.fnExactSysReadyRow.loopsOut == Tryz.f3.resultTypes.toList.any (Tryz.pinned.checked.prog.loopsFrom ·))=true:=by kernel_rfl
theorem c22:(Rows.fnExactSysReadyRow.plainKeys == Tryz.pinned.checked.prog.plainKeys)=true:=by kernel_rfl
theorem c23:(Rows.fnExactSysReadyRow.shortTexts.isNone)=true:=by kernel_rfl
theorem c24:(Tryz.pinned.checked.prog.stopsHeard)=true:=by kernel_rfl
theorem c25:(Tryz.pinned.checked.prog.mayEnter)=true:=by kernel_rfl
theorem c26:(Rows.fnExactSysReadyRow.lifted == Tryz.pinned.checked.prog.liftsFinal)=true:=by kernel_rfl
theorem c27:(Tryz.pinned.checked.prog.make == some Rows.fnExactSysReadyRow.make)=true:=by kernel_rfl
theorem c29:(Rows.fnExactSysReadyRow.pinned == Rows.fnExactSysReadyRow.pinnedBy)=true:=by kernel_rfl
theorem c30:(Rows.fnExactSysReadyRow.veiled == (Tryz.f3.params.toList ++ Rows.fnExactSysReadySpec.plain.varTypes Tryz.pinned.checked.prog ++ Tryz.f3.resultTypes.toList).any (Tryz.pinned.checked.prog.veiledRec ·))=true:=by kernel_rfl
theorem c31:(Rows.fnExactSysReadyRow.veiledFits Tryz.pinned.checked.prog Tryz.f3.params.toList (Tryz.f3.params.toList ++ Rows.fnExactSysReadySpec.plain.varTypes Tryz.pinned.checked.prog ++ Tryz.f3.resultTypes.toList))=true:=by kernel_rfl
theorem closed:joinedFacts Tryz.pinned.checked.prog 3 Tryz.f3 Rows.fnExactSysReadySpec Rows.fnExactSysReadyRow=true:=by
 unfold joinedFacts;refine an ?_ c31;refine an ?_ c30;refine an ?_ c29;refine an ?_ (by kernel_rfl);refine an ?_ c27;refine an ?_ c26;refine an ?_ c25;refine an ?_ c24;refine an ?_ c23;refine an ?_ c22;refine an ?_ c21;refine an ?_ c20;refine an ?_ c19;refine an ?_ c18;refine an ?_ c17;refine an ?_ c16;refine an ?_ c15;refine an ?_ c14;refine an ?_ c13;refine an ?_ c12;refine an ?_ c11;refine an ?_ c10;refine an ?_ c9;refine an ?_ c8;refine an ?_ c7;refine an ?_ c6;refine an ?_ c5;refine an ?_ c4;refine an ?_ c3;refine an ?_ c2;refine an ?_ c1;exact c0
theorem hfn:Tryz.pinned.checked.prog.funcNamed Rows.fnExactSysReadyRow.func=some 3:=by kernel_rfl
theorem over:Rows.fnExactSysReadyRow.holds Tryz.pinned (OpenSpec.ofChange Rows.fnExactSysReadySpec):=
 OpenClaim.holds_of_wide 3 Tryz.f3 rfl rfl rfl rfl rfl rfl rfl ⟨rfl,rfl,rfl,rfl,rfl⟩ rfl rfl rfl rfl rfl hfn Tryz.func3 closed
  (of_decide_eq_true (by kernel_rfl)) (by unfold Func.isWrapper;first|(rw [if_pos (by decide +kernel)];kernel_rfl)|(rw [if_neg (by decide +kernel)];exact ⟨rfl,rfl⟩))
  (fun os started H enc _=>lifted os started H enc)
theorem card:Rows.FnExactSysReadyCardSaid:=
 Claim7.holds_tied_plain_at .later [] [.sentinel] true Rows.fnExactSysReadyCard.stood.harness true
  over (fun _ h=>by cases h) (by kernel_rfl) (fun _ h=>by cases h) fnExactSysReady_row_tie rfl ⟨rfl,rfl⟩ (by kernel_rfl) rfl
  (fun f fn hf hfn=>by
   obtain rfl:f=3:=Option.some.inj ((show Tryz.prog.funcNamed "loop.example/equerry/laws.FnExactSysReady" = some 3 by kernel_rfl).symm.trans hf) |>.symm;obtain rfl:fn=Tryz.f3:=(Option.some.inj (Tryz.func3.symm.trans hfn)).symm
   exact ⟨by kernel_rfl,fun j t ht=>by
    rw [Tryz.params3] at ht;have hm:t ∈ [25,30]:=by simpa using Array.mem_of_getElem? ht
    have hall:([25,30].all fun u=> !Tryz.prog.wantsStandIn u)=true:=by kernel_rfl
    exact (show Tryz.prog.wantsStandIn t=false by simpa using List.all_eq_true.1 hall t hm)⟩)
  (by kernel_rfl)
end Go.Proofs.YtclangliilnijaaGreatDoor.fnExactSysReady
namespace Go.Proofs.YtclangliilnijaaGreatDoor
theorem fnExactSysReady_holds:Rows.FnExactSysReadyCardSaid:=fnExactSysReady.card
end Go.Proofs.YtclangliilnijaaGreatDoor
