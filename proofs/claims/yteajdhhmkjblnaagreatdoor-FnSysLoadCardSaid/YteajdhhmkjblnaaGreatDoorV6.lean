import Derived.Test.YteajdhhmkjblnaaGreatDoorV5
import Derived.Shelf.Spec.SlicesInsertGrow
set_option maxHeartbeats 8000000
set_option maxRecDepth 100000
set_option linter.unusedVariables false
set_option linter.unusedSimpArgs false
namespace Go.Proofs.YteajdhhmkjblnaaGreatDoor.Eq
section
variable {p:Prog} {s:Sys} {i:Nat}
def lv (p:Prog) (t:Task):List Act:=bo p.an t.body.toNat
def ji (p:Prog) (t:Task):Act:=actAt (lv p t) t.aR.toNat
theorem C0 (aa:i < s.tasks.length):R (wm s i) i= {R s i with since:=s.clock,bE:=(R s i).aL,from_:=s.log.length,bw:=0,aE:=1,at_:=0}:=cD aa
theorem CT (aa:i < s.tasks.length) (w:Int):R (done s i w) i= {R s i with aR:=(R s i).aR+1,reads:= [],ai:= [],since:=0,bw:=0,from_:=0,aE:=0,at_:=0}:=cD (s:=s) aa
theorem F6 (aa:i < s.tasks.length) (st:Int):R (k4 s i st) i= {R s i with aE:=st,at_:=0}:=cD aa
theorem vt (aa:i < s.tasks.length) (w:Int):R (ib s i w) i= {R s i with a7:=w}:=cD aa
def y8 (s:Sys) (i:Nat):Sys:=b0 (again s i) i {R (again s i) i with bw:=(R s i).since+1}
theorem C2 (aa:i < s.tasks.length):R (y8 s i) i= {R s i with aL:=(R s i).bE,reads:= [],ai:= [],bw:=(R s i).since+1,aE:=0,at_:=0}:=by
 unfold y8;rw [cD (by rw [m1];exact aa),pT aa]
def CO (s:Sys) (i:Nat):Sys:=
 b0 (setCell s (putAt (R s i).ai (R s i).at_.toNat).cell.toNat ⟨(putAt (R s i).ai (R s i).at_.toNat).num,(R s i).bw,-1⟩) i {R s i with at_:=(R s i).at_+1}
theorem C3 (aa:i < s.tasks.length):R (CO s i) i= {R s i with at_:=(R s i).at_+1}:=cD (s:=setCell s _ _) aa
def Bk (s:Sys) (i:Nat):Nat:=(putAt (R s i).ai (R s i).at_.toNat).cell.toNat
def LH (s:Sys) (i:Nat) (t:Task):Sys:=b0 (setCell s (Bk s i) {cellAt s.cells (Bk s i) with lock:=i}) i t
theorem F7 (aa:i < s.tasks.length) (t:Task):R (LH s i t) i=t:=cD (s:=setCell s _ _) aa
inductive k' (p:Prog) (s:Sys) (i:Nat):Sys->Prop
 | begin:(R s i).aE=0->k' p s i (wm s i)
 | done:(R s i).aE=1->(R s i).ai= []->((ji p (R s i)).bP.length:Int)<=(R s i).at_->k' p s i (done s i (R s i).since)
 | X3:(R s i).aE=1->(R s i).ai ≠ []->((ji p (R s i)).bP.length:Int)<=(R s i).at_->k' p s i (k4 s i 2)
 | X4 (d:Deed) (k:Nat):(R s i).aE=1->(R s i).at_ < (ji p (R s i)).bP.length->mX (ji p (R s i)).bP (R s i).at_.toNat=d->d.kind=1->iD (R s i).ai d.b=some k->
   k' p s i (b0 s i {R s i with aL:=(R s i).aL.set d.a.toNat (putAt (R s i).ai k).num,at_:=(R s i).at_+1})
 | load (d:Deed):(R s i).aE=1->(R s i).at_ < (ji p (R s i)).bP.length->mX (ji p (R s i)).bP (R s i).at_.toNat=d->d.kind=1->iD (R s i).ai d.b=none->blind s i d.b=false->
   k' p s i (b0 s i {R s i with aL:=(R s i).aL.set d.a.toNat (cellAt s.cells d.b.toNat).num,reads:=jH (R s i).reads ⟨d.b,(cellAt s.cells d.b.toNat).num⟩,at_:=(R s i).at_+1})
 | store (d:Deed):(R s i).aE=1->(R s i).at_ < (ji p (R s i)).bP.length->mX (ji p (R s i)).bP (R s i).at_.toNat=d->d.kind=2->
   k' p s i (b0 s i {R s i with ai:=jH (R s i).ai ⟨d.a,cC (R s i).aL d.b.toNat⟩,at_:=(R s i).at_+1})
 | eY (d:Deed):(R s i).aE=1->(R s i).at_ < (ji p (R s i)).bP.length->mX (ji p (R s i)).bP (R s i).at_.toNat=d->d.kind ≠ 1->d.kind ≠ 2->¬ (d.kind=5/\cC (R s i).aL d.a.toNat=0)->
   k' p s i (b0 s i {R s i with aL:=pe (R s i).aL d,at_:=(R s i).at_+1})
 | xy (d:Deed):(R s i).aE=1->(R s i).at_ < (ji p (R s i)).bP.length->mX (ji p (R s i)).bP (R s i).at_.toNat=d->d.kind=5->cC (R s i).aL d.a.toNat=0->k' p s i (y8 s i)
 | Q0 (d:Deed):(R s i).aE=1->(R s i).at_ < (ji p (R s i)).bP.length->mX (ji p (R s i)).bP (R s i).at_.toNat=d->d.kind=1->iD (R s i).ai d.b=none->blind s i d.b=true->k' p s i (again s i)
 | held:(R s i).aE=2->0<=(cellAt s.cells (Bk s i)).lock->k' p s i (again s i)
 | lock:(R s i).aE=2->(cellAt s.cells (Bk s i)).lock < 0->(R s i).at_+1 ≠ (R s i).ai.length->k' p s i (LH s i {R s i with at_:=(R s i).at_+1})
 | QG:(R s i).aE=2->(cellAt s.cells (Bk s i)).lock < 0->(R s i).at_+1=(R s i).ai.length->k' p s i (LH s i {R s i with aE:=3,at_:=0})
 | time:(R s i).aE=3->k' p s i (time s i)
 | YB:(R s i).aE=4->((R s i).reads.length:Int)<=(R s i).at_->k' p s i (k4 s i 5)
 | Q1:(R s i).aE=4->(R s i).at_ < (R s i).reads.length->blind s i (putAt (R s i).reads (R s i).at_.toNat).cell=true->k' p s i (again s i)
 | check:(R s i).aE=4->(R s i).at_ < (R s i).reads.length->blind s i (putAt (R s i).reads (R s i).at_.toNat).cell=false->k' p s i (b0 s i {R s i with at_:=(R s i).at_+1})
 | write:(R s i).aE=5->(R s i).at_+1 ≠ (R s i).ai.length->k' p s i (CO s i)
 | Q2:(R s i).aE=5->(R s i).at_+1=(R s i).ai.length->k' p s i (Eq.done (CO s i) i (R s i).bw)
theorem Mf (br:(R s i).aE=5):k' p s i (Eq.write s i):=by
 unfold Eq.write;simp only [];split
 ·rename_i h
  exact .Q2 br h
 ·rename_i h
  exact .write br h
theorem YC {N:Nat} (h:Inv p s N) (aa:i < s.tasks.length):k' p s i (jT s i (ji p (R s i)).bP):=by
 have ja:=(h.task i aa).qx;unfold jT;split
 ·rename_i aq;exact .begin aq
 split
 ·rename_i h1
  unfold Eq.n7;simp only [];split
  ·rename_i ha
   split
   ·rename_i aB;exact .done h1 aB ha
   ·rename_i aB;exact .X3 h1 aB ha
  rename_i ha;have yE:(R s i).at_ < ((ji p (R s i)).bP.length:Int):=by omega
  split
  ·rename_i J
   unfold Eq.load;simp only [];split
   ·rename_i k bb
    exact .X4 _ k h1 yE rfl J bb
   ·rename_i bb
    split
    ·rename_i I;exact .Q0 _ h1 yE rfl J bb I
    ·rename_i I;exact .load _ h1 yE rfl J bb (by simpa using I)
  rename_i ml;split
  ·rename_i J;exact .store _ h1 yE rfl J
  rename_i iI;split
  ·rename_i J;exact .xy _ h1 yE rfl J.1 J.2
  ·rename_i J;exact .eY _ h1 yE rfl ml iI J
 split
 ·rename_i ar
  unfold Eq.lock;simp only [];split
  ·rename_i ak;exact .held ar ak
  ·rename_i ak
   have p8:(cellAt s.cells (Bk s i)).lock < 0:=by unfold Bk;omega
   split
   ·rename_i he;exact .QG ar p8 he
   ·rename_i he;exact .lock ar p8 he
 split
 ·rename_i aA;exact .time aA
 split
 ·rename_i bR
  unfold Eq.check;simp only [];split
  ·rename_i ha;exact .YB bR ha
  ·rename_i ha
   split
   ·rename_i I;exact .Q1 bR (by omega) I
   ·rename_i I;exact .check bR (by omega) (by simpa using I)
 ·exact Mf (by omega)
inductive yL (p:Prog) (s:Sys) (i:Nat):Sys->Prop
 | move {fX:Sys}:(R s i).a7=0->(R s i).aR < (lv p (R s i)).length->(ji p (R s i)).kind=1->k' p s i fX->yL p s i fX
 | ended:(R s i).a7=0->(R s i).aE=0->(R s i).aR=(lv p (R s i)).length->yL p s i (ib s i 2)
 | FC:(R s i).a7=0->(R s i).aE=0->(R s i).aR < (lv p (R s i)).length->(ji p (R s i)).kind=2->yL p s i (fork s i (ji p (R s i)).kids)
 | FD:(R s i).a7=0->(R s i).aE=0->(R s i).aR < (lv p (R s i)).length->(ji p (R s i)).kind ≠ 1->(ji p (R s i)).kind ≠ 2->yL p s i (ib s i 3)
 | FE:(R s i).a7=0->(R s i).aE=0->(R s i).aR < (lv p (R s i)).length->(ji p (R s i)).kind ≠ 1->(ji p (R s i)).kind ≠ 2->yL p s i (b0 s i {R s i with aR:=(R s i).aR+1})
 | goes:(R s i).a7=1->gu s.tasks i 3=0->gu s.tasks i 0+gu s.tasks i 1=0->yL p s i (b0 s i {R s i with a7:=0,aR:=(R s i).aR+1})
 | mR:(R s i).a7=1->0 < gu s.tasks i 3->yL p s i (ib (Eq.mR s i) i 3)
theorem Bu {N:Nat} (h:Inv p s N) (aa:i < s.tasks.length) (ao:ready s i=true):yL p s i (step p s i):=by
 have hw:=(Gb ao).1;have a6:=h.task i aa
 have aX:(R s i).a7=0->(ji p (R s i)).kind ≠ 1\/¬ (R s i).aR < (lv p (R s i)).length->(R s i).aE=0:=fun aq J=>Classical.byContradiction fun cm=>by
  have:=a6.oB cm
  rcases J with J | J
  ·exact J this.2.2
  ·exact J this.2.1
 unfold step;simp only [];split
 ·rename_i h1
  unfold Eq.pg;split
  ·rename_i aA
   refine .goes h1 aA ?_;unfold ready at ao;simp only [] at ao;rw [h1] at ao;split at ao
   ·cases ao
   ·simp only [show ¬ ((1:Int)=0) by omega,if_false,if_true,Bool.or_eq_true,decide_eq_true_eq] at ao
    omega
  ·rename_i aA
   exact .mR h1 (by omega)
 rename_i h1;have aq:(R s i).a7=0:=by omega
 have mh:=a6.oW;split
 ·rename_i ak
  have p8:(R s i).aR=(lv p (R s i)).length:=by unfold lv;omega
  exact .ended aq (aX aq (.inr (by omega))) p8
 rename_i ak;have p8:(R s i).aR < (lv p (R s i)).length:=by unfold lv;omega
 split
 ·rename_i J
  exact .move aq p8 J (YC h aa)
 rename_i ml;split
 ·rename_i J
  exact .FC aq (aX aq (.inl ml)) p8 J
 rename_i iI;split
 ·exact .FD aq (aX aq (.inl ml)) p8 ml iI
 ·exact .FE aq (aX aq (.inl ml)) p8 ml iI
end
section
variable {p:Prog} {s fX:Sys} {i:Nat} {N:Nat}
theorem Si:(CO s i).tasks.length=s.tasks.length:=c5 _ _ _
theorem aaX:(y8 s i).tasks.length=s.tasks.length:=by unfold y8;rw [c5,m1]
theorem Ge (aa:i < s.tasks.length) (w:Int):R (Eq.done (CO s i) i w) i= {R s i with aR:=(R s i).aR+1,reads:= [],ai:= [],since:=0,bw:=0,from_:=0,aE:=0,at_:=0}:=by
 rw [CT (by rw [Si];exact aa),C3 aa]
theorem FZ (aa:i < s.tasks.length):R (time s i) i= {R s i with bw:=s.clock+1,aE:=4,at_:=0}:=cD (s:=s) aa
theorem Q3 (h:k' p s i fX):fX.tasks.length=s.tasks.length:=by
 cases h <;> first | exact c5 _ _ _ | exact m1 | exact aaX|(show (b0 _ _ _).tasks.length=_;rw [c5];exact Si)
theorem LQ (h:k' p s i fX) (aa:i < s.tasks.length):(R fX i).a7=(R s i).a7:=by
 cases h <;> simp only [C0 aa,CT aa,F6 aa,cD aa,C2 aa,pT aa,F7 aa,FZ aa,C3 aa,Ge aa]
theorem Zd (h:k' p s i fX) (aa:i < s.tasks.length):(R fX i).body=(R s i).body/\(R fX i).up=(R s i).up/\((R fX i).aR=(R s i).aR\/(R fX i).aR=(R s i).aR+1):=by
 cases h <;> simp [C0 aa,CT aa,F6 aa,cD aa,C2 aa,pT aa,F7 aa,FZ aa,C3 aa,Ge aa]
theorem ZW (h:k' p s i fX) {j:Nat} (aI:j ≠ i):R fX j=R s j:=by
 cases h with
 | xy=>unfold y8;rw [oH aI,C9 aI]
 | Q0=>exact C9 aI
 | held=>exact C9 aI
 | Q1=>exact C9 aI
 | Q2=>exact (oH (s:=CO s i) aI).trans (oH (s:=setCell s _ _) aI)
 | write=>exact oH (s:=setCell s _ _) aI
 | lock=>exact oH (s:=setCell s _ _) aI
 | QG=>exact oH (s:=setCell s _ _) aI
 | time=>exact oH (s:=s) aI
 | done=>exact R9 aI _
 | _=>exact oH aI
theorem Ze (h:Inv p s N):R (Eq.mR s i) i=R s i:=h.mR.2
theorem Mg (h:Inv p s N) (aa:i < s.tasks.length):R (ib (Eq.mR s i) i 3) i= {R s i with a7:=3}:=by
 rw [vt (by rw [Ij];exact aa),Ze h]
theorem Ic (aa:i < s.tasks.length) (aY:List Int):R (fork s i aY) i= {R s i with a7:=1}:=by
 unfold fork;rw [vt (by simp;omega),FJ s _ aa]
theorem Zf (h:Inv p s N) (aa:i < s.tasks.length) (ao:ready s i=true):(R (step p s i) i).a7=2 ↔ (R s i).a7=0/\(R s i).aR=(lv p (R s i)).length:=by
 have hs:=Bu h aa ao;generalize step p s i=x at hs
 cases hs with
 | move aq ak J hm=>
  rw [LQ hm aa]
  omega
 | ended aq hs ak=>rw [vt aa];simp [aq,ak]
 | FC aq hs ak J=>rw [Ic aa];simp;omega
 | FD aq hs ak J=>rw [vt aa];simp;omega
 | FE aq hs ak J=>rw [cD aa];simp;omega
 | goes h1=>rw [cD aa];simp;omega
 | mR h1=>rw [Mg h aa];simp;omega
theorem aat (h:Inv p s N) (aa:i < s.tasks.length) (ao:ready s i=true) (aq:(R s i).aE=0) (h1:(R (step p s i) i).aE=1):
  step p s i=wm s i:=by
 have hs:=Bu h aa ao;generalize step p s i=x at hs h1 ⊢
 cases hs with
 | move hw ak J hm=>cases hm <;> first | rfl | omega
 | ended=>rw [vt aa] at h1;simp at h1;omega
 | FC=>rw [Ic aa] at h1;simp at h1;omega
 | FD=>rw [vt aa] at h1;simp at h1;omega
 | FE=>rw [cD aa] at h1;simp at h1;omega
 | goes=>rw [cD aa] at h1;simp at h1;omega
 | mR=>rw [Mg h aa] at h1;simp at h1;omega
theorem aaY (h:Inv p s N) (aa:i < s.tasks.length) (ao:ready s i=true) (br:(R (step p s i) i).aE=5):(R s i).aE=5\/(R s i).aE=4:=by
 have hs:=Bu h aa ao;generalize step p s i=x at hs br;have ja:=(h.task i aa).qx
 cases hs with
 | move hw ak J hm=>
  cases hm <;> simp only [C0 aa,CT aa,F6 aa,cD aa,C2 aa,pT aa,F7 aa,FZ aa,C3 aa,Ge aa] at br <;> omega
 | ended=>rw [vt aa] at br;simp at br;omega
 | FC=>rw [Ic aa] at br;simp at br;omega
 | FD=>rw [vt aa] at br;simp at br;omega
 | FE=>rw [cD aa] at br;simp at br;omega
 | goes=>rw [cD aa] at br;simp at br;omega
 | mR=>rw [Mg h aa] at br;simp at br;omega
theorem aau (h:Inv p s N) (aa:i < s.tasks.length) (ao:ready s i=true) (bR:(R s i).aE=4) (ha:(R s i).at_ < (R s i).reads.length):
  if blind s i (putAt (R s i).reads (R s i).at_.toNat).cell then (R (step p s i) i).aE=0 else (R (step p s i) i).aE=4/\(R (step p s i) i).at_=(R s i).at_+1:=by
 have hs:=Bu h aa ao;generalize step p s i=x at hs;have hw:=(h.task i aa).oB (by omega)
 cases hs with
 | move hw ak J hm=>
  cases hm <;> first | omega | skip
  ·rename_i I
   rw [if_pos I,pT aa]
  ·rename_i I
   rw [if_neg (by rw [I];exact Bool.false_ne_true),cD aa]
   exact ⟨bR,rfl⟩
 | goes h1=>omega
 | mR h1=>omega
 | _=>omega
theorem S9:(again s i).cells.length=s.cells.length:=by show (free s i).cells.length=_;simp [free]
theorem aav (h:Inv p s N) (aa:i < s.tasks.length) (ao:ready s i=true) (aq:(R s i).aE ≠ 0) (h1:(R (step p s i) i).aE=0) (ar:(R (step p s i) i).aR=(R s i).aR):
  (step p s i=again s i\/step p s i=y8 s i):=by
 have hs:=Bu h aa ao;generalize step p s i=x at hs h1 ar ⊢;have hw:=(h.task i aa).oB aq
 cases hs with
 | move hw ak J hm=>
  cases hm <;> first | exact .inl rfl | exact .inr rfl|(exfalso;simp only [C0 aa,CT aa,F6 aa,cD aa,C2 aa,pT aa,F7 aa,FZ aa,C3 aa,Ge aa] at h1 ar;omega)
 | _=>omega
end
section
variable {p:Prog} {s fX:Sys} {i:Nat} {N:Nat}
structure ru (p:Prog) (N:Nat) (aC:Sys->Sys->Prop):Prop where
 refl:∀ s,aC s s
 trans:∀ a b c,aC a b->aC b c->aC a c
 write:∀ (s:Sys) (i:Nat),Inv p s N->i < s.tasks.length->isLive (R s i)=true->(R s i).aE=5->aC s (Eq.write s i)
 again:∀ (s:Sys) (i:Nat),Inv p s N->i < s.tasks.length->isLive (R s i)=true->aC s (Eq.again s i)
 a7:∀ (s:Sys) (i:Nat),Inv p s N->i < s.tasks.length->isLive (R s i)=true->(R s i).aE=0->aC s (ib s i 4)
section
variable {aC:Sys->Sys->Prop} (df:ru p N aC)
include df
theorem ru.writes:∀ (n:Nat) {s:Sys},Inv p s N->i < s.tasks.length->isLive (R s i)=true->aC s (writes i n s)/\(R (writes i n s) i).a7=(R s i).a7
 | 0,s,_,_,_=>⟨df.refl _,rfl⟩
 | n+1,s,h,aa,ak=>by
  unfold Eq.writes;split
  ·rename_i br
   have hw:(R (Eq.write s i) i).a7=(R s i).a7:=LQ (p:=p) (Mf br) aa;obtain ⟨h1,ar⟩:=ru.writes n (h.write aa br) (by rw [wC];exact aa) (by simpa [isLive,hw] using ak);exact ⟨df.trans _ _ _ (df.write s i h aa ak br) h1,ar.trans hw⟩
  ·exact ⟨df.refl _,rfl⟩
theorem ru.one (h:Inv p s N) (aa:i < s.tasks.length):aC s (nH s i):=by
 unfold nH;split
 ·rename_i ak
  have h1:=Inv.writes ((R s i).ai.length+1) h aa;obtain ⟨jL,w1⟩:=df.writes ((R s i).ai.length+1) h aa ak;have cw:i < (Eq.writes i ((R s i).ai.length+1) s).tasks.length:=by rw [Gi];exact aa
  have Cn:isLive (R (Eq.writes i ((R s i).ai.length+1) s) i)=true:=by simpa [isLive,w1] using ak
  simp only [];split
  ·rename_i hs
   exact df.trans _ _ _ jL (df.a7 _ _ h1 cw Cn hs)
  ·exact df.trans _ _ _ jL (df.trans _ _ _ (df.again _ _ h1 cw Cn) (df.a7 _ _ (h1.again cw) (by rw [m1];exact cw) (by rw [pT cw];exact Cn) (by rw [pT cw])))
 ·exact df.refl _
theorem ru.fold {n i:Nat} (aS:∀ {s:Sys} {k:Nat},Inv p s N->k < s.tasks.length->aC s (h8 n s k)):∀ (l:List Nat) {s:Sys},Inv p s N->(∀ k ∈ l,k < s.tasks.length)->aC s (l.foldl (fun s k=>if (R s k).up=i then h8 n s k else s) s)
 | [],s,h,_=>df.refl _
 | k :: l,s,h,ak=>by
  rw [List.foldl_cons];split
  ·exact df.trans _ _ _ (aS h (ak k (by simp))) (ru.fold aS l (Inv.h8 n h (ak k (by simp))) (fun j aI=>by rw [ze];exact ak j (by simp [aI])))
  ·exact ru.fold aS l h (fun j aI=>ak j (by simp [aI]))
theorem ru.h8:∀ (n:Nat) {s:Sys} {i:Nat},Inv p s N->i < s.tasks.length->aC s (Eq.h8 n s i)
 | 0,s,i,h,_=>df.refl _
 | n+1,s,i,h,aa=>by
  unfold Eq.h8;have ak:∀ k ∈ List.range s.tasks.length,k < s.tasks.length:=fun k J=>by simpa using J
  have h1:=Inv.H9 (i:=i) (fun {s k} h J=>Inv.h8 n h J) (List.range s.tasks.length) h ak;exact df.trans _ _ _ (df.fold (fun {s k} h J=>ru.h8 n h J) _ h ak) (df.one h1 (by rw [IB n (fun s k=>ze n s k)];exact aa))
theorem ru.off (h:Inv p s N) (aa:i < s.tasks.length):aC s (Eq.off s i):=df.h8 _ h aa
theorem ru.zf:∀ (l:List Nat) {s:Sys},Inv p s N->(∀ k ∈ l,k < s.tasks.length)->aC s (l.foldl (fun s k=>if (R s k).up=i then Eq.off s k else s) s)
 | [],s,h,_=>df.refl _
 | k :: l,s,h,ak=>by
  rw [List.foldl_cons];split
  ·exact df.trans _ _ _ (df.off h (ak k (by simp))) (ru.zf l (h.off (ak k (by simp))) (fun j aI=>by rw [CQ];exact ak j (by simp [aI])))
  ·exact ru.zf l h (fun j aI=>ak j (by simp [aI]))
end
structure ns (s fX:Sys):Prop where
 len:s.tasks.length<=fX.tasks.length
 gone:∀ j,j < s.tasks.length->isLive (R s j)=false->R fX j=R s j
 body:∀ j,j < s.tasks.length->(R fX j).body=(R s j).body/\(R fX j).up=(R s j).up/\(R s j).aR<=(R fX j).aR
theorem ns.refl (s:Sys):ns s s:=⟨Nat.le_refl _,fun _ _ _=>rfl,fun _ _=>⟨rfl,rfl,Int.le_refl _⟩⟩
theorem ns.trans (a b c:Sys) (h:ns a b) (k:ns b c):ns a c:=
 ⟨Nat.le_trans h.len k.len,fun j aI ak=>by rw [k.gone j (Nat.lt_of_lt_of_le aI h.len) (by rw [h.gone j aI ak];exact ak),h.gone j aI ak],
  fun j aI=>by
  have h1:=h.body j aI;have ar:=k.body j (Nat.lt_of_lt_of_le aI h.len);exact ⟨ar.1.trans h1.1,ar.2.1.trans h1.2.1,Int.le_trans h1.2.2 ar.2.2⟩⟩
theorem ns.one (ak:s.tasks.length<=fX.tasks.length) (aa:isLive (R s i)=true) (aT:∀ j,j < s.tasks.length->j ≠ i->R fX j=R s j) (I:(R fX i).body=(R s i).body/\(R fX i).up=(R s i).up/\(R s i).aR<=(R fX i).aR):ns s fX:=
 ⟨ak,fun j aI aS=>aT j aI (fun he=>by rw [he,aa] at aS;cases aS),fun j aI=>by
  by_cases he:j=i
  ·rw [he];exact I
  ·rw [aT j aI he];exact ⟨rfl,rfl,Int.le_refl _⟩⟩
theorem ns.TL (h:k' p s i fX) (aa:i < s.tasks.length) (ak:isLive (R s i)=true):ns s fX:=
 ns.one (Nat.le_of_eq (Q3 h).symm) ak (fun j _ aI=>ZW h aI) (by obtain ⟨h1,ar,aA⟩:=Zd h aa;exact ⟨h1,ar,by omega⟩)
theorem ns.a7 (aa:i < s.tasks.length) (ak:isLive (R s i)=true) (w:Int):ns s (ib s i w):=
 ns.one (Nat.le_of_eq (ZX s i w).symm) ak (fun j _ aI=>oH aI) (by rw [vt aa];exact ⟨rfl,rfl,Int.le_refl _⟩)
where ZX (s:Sys) (i:Nat) (w:Int):(ib s i w).tasks.length=s.tasks.length:=c5 _ _ _
theorem YD (p:Prog) (N:Nat):ru p N ns where
 refl:=ns.refl
 trans:=ns.trans
 write:=fun s i h aa ak br=>ns.TL (p:=p) (Mf br) aa ak
 again:=fun s i h aa ak=>ns.one (Nat.le_of_eq m1.symm) ak (fun j _ aI=>C9 aI) (by rw [pT aa];exact ⟨rfl,rfl,Int.le_refl _⟩)
 a7:=fun s i h aa ak aq=>ns.a7 aa ak 4
theorem BB {k:Int} (h:jY s k=true):k.toNat < s.tasks.length/\(k.toNat:Int)=k/\ready s k.toNat=true:=by
 unfold jY at h;rw [Bool.and_eq_true,e0] at h;exact ⟨by omega,by omega,h.2⟩
theorem ZY (h:Inv p s N) (aa:i < s.tasks.length) (ao:ready s i=true):
  ((R s i).a7=1\/(R (step p s i) i).a7 ≠ 1->(step p s i).tasks.length=s.tasks.length)/\
  ((R s i).a7 ≠ 1->(R (step p s i) i).a7=1->step p s i=fork s i (ji p (R s i)).kids/\(R s i).aR < (lv p (R s i)).length):=by
 have hs:=Bu h aa ao;generalize Eq.step p s i=x at hs
 cases hs with
 | move aq ak J hm=>rw [Q3 hm,LQ hm aa];exact ⟨fun _=>rfl,fun _ h=>by omega⟩
 | ended=>exact ⟨fun _=>c5 _ _ _,fun _ h=>by rw [vt aa] at h;simp at h⟩
 | FC aq hs ak J=>rw [Ic aa];exact ⟨fun h=>by rcases h with h | h <;> simp_all,fun _ _=>⟨rfl,ak⟩⟩
 | FD=>exact ⟨fun _=>c5 _ _ _,fun _ h=>by rw [vt aa] at h;simp at h⟩
 | FE aq=>exact ⟨fun _=>c5 _ _ _,fun _ h=>by rw [cD aa] at h;simp at h;omega⟩
 | goes h1=>exact ⟨fun _=>c5 _ _ _,fun h=>absurd h1 h⟩
 | mR h1=>exact ⟨fun _=>(c5 _ _ _).trans Ij,fun h=>absurd h1 h⟩
theorem ZZ {aY:List Int} {j:Nat} (aI:j < aY.length) (aa:i < s.tasks.length):R (fork s i aY) (s.tasks.length+j)=g8 (cC aY j) i:=by
 unfold fork ib;rw [oH (by omega)];simp [R,aD,cC,List.getD_eq_getElem?_getD,aI]
theorem Z0 (h:Inv p s N) (aa:i < s.tasks.length) (ao:ready s i=true) (h1:(R s i).aE=1) (U:(R s i).reads.length < (R (step p s i) i).reads.length):
  ∃ d,(R s i).aR < (lv p (R s i)).length/\0<=(R s i).at_/\(R s i).at_ < (ji p (R s i)).bP.length/\mX (ji p (R s i)).bP (R s i).at_.toNat=d/\d.kind=1/\blind s i d.b=false/\0<=d.b/\d.b < s.cells.length/\0<=d.a/\d.a<=2/\
   cC (R (step p s i) i).aL d.a.toNat=(cellAt s.cells d.b.toNat).num/\(R (step p s i) i).at_=(R s i).at_+1/\(R (step p s i) i).aL.length=3:=by
 have hs:=Bu h aa ao;generalize Eq.step p s i=x at hs U ⊢;have a6:=h.task i aa;have hw:=a6.oB (by omega)
 cases hs with
 | move aq ak J hm=>
  cases hm <;> first
   | omega
   |(exfalso;simp [C0 aa,CT aa,F6 aa,cD aa,C2 aa,pT aa,F7 aa,FZ aa,C3 aa,Ge aa] at U;done)
   | skip
  rename_i d adp ha aO ml bb I;have c7:=wz h.form ⟨a6.jF,a6.jZ⟩ (k:=(R s i).aR.toNat) (by have:=a6.iv;have vW:(R s i).aR < ((bo p.an (R s i).body.toNat).length:Int):=ak;omega);have VX:=(Ii c7 J).2 (R s i).at_.toNat (by have:=a6.hE;have adq:(R s i).at_ < ((actAt (bo p.an (R s i).body.toNat) (R s i).aR.toNat).bP.length:Int):=ha;omega);have HR:ff d p.cells.length=true:=by rw [<-aO];exact VX
  unfold ff at HR;rw [if_pos ml,Bool.and_eq_true,e0,e0] at HR;have ay:=h.cells;have Xu:=a6.aL.len;refine ⟨d,ak,a6.hE,ha,aO,ml,I,HR.2.1,by omega,HR.1.1,by omega, ?_, ?_, ?_⟩
  ·rw [cD aa]
   show cC ((R s i).aL.set _ _) _=_;rw [Bw (by omega),if_pos rfl]
  ·rw [cD aa]
  ·rw [cD aa]
   show ((R s i).aL.set _ _).length=3;rw [List.length_set]
   exact Xu
 | _=>omega
end
section
variable {p:Prog} {s fX:Sys} {i:Nat} {N:Nat}
theorem Ms {f:Nat->Bool}:∀ {n:Nat},0 < lr f n ↔ ∃ k,k < n/\f k=true
 | 0=>⟨fun h=>absurd h (Nat.lt_irrefl _),fun ⟨k,J,_⟩=>absurd J (Nat.not_lt_zero _)⟩
 | n+1=>by
  unfold lr;constructor
  ·intro h
   by_cases bb:f n=true
   ·exact ⟨n,Nat.lt_succ_self _,bb⟩
   ·rw [if_neg bb] at h
    obtain ⟨k,J,Hy⟩:=Ms.1 (by omega:0 < lr f n);exact ⟨k,by omega,Hy⟩
  ·rintro ⟨k,J,Hy⟩
   by_cases r1:k=n
   ·rw [if_pos (r1 ▸ Hy)];omega
   ·have:=Ms.2 ⟨k,(by omega:k < n),Hy⟩
    omega
theorem C4 {dn:List Task} {w:Int}:0 < gu dn i w ↔ ∃ k,k < dn.length/\(aD dn k).up=i/\(aD dn k).a7=w:=by
 unfold gu;rw [Ms];simp
end
end Go.Proofs.YteajdhhmkjblnaaGreatDoor.Eq
namespace Go.Proofs.YteajdhhmkjblnaaGreatDoor.Eq
open Go.RowKit Go.Proofs.YteajdhhmkjblnaaGreatDoorW.PrintWords Go.Proofs.YteajdhhmkjblnaaGreatDoorW.PrintLast Go.Proofs.YteajdhhmkjblnaaGreatDoorW.PrintMore
def BV (p:Prog) (s:Sys) (g:Nat) (w:World):Prop:=∃ bh a8 aG aZ aP,w.heap[g]? = some (.cells #[bh,a8,aG,aZ,.int .i64 s.clock,aP] 81 (0,0))/\cN.K w p [bh,a8]/\cS.K w s [aG,aZ,.int .i64 s.clock,aP]
theorem BV.below {p:Prog} {s:Sys} {g:Nat} {w af:World} (h:BV p s g w) (I:Below w.heap.size w af):BV p s g af:=by
 obtain ⟨bh,a8,aG,aZ,aP,h1,ar,aA⟩:=h;exact ⟨bh,a8,aG,aZ,aP,fS h1 I,cN.bH I ar,cS.bH I aA⟩
theorem ba.known {w W:World} {l:eM} {g:Nat} {cs:Array Value} {t:TypeId} (h:ba w W l) (I:w.heap[g]? = some (.cells cs t (0,0))):ba w W (.dI g cs t :: l):=
 ⟨h.below,⟨fS I h.below,h.eU⟩,fun e he=>by
  rcases List.mem_cons.1 he with rfl | he
  ·exact dK I
  ·exact h.fresh e he,List.Pairwise.cons (fun e he k J=>by cases J) h.apart⟩
theorem Nk {P:Program} {ops:Array Oper} {rest:List Oper} {a:Go.Act} {Q:Exit->Go.Act->World->Prop} {W:World} {t:TypeId} {x:Operand} {N:Tmp} {ty:TypeId} {bK:String} {e2:Array Edge} {j:Nat} {b:Bool} (aW:yielded ops a.tmps j=some b)
  (h:wpList P ops Q ({dst:=some N,op:=.load t x,type:=ty,pos:=bK,after:=e2,guard:=none} :: rest) a W):wpList P ops Q ({dst:=some N,op:=.load t x,type:=ty,pos:=bK,after:=e2,guard:=some (j,b)} :: rest) a W:=by
 have hw:Region.wanted {dst:=some N,op:=.load t x,type:=ty,pos:=bK,after:=e2,guard:=some (j,b)} (yielded ops a.tmps)=true:=by rw [Gq rfl aW,beq_self_eq_true]
 unfold wpList at h ⊢;rw [if_pos (Gp rfl)] at h;rw [if_pos hw];exact h
def mw (s:Sys) (f:Task->Bool) (aY:List Int) (n:Nat):Bool:=(aY.take n).any fun x=>f (aD s.tasks x.toNat)
theorem R1 {s:Sys} {f:Task->Bool} {aY:List Int} {k:Nat} (h:k < aY.length):mw s f aY (k+1)=(mw s f aY k || f (aD s.tasks (rd aY k).toNat)):=by
 unfold mw;rw [List.take_succ_eq_append_getElem h,List.any_append];simp [rd,h]
def sr (t:Task):Bool:=decide (t.a7=3)
theorem SC (p:Prog) (s:Sys) (g:Nat) (task:Int) (w:World) (h:BV p s g w) (aS:s.tasks.length<=1048576):
  Calls Tryz.prog 102 #[.pointer (some ⟨g,0,none⟩),.int .i64 task] w fun e af=>e= .returned (.tuple #[.bool (mw s sr (kids s.tasks task) (kids s.tasks task).length),.bool (mw s isLive (kids s.tasks task) (kids s.tasks task).length)])/\Below w.heap.size w af:=by
 obtain ⟨bh,a8,aG,aZ,aP,iC,-,hs⟩:=h;have c8:=am hs;obtain ⟨cX,bL,dX,cu,cU,bO,he,-,-,-,db,-⟩:=gX hs;simp only [List.cons.injEq,and_true,true_and] at he;obtain ⟨rfl,rfl,rfl⟩:=he;have ij:=am iC;have iM:=am db;have eD:=am aS;obtain ⟨aY,mN⟩:∃ x,x=kids s.tasks task:=⟨_,rfl⟩;have lf:=am mN;have M:=am (ba.nil w);have C:=M.1.aw;replace M:=am (M.1.known iC);clear C;have C:=M.1.aw;simp only [ah] at C;clear iC hs db mN;go_enter Tryz.func102,Tryz.ntmps102
 go_wp2_with (first
 |((with_reducible refine cv ?_);refine fZ rfl rfl M.1 (fun j u aI=>Fb ij.1 aI) ?_)
 |(go_at_call 111;refine (IH s _ _ _ (cS.bH M.1.below c8.1) eD.1).mono ?_;rintro e W1 ⟨v,rfl,bp,I⟩;obtain ⟨A,c,rfl,-,uv⟩:=Kd.fG bp;have lI:=am (fb M.1.below I);have zQ:=am uv;clear bp uv;have hj:=am (M.1.step I).Bj;simp only [List.map_cons,List.map_nil,kk.bE] at hj;clear M C I;have M:=hj;clear hj;have C:=M.1.aw;simp only [ah] at C))
 rw [<-lf.1] at zQ ⊢;obtain ⟨L,fg,fh⟩:=ba.named M;go_loopw [4,5,7,15] (fun TM wH _ j af=>∃ k:Nat,k<=aY.length/\TM= .bool (mw s sr aY k)/\wH= .bool (mw s isLive aY k)/\j= .int .i64 k/\av (ba W1 af L)) (fun _ _ _ j _=>aY.length - (intOf j).toNat)
 case atStart=>exact ⟨0,Nat.zero_le _,rfl,rfl,rfl,fh⟩
 case round=>
  obtain ⟨k,J,rfl,rfl,rfl,M2⟩:=hrel;have e:=fg.1;subst e;clear M C fh fg;have M:=M2;clear M2;have C:=M.1.aw;simp only [ah] at C;obtain ⟨rO,w2⟩:∃ b,mw s sr aY k=b:=⟨_,rfl⟩;obtain ⟨iL,zI⟩:∃ b,mw s isLive aY k=b:=⟨_,rfl⟩;by_cases aJ:k < aY.length
  ·have bU:(0:Int)<=(k:Int):=by omega
   have s1:(k:Int) < (aY.length:Int):=by omega
   obtain ⟨cy,mb,az⟩:=Kd.kG zQ.1 (k:Int) bU s1;cases mb;simp only [Int.toNat_natCast] at az;obtain ⟨n,aS,-,-,-,r1⟩:=CY.1 (show rd aY (k:Int) ∈ kids s.tasks task by rw [<-lf.1];exact QZ aJ);rw [r1] at az;obtain ⟨mB,tt,gN,zu,Lb,w',CB,-⟩:=dd (Kd.bW iM.1 lI.1) dS n aS (by decide);cases zu;obtain ⟨t,a6⟩:∃ x,x=aD s.tasks n:=⟨_,rfl⟩;rw [show s.tasks.getD n dS=t from a6.symm] at w';have EE:=am w';have cJ:=am CB;obtain ⟨VH,VI,VJ,VK,VL,VM,Xp,Xq,rfl,-⟩:=gh w';have pA:=CB 4 _ rfl;simp only [show eV.bD=13 from rfl] at pA;have dq:aY.length<=1048576:=by rw [lf.1];exact Nat.le_trans (C' _ _) eD.1
   replace M:=am ((M.1.cB az).cB pA);clear C;have C:=M.1.aw;simp only [ah] at C;have kK:(0:Int)<=(n:Int):=by omega
   have hq:(n:Int) < (s.tasks.length:Int):=by omega
   have bZ:mw s sr aY (k+1)=(rO || decide (t.a7=3)):=by rw [R1 aJ,r1,Int.toNat_natCast,w2,a6];rfl
   have gf:mw s isLive aY (k+1)=(iL || isLive t):=by rw [R1 aJ,r1,Int.toNat_natCast,zI,a6]
   have ew:=am (And.intro bZ gf);obtain ⟨nt,ye⟩:∃ b,isLive t=b:=⟨_,rfl⟩;have I7:=am ye;obtain ⟨b3,dh⟩:∃ b,decide (t.a7=3)=b:=⟨_,rfl⟩;have z3:(t.a7 == 3)=b3:=by rw [<-dh];rfl
   rw [dh,ye] at ew;rw [w2,zI];clear az w' CB Lb pA r1 bZ gf ye dh w2 zI a6;cases rO <;> cases iL <;> cases b3 <;> cases nt
   all_goals
    go_wp2_with (first
    |((with_reducible refine Nk ?_ ?_);rfl;refine fZ rfl rfl M.1 cJ.1 ?_)
    |(go_at_call 45;refine hd M.1 (Gh _ _ _ (eV.bH M.1.below EE.1)) I7.1 ?_;clear M C;intro W M C;simp only [ah] at C))
    go_roundw
    case rel=>exact ⟨k+1,by omega,by rw [ew.1.1];rfl,by rw [ew.1.2];rfl,by go_num,⟨M.1.pop.pop⟩⟩
    case measure=>simp [intOf];omega
  ·obtain rfl:k=aY.length:=by omega
   have s1:¬ (aY.length:Int) < (aY.length:Int):=by omega
   rw [w2,zI];go_wp2;go_ret2;exact ⟨by rw [<-lf.1,w2,zI];first | rfl | simp,fb lI.1 M.1.below⟩
theorem aaZ {p:Prog} {s:Sys} {N:Nat} (h:Inv p s N) {k:Nat} (J:k < s.tasks.length) (h1:(R s k).a7=1) (ay:s.clock < 200):ready s k=(mw s sr (kids s.tasks k) (kids s.tasks k).length || !mw s isLive (kids s.tasks k) (kids s.tasks k).length):=by
 have hm:∀ x,x ∈ kids s.tasks k ↔ ∃ i:Nat,i < s.tasks.length/\(aD s.tasks i).up=(k:Int)/\x=(i:Int):=fun x=>by
  rw [CY];constructor
  ·rintro ⟨i,a,b,c,d,e⟩;exact ⟨i,a,c,e⟩
  ·rintro ⟨i,a,b,c⟩;exact ⟨i,a,by omega,b,by have:=(h.task i a).lV;have e:(R s i).up=(k:Int):=b;omega,c⟩
 have b1:mw s sr (kids s.tasks k) (kids s.tasks k).length=decide (0 < gu s.tasks k 3):=by
  rw [Bool.eq_iff_iff,decide_eq_true_eq,C4];unfold mw;rw [List.take_length,List.any_eq_true];constructor
  ·rintro ⟨x,az,bb⟩
   obtain ⟨i,a,b,rfl⟩:=(hm x).1 az;exact ⟨i,a,b,by simpa [sr] using bb⟩
  ·rintro ⟨i,a,b,c⟩
   exact ⟨(i:Int),(hm _).2 ⟨i,a,b,rfl⟩,by simpa [sr] using c⟩
 have eg:mw s isLive (kids s.tasks k) (kids s.tasks k).length= !decide (gu s.tasks k 0+gu s.tasks k 1=0):=by
  rw [Bool.eq_iff_iff,Bool.not_eq_true',decide_eq_false_iff_not];unfold mw;rw [List.take_length,List.any_eq_true];constructor
  ·rintro ⟨x,az,bb⟩
   obtain ⟨i,a,b,rfl⟩:=(hm x).1 az;rw [Int.toNat_natCast] at bb;simp only [isLive,Bool.or_eq_true,decide_eq_true_eq] at bb;rcases bb with bb | bb
   ·have:=(C4 (i:=k)).2 ⟨i,a,b,bb⟩;omega
   ·have:=(C4 (i:=k)).2 ⟨i,a,b,bb⟩;omega
  ·intro cm
   rcases Nat.eq_zero_or_pos (gu s.tasks k 0) with aq | aq
   ·obtain ⟨i,a,b,c⟩:=(C4 (i:=k)).1 (show 0 < gu s.tasks k 1 by omega)
    exact ⟨(i:Int),(hm _).2 ⟨i,a,b,rfl⟩,by rw [Int.toNat_natCast];simp [isLive,c]⟩
   ·obtain ⟨i,a,b,c⟩:=(C4 (i:=k)).1 aq
    exact ⟨(i:Int),(hm _).2 ⟨i,a,b,rfl⟩,by rw [Int.toNat_natCast];simp [isLive,c]⟩
 rw [b1,eg,Bool.not_not];unfold ready;simp only [];rw [if_neg (by omega),if_neg (by omega),if_pos h1]
theorem IG {N:Nat} (p:Prog) (s:Sys) (g:Nat) (task:Int) (w:World) (h:BV p s g w) (aa:Inv p s N) (aS:s.tasks.length<=1048576):
  Calls Tryz.prog 63 #[.pointer (some ⟨g,0,none⟩),.int .i64 task] w fun e af=>e= .returned (.bool (jY s task))/\Below w.heap.size w af:=by
 have VY:=am h;obtain ⟨bh,a8,aG,aZ,aP,iC,-,hs⟩:=h;obtain ⟨cX,bL,dX,cu,cU,bO,he,-,-,-,db,-⟩:=gX hs;simp only [List.cons.injEq,and_true,true_and] at he;obtain ⟨rfl,rfl,rfl⟩:=he;have iM:=am db;have eD:=am aS;have eS:=am aa;have M:=am (ba.nil w);have C:=M.1.aw;replace M:=am (M.1.known iC);clear C;have C:=M.1.aw;simp only [ah] at C;clear iC hs db aa;go_enter Tryz.func63,Tryz.ntmps63;obtain ⟨Gy,Gz⟩:∃ b,(decide (0<=task) && decide (task < (s.tasks.length:Int)))=b:=⟨_,rfl⟩;have zS:=am Gz;clear Gz;cases Gy
 ·have bX:=am (show jY s task=false by unfold jY;rw [YP.2 (by have:=zS.1;simp at this;omega)];rfl)
  go_wp2_with (first
  |(go_at_call 101;refine (lP _ _ _).mono ?_;rintro e W ⟨rfl,rfl⟩;rw [zS.1]))
  go_ret;rw [bX.1];exact ⟨rfl,M.1.below⟩
 ·have uq:0<=task/\task < (s.tasks.length:Int):=by have:=zS.1;simpa using this
  obtain ⟨k,rfl⟩:=Int.eq_ofNat_of_zero_le uq.1;have J:k < s.tasks.length:=by omega
  have oy:=am (show jY s (k:Int)=ready s k by unfold jY;rw [e0.2 (by omega)];rfl);obtain ⟨b,o,cs,rfl,bQ,au,aM,-⟩:=dd iM.1 dS k J (by decide);obtain ⟨t,a6⟩:∃ x,x=R s k:=⟨_,rfl⟩;rw [show s.tasks.getD k dS=t from a6.symm] at au;have hO:=am a6;obtain ⟨hB,d3,iZ,d8,gY,d9,gd,d10,rfl,-⟩:=gh au;have pA:=aM 4 _ rfl;have jP:=aM 5 _ rfl;have Kp:=aM 11 _ rfl;simp only [show eV.bD=13 from rfl] at pA jP Kp;replace M:=am (((M.1.cB pA).cB jP).cB Kp);clear C;have C:=M.1.aw;simp only [ah] at C;have bz:(0:Int)<=(k:Int):=by omega
  have b7:(k:Int) < (s.tasks.length:Int):=by omega
  have cT:=am J;clear bQ au aM a6 pA jP Kp uq J;by_cases ay:200<=s.clock
  ·have zT:decide (200<=s.clock)=true:=decide_eq_true ay
   have bX:=am (show jY s (k:Int)=false by rw [oy.1];unfold ready;simp only [];rw [if_pos ay])
   go_wp2_with (first
   |(go_at_call 101;refine (lP _ _ _).mono ?_;rintro e W ⟨rfl,rfl⟩;rw [zS.1]))
   go_ret;rw [bX.1];exact ⟨rfl,M.1.below⟩
  ·have zT:decide (200<=s.clock)=false:=decide_eq_false ay
   have cl:=am ay;clear ay;by_cases aq:t.a7=0
   ·have ed:(t.a7 == 0)=true:=by simp [aq]
    obtain ⟨b5,iH⟩:∃ b,(t.aE != 0)=b:=⟨_,rfl⟩;obtain ⟨wU,Dw⟩:∃ b,decide (t.bw<=s.clock)=b:=⟨_,rfl⟩;have bX:=am (show jY s (k:Int)=(b5 || wU) by rw [oy.1,<-iH,<-Dw];unfold ready;simp only [];rw [if_neg cl.1,<-hO.1,if_pos aq];congr 1);clear aq;cases b5
    all_goals
     go_wp2_with (first
     |(go_at_call 101;refine (lP _ _ _).mono ?_;rintro e W ⟨rfl,rfl⟩;rw [zS.1]))
     refine gL M.1 ?_;clear M C;intro W M;refine dx [0,1,2,3,4,5,6,7,8,9,10,11,12,13,14,15,16,17] M.1 ?_;iterate 18 (first|refine cc rfl ?_|refine ch rfl ?_|refine cj rfl ?_|refine cE rfl ?_)
     refine bN ?_;refine f' ?_;have C:=M.1.aw;simp only [ah] at C;go_wp2;go_ret;rw [bX.1];exact ⟨rfl,M.1.below⟩
   ·have ed:(t.a7 == 0)=false:=by simpa using aq
    by_cases h1:t.a7=1
    ·have cg:(t.a7 == 1)=true:=by simp [h1]
     obtain ⟨rO,w2⟩:∃ b,mw s sr (kids s.tasks k) (kids s.tasks k).length=b:=⟨_,rfl⟩;obtain ⟨nt,ye⟩:∃ b,mw s isLive (kids s.tasks k) (kids s.tasks k).length=b:=⟨_,rfl⟩;have DJ:=am w2;have I7:=am ye;have bX:=am (show jY s (k:Int)=(rO || !nt) by rw [oy.1,aaZ eS.1 cT.1 (by rw [<-hO.1];exact h1) (by have:=cl.1;omega),w2,ye]);clear aq h1 w2 ye;cases rO <;> cases nt
     all_goals
      go_wp2_with (first
      |(go_at_call 101;refine (lP _ _ _).mono ?_;rintro e W ⟨rfl,rfl⟩;rw [zS.1])
      |(go_at_call 102;refine (SC p s g _ _ (VY.1.below M.1.below) eD.1).mono ?_;rintro e W ⟨rfl,I⟩;rw [DJ.1,I7.1];replace M:=am (M.1.step I);clear C;have C:=M.1.aw;simp only [ah] at C;clear I))
      go_ret;rw [bX.1];exact ⟨rfl,M.1.below⟩
    ·have cg:(t.a7 == 1)=false:=by simpa using h1
     have bX:=am (show jY s (k:Int)=false by rw [oy.1];unfold ready;simp only [];rw [if_neg cl.1,<-hO.1,if_neg aq,if_neg h1]);clear aq h1
     go_wp2_with (first
     |(go_at_call 101;refine (lP _ _ _).mono ?_;rintro e W ⟨rfl,rfl⟩;rw [zS.1]))
     go_ret;rw [bX.1];exact ⟨rfl,M.1.below⟩
theorem ba.Xv {α:Type} {d:Kd α} {e:Nat} {ok:Nat->Prop} {v v1:Value} {xs cH:List α} {w W W1:World} {l:eM} (M:ba w W (.r ok (oQ d e w.heap.size ok v xs) :: l)) (U:W.grownBy W1 v.ownBlock) (ao:d.aC e W1 w.heap.size (fun k=>ok k\/W.heap.size<=k) v1 cH):
  ∃ ok',ba w W1 (.r ok' (oQ d e w.heap.size ok' v1 cH) :: l):=
 ⟨fun k=>(ok k\/W.heap.size<=k)/\k < W1.heap.size,M.lK U (fun k J=>(M.so:d.aC e W w.heap.size ok v xs).1 k J) (fun k J=>J) (fun V rG hs J dB=>Kd.eI dB (fun k h1 ar=>J k h1 ar)) (Kd.cG (Kd.fW ao) (fun k J=>⟨J.1,J.2.2.1⟩))⟩
def Rj (s:Sys):List Int:=lO (fun i=>ready s i) s.tasks.length
def qp (p:Prog) (s:Sys):List Int:=if jh p s then Rj s else []
theorem X5 (w:World):(binOp .eql 69 .nilIface .nilIface).run Tryz.prog w= .ok (.bool true) w:=by
 have h:∀ d:Nat,(Op.equalIn (d+1) 69 .nilIface .nilIface).run Tryz.prog w= .ok true w:=fun d=>by simp [Op.equalIn,run_underlying Tryz.underlying69]
 simp only [binOp];simp [Op.equal,Op.maxDepth,h 9999]
theorem X6 (Nl:TypeId) (v:Value) (w:World):(binOp .eql 69 (.iface Nl v) .nilIface).run Tryz.prog w= .ok (.bool false) w:=by
 have h:∀ d:Nat,(Op.equalIn (d+1) 69 (.iface Nl v) .nilIface).run Tryz.prog w= .ok false w:=fun d=>by simp [Op.equalIn,run_underlying Tryz.underlying69]
 simp only [binOp];simp [Op.equal,Op.maxDepth,h 9999]
theorem acd (p:Prog) (bK:List Value) (s:Sys) (c6:List Value) (w:World) (aB:cN.K w p bK) (hs:cS.K w s c6) (iz:jI p) (cP:oC s):
  Calls Tryz.prog 36 #[.agg bK.toArray,.agg c6.toArray] w fun e af=>∃ v,e= .returned v/\(Kd.int .i64).aC 3 af w.heap.size (fun _=>True) v (qp p s)/\Below w.heap.size w af:=by
 have cR:=am aB;have c8:=am hs;obtain ⟨ek,ey,g0,er,rfl,-⟩:=jk aB;obtain ⟨cX,bL,dX,cu,cU,bO,rfl,-⟩:=gX hs;have ea:=am iz;have cK:=am cP;obtain ⟨ok,yj⟩:∃ b,jh p s=b:=⟨_,rfl⟩;have jr:=am yj;have M:=am (ba.nil w);have C:=M.1.aw;clear aB hs iz cP yj;go_enter Tryz.func36,Tryz.ntmps36;cases ok
 ·have bX:=am (show qp p s= [] by unfold qp;rw [jr.1];rfl)
  go_wp2_with (first
  |((first|with_reducible refine gB ?_ | with_reducible refine gA ?_);refine cx rfl M.1 ?_;clear M C;intro g W M C;simp only [ah] at C)
  |((with_reducible refine aQ 8 ?_);refine Kd.jX (w0:=_) (Kd.int .i64) _ 3 rfl (N:=8) rfl (xs:=([]:List Int)) (inner:= []) (ok:=fun _=>True) (okp:=fun _=>True) (by go_simp<;>rfl) (cp.none _ _) (fun _ J=>J) trivial (Below.refl _ _) (Nat.le_refl _) (by simp) ?_;intro v0 W1 ao I U _;obtain ⟨A,c,rfl⟩:=Kd.bt ao;replace M:=am (M.1.made (BD U) ao);clear C;have C:=M.1.aw;simp only [ah] at C;clear ao I U)
  |((with_reducible refine cv ?_);refine dV rfl rfl M.1 ?_)
  |(go_at_call 25;refine hd M.1 (zl p _ s _ _ (cN.bH M.1.below cR.1) (cS.bH M.1.below c8.1) ea.1 cK.1) jr.1 ?_;clear M C;intro W M C;simp only [ah] at C))
  go_ret;rw [bX.1];exact ⟨_,rfl,Kd.cG M.1.so (fun _ _=>trivial),M.1.below⟩
 ·have bX:=am (show qp p s=lO (fun i=>ready s i) s.tasks.length by unfold qp Rj;rw [jr.1];rfl)
  go_wp2_with (first
  |((first|with_reducible refine gB ?_ | with_reducible refine gA ?_);refine cx rfl M.1 ?_;clear M C;intro g W M C;simp only [ah] at C)
  |((with_reducible refine aQ 8 ?_);refine Kd.jX (w0:=_) (Kd.int .i64) _ 3 rfl (N:=8) rfl (xs:=([]:List Int)) (inner:= []) (ok:=fun _=>True) (okp:=fun _=>True) (by go_simp<;>rfl) (cp.none _ _) (fun _ J=>J) trivial (Below.refl _ _) (Nat.le_refl _) (by simp) ?_;intro v0 W1 ao I U _;obtain ⟨A,c,rfl⟩:=Kd.bt ao;replace M:=am (M.1.made (BD U) ao);clear C;have C:=M.1.aw;simp only [ah] at C;clear ao I U)
  |((with_reducible refine cv ?_);refine dV rfl rfl M.1 ?_)
  |(go_at_call 25;refine hd M.1 (zl p _ s _ _ (cN.bH M.1.below cR.1) (cS.bH M.1.below c8.1) ea.1 cK.1) jr.1 ?_;clear M C;intro W M C;simp only [ah] at C))
  have hj:=am (M.1.perm (List.Perm.swap _ _ _));obtain ⟨L,fg,fh⟩:=ba.H2 hj;clear hj;go_loopw [5,7] (fun v j af=>∃ (k:Nat) (ok:Nat->Prop),k<=s.tasks.length/\j= .int .i64 k/\av (ba w af (.r ok (oQ (Kd.int .i64) 3 w.heap.size ok v (lO (fun i=>ready s i) k)) :: L))) (fun _ j _=>s.tasks.length - (intOf j).toNat)
  case atStart=>exact ⟨0,_,Nat.zero_le _,rfl,fh⟩
  case round=>
   obtain ⟨k,ok,J,rfl,M2⟩:=hrel;have e:=fg.1;subst e;clear M C fh fg;have M:=M2;clear M2;have C:=M.1.aw;simp only [ah] at C;have hlen:=C' (fun i=>ready s i) k;by_cases aJ:k < s.tasks.length
   ·have bz:(0:Int)<=(k:Int):=by omega
    have b7:(k:Int) < (s.tasks.length:Int):=by omega
    have bY:=cK.1.tasks;obtain ⟨b,GJ⟩:∃ b,(fun i=>ready s i) k=b:=⟨_,rfl⟩;have vM:=am GJ;clear GJ;cases b
    ·go_wp2_with (first
     |(go_at_call 58;refine (IC k _ ⟨M.1.eU.at_ (by repeat (first|exact .here | exact .kept | apply gF.there)),(cN.bH M.1.below cR.1),(cS.bH M.1.below c8.1)⟩ aJ cK.1.tasks).mono ?_;rintro e W ⟨rfl,I⟩;rw [show ready s k=_ from vM.1];replace M:=am (M.1.step I);clear C;have C:=M.1.aw;simp only [ah] at C;clear I))
     go_roundw
     case rel=>exact ⟨k+1,ok,by omega,by go_num,⟨by rw [F' vM.1];exact M.1⟩⟩
     case measure=>simp [intOf];omega
    ·go_wp2_with (first
     |(go_at_call 58;refine (IC k _ ⟨M.1.eU.at_ (by repeat (first|exact .here | exact .kept | apply gF.there)),(cN.bH M.1.below cR.1),(cS.bH M.1.below c8.1)⟩ aJ cK.1.tasks).mono ?_;rintro e W ⟨rfl,I⟩;rw [show ready s k=_ from vM.1];replace M:=am (M.1.step I);clear C;have C:=M.1.aw;simp only [ah] at C;clear I)
     |((with_reducible refine jJ (b:=.append) (xs:=#[.tmp 28,.tmp 30]) rfl ?_);at_builtin;refine Kd.mY (Kd.int .i64) (w0:=w) w.heap.size rfl (.tmp 28) (.tmp 30) 23 3 (.int .i64 0) 8 rfl Tryz.underlying23 od rfl (by decide) (by omega) _ (lO (fun i=>ready s i) k) (k:Int) [.int .i64 (k:Int)] (fun q=>ok q\/W.heap.size<=q) (fun _=>False) rfl rfl rfl (fun _ J=>J.elim) (fun q aF=> .inr aF) (Kd.cG M.1.so (fun q aF=> .inl aF)) M.1.below M.1.below.size (by omega) ?_;intro v1 W1 bp I U _;obtain ⟨VZ,rL⟩:=M.1.Xv U bp;replace M:=am (rL);clear C;have C:=M.1.aw;simp only [ah] at C;clear rL bp I U))
     go_roundw
     case rel=>exact ⟨k+1,VZ,by omega,by go_num,⟨by rw [Iw vM.1];exact M.1⟩⟩
     case measure=>simp [intOf];omega
   ·obtain rfl:k=s.tasks.length:=by omega
    have b7:¬ (s.tasks.length:Int) < (s.tasks.length:Int):=by omega
    go_wp2;go_ret;exact ⟨_,rfl,by rw [bX.1];exact Kd.cG M.1.so (fun _ _=>trivial),M.1.below⟩
section
variable {P:Program} {ops:Array Oper} {o:Oper} {a:Go.Act} {Q:Exit->Go.Act->World->Prop} {S:World->Prop} {W:World} {l:eM} {n:Nat} {ds:List Nat}
def qX (P:Program) (ops:Array Oper) (Q:Exit->Go.Act->World->Prop) (S:World->Prop) (ds:List Nat) (n:Nat) (is:List Nat) (a:Go.Act) (W:World):Prop:=
 fM P .any ops Q S ds (n - is.length) (lu (Array.replicate n false) is) a W
theorem rP {id:Nat} (S:World->Prop) (ds:List Nat) (dm:S W.drew) (h:S W.drew->qX P ops Q S ds n [] a W.drew) (hm:P.follows .mixedOrders=true:=by kernel_rfl) (aS:ops.size=n:=by rfl):(Code.region id ops true).wp P Q a W:=
 HY (S:=S) (ds:=ds) _ hm aS rfl dm h
theorem vN {dQ:List Nat} (is:List Nat) (l:eM) (bQ:∀ V,S V->ah V l) (dm:S W) (h:jx P ops (fun V=>ah V l) is (fun a'=>qX P ops Q S ds n (dQ ++ is) a' W) a)
  (ay:(xM .any ops ds (lu (Array.replicate n false) dQ) is && (n - dQ.length == n - (dQ ++ is).length+is.length))=true:=by kernel_rfl)
  (mC:∀ N v c a w,Q (.panic c) (Go.Act.put a N v) w->Q (.panic c) a w:=by (intro N _ _ _ _ h;cases N <;> exact h)):qX P ops Q S ds n dQ a W:=by
 simp only [Bool.and_eq_true,beq_iff_eq] at ay;unfold qX;rw [ay.2];refine F3 (S:=S) mC dm is _ a ay.1 rfl ?_
 have key:∀ (is:List Nat) (K j3:Go.Act->Prop) (a:Go.Act),(∀ a,K a->j3 a)->jx P ops (fun V=>ah V l) is K a->jx P ops S is j3 a:=by
  intro is
  induction is with
  | nil=>exact fun K j3 a J h=>J _ h
  | cons i is fI=>
   rintro K j3 a J ⟨c2,v,h1,ar,aA⟩;exact ⟨c2,v,h1,ar.imp (fun h=>⟨h.1,fun V dB=>h.2 V (bQ V dB)⟩) id,fI _ _ _ J aA⟩
 exact key _ _ _ _ (fun a' h=>by unfold qX at h;rw [tp] at h;exact h) h
theorem nT {A D:Prop} (h1:A) (ar:D):A/\D:=⟨h1,ar⟩
theorem nU {dQ:List Nat} (i:Nat) {N:Option Tmp} {op:Op} {ty:TypeId} {bK:String} {e2:Array Edge} {cQ:Option (Nat × Bool)} (aa:ops[i]? = some {dst:=N,op:=op,type:=ty,pos:=bK,after:=e2,guard:=cQ}) (h:wpList P ops (y4 Q (fun a' bM=>S bM/\qX P ops Q S ds n (dQ ++ [i]) a' bM)) [{dst:=N,op:=op,type:=ty,pos:=bK,after:=e2,guard:=cQ}] a W)
  (ay:((Region.ready .any ops (lu (Array.replicate n false) dQ) == [i]) && (n - dQ.length == n - (dQ ++ [i]).length+1))=true:=by kernel_rfl):qX P ops Q S ds n dQ a W:=by
 simp only [Bool.and_eq_true,beq_iff_eq] at ay;unfold qX;rw [ay.2];refine ⟨fun aq=>(by rw [ay.1] at aq;cases aq),fun j aI=> ?_⟩;rw [ay.1] at aI;obtain rfl:j=i:=by simpa using aI
 refine wpOp_mono ?_ (CX aa h);rintro a' bM ⟨hm,aO⟩;refine ⟨fun _ _=>hm, ?_⟩;unfold qX at aO;rw [tp] at aO;exact aO
theorem qY {dQ:List Nat} (i:Nat) {N:Option Tmp} {op:Op} {ty:TypeId} {bK:String} {e2:Array Edge} {cQ:Option (Nat × Bool)} (aa:ops[i]? = some {dst:=N,op:=op,type:=ty,pos:=bK,after:=e2,guard:=cQ}) (h:wpList P ops (y4 Q (fun a' bM=>qX P ops Q S ds n (dQ ++ [i]) a' bM)) [{dst:=N,op:=op,type:=ty,pos:=bK,after:=e2,guard:=cQ}] a W)
  (ay:((Region.ready .any ops (lu (Array.replicate n false) dQ) == [i]) && (n - dQ.length == n - (dQ ++ [i]).length+1) && ds.contains i)=true:=by kernel_rfl):qX P ops Q S ds n dQ a W:=by
 simp only [Bool.and_eq_true,beq_iff_eq,List.contains_iff_mem] at ay;unfold qX;rw [ay.1.2];refine ⟨fun aq=>(by rw [ay.1.1] at aq;cases aq),fun j aI=> ?_⟩;rw [ay.1.1] at aI;obtain rfl:j=i:=by simpa using aI
 refine wpOp_mono ?_ (CX aa h);intro a' bM aO;refine ⟨fun aS=>absurd ay.2 aS, ?_⟩;unfold qX at aO;rw [tp] at aO;exact aO
theorem zU {dQ:List Nat} (h:Q .normal a W) (ao:(Region.ready .any ops (lu (Array.replicate n false) dQ) == [])=true:=by kernel_rfl):qX P ops Q S ds n dQ a W:=xH ao h
end
end Go.Proofs.YteajdhhmkjblnaaGreatDoor.Eq








namespace Go.Proofs.YteajdhhmkjblnaaGreatDoor.Eq
open Go.RowKit Go.Proofs.YteajdhhmkjblnaaGreatDoorW.PrintWords Go.Proofs.YteajdhhmkjblnaaGreatDoorW.PrintLast Go.Proofs.YteajdhhmkjblnaaGreatDoorW.PrintMore
section
variable {w W W1:World} {l l':eM}
inductive pB:eM->kk->eM->Prop
 | here {e l}:pB (e :: l) e l
 | there {b e l l'}:pB l e l'->pB (b :: l) e (b :: l')
theorem pB.perm {e:kk}:∀ {l l':eM},pB l e l'->l.Perm (e :: l')
 | _,_,.here=>List.Perm.refl _
 | _,_,.there h=>((pB.perm h).cons _).trans (List.Perm.swap _ _ _)
theorem ba.front {e:kk} (M:ba w W l) (h:pB l e l'):ba w W (e :: l'):=M.perm h.perm
theorem ba.Kq {xs:List Int} {c hC:Nat} {ok:Nat->Prop} (M:ba w W l) (A:Option Addr) (n:Nat) (h:Has l (oQ (Kd.int .i64) 3 hC ok (.slice A n c) xs):=by repeat (first|exact .here | exact .kept | apply Has.there)):(Kd.int .i64).C W A n xs:=
 by
  have gw:=(Kd.ie (M.so h)).2.2;have ak:=(Kd.ie (M.so h)).1;first | exact gw|(rw [ak];exact gw)|(rw [<-ak];exact gw)
end
theorem aaw (A:Option Addr) (c:Nat) (l:List Int) (w:World) (gw:(Kd.int .u8).C w A l.length l) (ay:l.length<=c) (I:∀ i:Nat,0<=l.getD i 0/\l.getD i 0<=255):
  Calls Tryz.prog 38 #[.slice A l.length c] w fun e af=>∃ g b,e= .returned (.pointer (some ⟨g,0,none⟩))/\(∀ w0:World,w0.heap.size<=w.heap.size->(Kd.int .u8).C w0 A l.length l->Rd.IsS101 w0 af g b 0)/\Rd.Code b/\Below w.heap.size w af:=by
 have cl:=am gw;have fJ:=am I;go_enter Tryz.func38,Tryz.ntmps38;by_cases h:(l.length:Int) > 2000
 ·have ed:decide (2000 < (l.length:Int))=true:=decide_eq_true h
  have cg:decide (2000 < l.length)=true:=decide_eq_true (by omega);obtain ⟨i0,lh,_,cP,_⟩:=info_parts Y3;obtain ⟨hcut,jo,V0⟩:=abQ (P:=Tryz.prog) (Value.int .u8) 0 22 5 .i64 Tryz.underlying22 lh cP A c l 2000 (by omega) (by omega) ay;have cb:=am (fun (w0:World) (aq:(Kd.int .u8).C w0 A l.length l)=>Kd.By (h1:=fun _=>rfl) (jo _ (Kd.R5 aq)))
  have iq:(2000<=(l.length:Int))=True:=eq_true (by omega);clear jo V0 lh cP I h gw
  go_wp2_with (first
  |((with_reducible refine aQ 10 ?_);refine Ip rfl (N:=10) rfl (cs:=(#[.slice A (l.take 2000).length c,.int .i64 0])) (t:=91) (by go_simp<;>rfl) ?_;intro gb e5 wn ad EF;have dN:=am ad;have ab:=am EF;have GE:=am (Nat.le_of_eq e5.symm);clear ad e5 EF))
  go_ret;refine ⟨gb,_,rfl,fun w0 aq h1=>⟨_,_,dN.1,Nat.le_trans aq GE.1,cb.1 w0 h1⟩,⟨fun i=> ?_,by rw [List.length_take];omega⟩,ab.1⟩;by_cases aa:i < 2000
  ·rw [show (l.take 2000).getD i 0=l.getD i 0 by simp [List.getD_eq_getElem?_getD,List.getElem?_take,aa]]
   exact fJ.1 i
  ·rw [show (l.take 2000).getD i 0=0 by simp [List.getD_eq_getElem?_getD,List.getElem?_take,aa]]
   omega
 ·have ed:decide (2000 < (l.length:Int))=false:=decide_eq_false h
  have cg:decide (2000 < l.length)=false:=decide_eq_false (by omega);have V1:=am (show l.length<=2000 by omega);clear gw I h
  go_wp2_with (first
  |((with_reducible refine aQ 10 ?_);refine Ip rfl (N:=10) rfl (cs:=(#[.slice A l.length c,.int .i64 0])) (t:=91) (by go_simp<;>rfl) ?_;intro gb e5 wn ad EF;have dN:=am ad;have ab:=am EF;have GE:=am (Nat.le_of_eq e5.symm);clear ad e5 EF))
  go_ret;exact ⟨gb,l,rfl,fun w0 aq h1=>⟨_,_,dN.1,Nat.le_trans aq GE.1,h1⟩,⟨fJ.1,V1.1⟩,ab.1⟩
section
variable {w W W1:World} {l l':eM} {g:Nat} {cs gN:Array Value} {t:TypeId}
theorem ba.box (M:ba w W l) (I:Below W.heap.size W W1) (U:W.heap.size<=g) (ay:W1.heap[g]? = some (.cells cs t (0,0))):ba w W1 (.b g cs t :: l):=
 ⟨fb M.below I,⟨ay,M.eU.below I⟩,fun e he=>by
  rcases List.mem_cons.1 he with rfl | he
  ·exact Nat.le_trans M.below.size U
  ·exact M.fresh e he,List.Pairwise.cons (fun e he k J iI=>by have h1:k=g:=J;have:=M.eU.lt e he iI;omega) M.apart⟩
theorem aa0 (M:ba w W l) (J:ic W W1 g none) (I:Below w.heap.size w W1):W.grownBy W1 (some g):=
 ⟨I.os.trans M.below.os.symm,I.tape.trans M.below.tape.symm,I.output.trans M.below.output.symm,J.1,fun k ml cm=>J.2 k ml (fun he=>cm (by rw [he])) (by simp)⟩
theorem ba.FM (M:ba w W l) (J:ic W W1 g none) (I:Below w.heap.size w W1) (ay:W1.heap[g]? = some (.cells gN t (0,0))) (iQ:lX l g cs gN t l':=by repeat (first|exact .here | apply lX.there)):ba w W1 l':=M.xb (aa0 M J I) ay iQ
theorem ba.beside {F:World->Prop} (M:ba w W l) (J:ic W W1 g none) (I:Below w.heap.size w W1) (ay:W1.heap[g]? = some (.cells gN t (0,0))) (hs:xC (n3 W.heap.size W1.heap.size) F) (hF:F W1) (iQ:lX l g cs gN t l':=by repeat (first|exact .here | apply lX.there)):ba w W1 (.r (n3 W.heap.size W1.heap.size) F :: l'):=by
 have hj:=M.FM J I ay iQ;refine ⟨hj.below,⟨⟨fun k h=>h.2,hs,hF⟩,hj.eU⟩,fun e he=> ?_,List.Pairwise.cons (fun e he k h1 ar=> ?_) hj.apart⟩
 ·rcases List.mem_cons.1 he with rfl | he
  ·exact fun k h=>Nat.le_trans M.below.size h.1
  ·exact hj.fresh e he
 ·obtain ⟨m2,aA,bR,-⟩:=iQ.mem (w:=w) e he
  have:=M.eU.lt m2 aA (bR k ar)
  have:W.heap.size<=k:=h1.1
  omega
end
def nB (B N:Nat) (p:Prog) (s:Sys) (ju c6:List Value) (V:World):Prop:=∀ rG:World,V.heap.size<=rG.heap.size->(∀ k,n3 B N k->k < V.heap.size->rG.heap[k]? = V.heap[k]?)->cN.K rG p ju/\cS.K rG s c6
theorem Z1 {B N:Nat} {p:Prog} {s:Sys} {ju c6:List Value}:xC (n3 B N) (nB B N p s ju c6):=fun V rG hs J h Gt ar iI=>h Gt (Nat.le_trans hs ar) (fun k ao ak=>(iI k ao (Nat.lt_of_lt_of_le ak hs)).trans (J k ao ak))
theorem nB.now {B N:Nat} {p:Prog} {s:Sys} {ju c6:List Value} {V:World} (h:nB B N p s ju c6 V):cN.K V p ju/\cS.K V s c6:=h V (Nat.le_refl _) (fun _ _ _=>rfl)
theorem Zg {W W1:World} {g:Nat} {p:Prog} {s:Sys} {aG a8:Value} {c6:List Value} (ay:(Kd.int .i64).aC 3 W1 W.heap.size (fun _=>True) aG p.cells) (I:(Kd.slice 55 kAct).aC 48 W1 W.heap.size (fun _=>True) a8 p.an) (hs:HP W.heap.size W1.heap.size g s c6 W1):nB W.heap.size W1.heap.size p s [aG,a8] c6 W1:=by
 intro V h1 ar;have cu:=Kd.eI (Kd.cG (ok':=n3 W.heap.size W1.heap.size) (Kd.fW ay) (fun k J=>⟨J.2.1,J.2.2.1⟩)) ar;have kx:=Kd.eI (Kd.cG (ok':=n3 W.heap.size W1.heap.size) (Kd.fW I) (fun k J=>⟨J.2.1,J.2.2.1⟩)) ar;obtain ⟨cX,ep,rfl,g9,fz⟩:=Kd.fG cu;obtain ⟨dX,aU,rfl,fU,db⟩:=Kd.fG kx;exact ⟨F4 p g9 fz fU db,hs.read V h1 (fun k aA bR _=>ar k ⟨aA,bR⟩ bR)⟩
theorem YE {V:World} {cy:Addr} {xs:List Int} {x:Nat} (h:(Kd.int .i64).C V (some cy) xs.length xs) (az:x < xs.length):V.cell? (cy.add x)=some (.int .i64 (rd xs x)):=by
 obtain ⟨a,e,g⟩:=Kd.kG h (x:Int) (by omega) (by omega);cases e;simpa using g
def Z2 (w:World) (e:Ending) (af:World):Prop:=∃ p s ju c6,∃ k:Int,e= .returned (.tuple #[.agg ju.toArray,.agg c6.toArray,.int .i64 k])/\cN.K af p ju/\jI p/\cS.K af s c6/\oC s/\s.log.length+s.tasks.length<=1000/\1<=s.tasks.length/\Below w.heap.size w af
theorem Db (A:Option Addr) (c:Nat) (l:List Int) (w:World) (gw:(Kd.int .u8).C w A l.length l) (ay:l.length<=c) (I:∀ i:Nat,0<=l.getD i 0/\l.getD i 0<=255):
  Calls Tryz.prog 27 #[.slice A l.length c] w fun e af=>Z2 w e af:=by
 have cl:=am gw;have dq:=am ay;have fJ:=am I;have M:=am (ba.nil w);have C:=M.1.aw;clear gw ay I;go_enter Tryz.func27,Tryz.ntmps27
 go_wp2_with (first
 |((first|with_reducible refine gB ?_ | with_reducible refine gA ?_);refine cx rfl M.1 ?_;clear M C;intro g W M C;simp only [ah] at C)
 |((with_reducible refine cv ?_);refine dV rfl rfl M.1 ?_)
 |((with_reducible refine da ?_);refine dv rfl rfl rfl M.1 ?_;clear M C;intro W M C;simp only [ah] at C)
 |(go_at_call 38;refine (aaw A c l _ (Kd.bW (w:=w) cl.1 M.1.below) dq.1 fJ.1).mono ?_;rintro e W1 ⟨g,gJ,rfl,aa,O8,O9⟩;have BS:=am M.1.below.size;obtain ⟨ev,dp,fO,lW,jD⟩:=aa w M.1.below.size cl.1;have qg:=am lW;have qh:=am jD;have oy:=am O8;have t':=(aa _ (Nat.le_refl _) (Kd.bW (w:=w) cl.1 M.1.below)).choose_spec.choose_spec.2.1;replace M:=am (M.1.box O9 t' fO);clear C;have C:=M.1.aw;simp only [ah] at C;clear aa O8 O9 fO lW jD t')
 |(go_at_call 39;refine (abH w _ g gJ 0 ⟨_,_,M.1.eU.at_ (by repeat (first|exact .here | exact .kept | apply gF.there)),qg.1,qh.1⟩ M.1.below oy.1 (by decide) (by decide)).mono ?_;rintro e W1 ⟨p,s,aG,a8,c6,q,rfl,-,iz,r5,r6,hs,cP,nC,mj,aO,O',yr⟩;have Qf:=Zg r5 r6 hs;obtain ⟨ek,ey,c'⟩:=Kd.bt r5;subst c';obtain ⟨g0,er,c'⟩:=Kd.bt r6;subst c';obtain ⟨cX,bL,dX,cu,cU,bO,rfl,-⟩:=gX hs.now;obtain ⟨adr,ads,fO,lW,jD⟩:=aO.rd;have ea:=am iz;have cK:=am cP;have iJ:=am nC;have lZ:=am mj;have cd:=am (show 0<=q/\q<=8000 from ⟨O',by omega⟩);clear qg qh;have qg:=am lW;have qh:=am jD;replace M:=am (M.1.beside aO.lo aO.below fO Z1 Qf);clear C;have C:=M.1.aw;simp only [ah] at C;clear Qf r5 r6 hs iz cP nC mj O' yr aO fO lW jD)
 |(go_at_call 36;refine (acd p _ s _ _ (nB.now (M.1.get (F:=nB _ _ p s _ _))).1 (nB.now (M.1.get (F:=nB _ _ p s _ _))).2 ea.1 cK.1).mono ?_;rintro e W1 ⟨v,rfl,bp,I⟩;obtain ⟨TN,GK,rfl⟩:=Kd.bt bp;replace M:=am (M.1.made I bp);clear C;have C:=M.1.aw;simp only [ah] at C;clear bp I))
 ·have hlen:0 < (qp p s).length:=by assumption
  go_wp2_with (first
  |(go_at_call 40;refine (ig (ee.start ⟨_,_,M.1.eU.at_ (by repeat (first|exact .here | exact .kept | apply gF.there)),qg.1,qh.1⟩ M.1.below cd.1.1) oy.1 (by have:=cd.1;omega) 8).mono ?_;rintro e W1 ⟨x,bY,rfl,-,fk,aO,J⟩;obtain ⟨Kr,Ks,fO,lW,jD⟩:=aO.rd;replace cd:=am (show 0<=bY/\bY<=8001 from by have:=cd.1;omega);clear qg qh fk;have qg:=am lW;have qh:=am jD;replace M:=am (M.1.FM J aO.below fO);clear C;have C:=M.1.aw;simp only [ah] at C;clear aO J fO lW jD))
  ·have yk:=am (((M.1.front (e:=.b _ _ 91) (by repeat (first|exact .here | apply pB.there))).front (e:=.b _ #[.slice none 0 0,.slice none 0 0,.int .i64 0,.slice none 0 0] 31) (by repeat (first|exact .here | apply pB.there))).front (e:=.b _ #[.slice none 0 0,.slice none 0 0] 26) (by repeat (first|exact .here | apply pB.there)))
   clear M C;have M:=yk;clear yk;refine rP (fun V=>ba w V _) [] M.1.drew.pop.pop.pop (fun _=> ?_);replace M:=am M.1.drew;refine vN [0,1,2,3,4,5] _ (fun V dB=>dB.aw) M.1.pop.pop.pop ?_;refine sE rfl rfl ?_;refine sE rfl rfl ?_;iterate 4 (first|refine cc rfl ?_|refine ch rfl ?_|refine cj rfl ?_|refine cE rfl ?_)
   refine bN ?_;have C:=M.1.aw;simp only [ah] at C;refine nU 6 rfl ?_
   go_wp2_with (first
   |(go_at_call 40;refine (ig (ee.start ⟨_,_,M.1.eU.at_ (by repeat (first|exact .here | exact .kept | apply gF.there)),qg.1,qh.1⟩ M.1.below cd.1.1) oy.1 (by have:=cd.1;omega) _).mono ?_;rintro e W1 ⟨x,bY,rfl,az,fk,aO,J⟩;obtain ⟨Kr,Ks,fO,lW,jD⟩:=aO.rd;replace cd:=am (show 0<=bY/\bY<=8002 from by have:=cd.1;omega);clear qg qh fk;have qg:=am lW;have qh:=am jD;replace M:=am (M.1.FM J aO.below fO);clear C;have C:=M.1.aw;simp only [ah] at C;clear aO J fO lW jD))
   have V2:x < (qp p s).length:=by rcases az with az | az <;> omega
   have bY:(0:Int)<=(x:Int):=by omega
   have l5:(x:Int) < ((qp p s).length:Int):=by omega
   obtain ⟨cy,mb,-⟩:=Kd.kG (M.1.Kq TN _) (x:Int) bY l5;cases mb;clear az;refine nT M.1.pop.pop.pop ?_;(try refine gG ?_);refine vN [7,8] [.f (cy.add x) (.int .i64 (rd (qp p s) x))] (fun V dB=>⟨YE (dB.Kq (some cy) _) V2,trivial⟩) M.1.pop.pop.pop ?_;iterate 2 (first|refine cc rfl ?_|refine ch rfl ?_|refine cj rfl ?_|refine cE rfl ?_)
   refine bN ?_;refine nU 9 rfl ?_
   go_wp2_with (first
   |((with_reducible refine da ?_);refine dv rfl rfl rfl M.1 ?_;clear M C;intro W M C;simp only [ah] at C))
   refine nT M.1.pop.pop.pop ?_
   try refine gG ?_
   refine nU 10 rfl ?_
   go_wp2_with (first
   |((with_reducible refine da ?_);refine dv rfl rfl rfl M.1 ?_;clear M C;intro W M C;simp only [ah] at C))
   refine nT M.1.pop.pop.pop ?_
   try refine gG ?_
   refine nU 11 rfl ?_
   go_wp2_with (first
   |((with_reducible refine da ?_);refine dv rfl rfl rfl M.1 ?_;clear M C;intro W M C;simp only [ah] at C))
   refine nT M.1.pop.pop.pop ?_
   try refine gG ?_
   refine zU ?_
   go_wp2_with (first
    | fail)
   refine bodyPost_ret (x3 (rs:= [.cell 2 26,.cell 3 31,.tmp 4]) Tryz.results27 (by simp) (.cell _ _ _ (0,0) _ rfl (M.1.eU.at_ (by repeat (first|exact .here | exact .kept | apply gF.there))) Tryz.underlying26 rfl (by kernel_rfl) (.cell _ _ _ (0,0) _ rfl (M.1.eU.at_ (by repeat (first|exact .here | exact .kept | apply gF.there))) Tryz.underlying31 rfl (by kernel_rfl) (.tmp .nil)))) rfl ?_;exact ⟨p,s,_,_,_,rfl,(nB.now (M.1.get (F:=nB _ _ p s _ _))).1,ea.1,(nB.now (M.1.get (F:=nB _ _ p s _ _))).2,cK.1,iJ.1,lZ.1,M.1.below⟩
  ·have yk:=am (((M.1.front (e:=.b _ _ 91) (by repeat (first|exact .here | apply pB.there))).front (e:=.b _ #[.slice none 0 0,.slice none 0 0,.int .i64 0,.slice none 0 0] 31) (by repeat (first|exact .here | apply pB.there))).front (e:=.b _ #[.slice none 0 0,.slice none 0 0] 26) (by repeat (first|exact .here | apply pB.there)))
   clear M C;have M:=yk;clear yk;refine rP (fun V=>ba w V _) [] M.1.drew.pop.pop.pop (fun _=> ?_);replace M:=am M.1.drew;refine vN [0,1,2,3,4,5,6] _ (fun V dB=>dB.aw) M.1.pop.pop.pop ?_;refine sE rfl rfl ?_;refine sE rfl rfl ?_;iterate 5 (first|refine cc rfl ?_|refine ch rfl ?_|refine cj rfl ?_|refine cE rfl ?_)
   refine bN ?_;have C:=M.1.aw;simp only [ah] at C;refine nU 7 rfl ?_
   go_wp2_with (first
   |(go_at_call 40;refine (ig (ee.start ⟨_,_,M.1.eU.at_ (by repeat (first|exact .here | exact .kept | apply gF.there)),qg.1,qh.1⟩ M.1.below cd.1.1) oy.1 (by have:=cd.1;omega) _).mono ?_;rintro e W1 ⟨x,bY,rfl,az,fk,aO,J⟩;obtain ⟨Kr,Ks,fO,lW,jD⟩:=aO.rd;replace cd:=am (show 0<=bY/\bY<=8002 from by have:=cd.1;omega);clear qg qh fk;have qg:=am lW;have qh:=am jD;replace M:=am (M.1.FM J aO.below fO);clear C;have C:=M.1.aw;simp only [ah] at C;clear aO J fO lW jD))
   refine nT M.1.pop.pop.pop ?_
   try refine gG ?_
   refine vN [8] _ (fun V dB=>dB.aw) M.1.pop.pop.pop ?_;iterate 1 (first|refine cc rfl ?_|refine ch rfl ?_|refine cj rfl ?_|refine cE rfl ?_)
   refine bN ?_;refine nU 9 rfl ?_
   go_wp2_with (first
   |((with_reducible refine da ?_);refine dv rfl rfl rfl M.1 ?_;clear M C;intro W M C;simp only [ah] at C))
   refine nT M.1.pop.pop.pop ?_
   try refine gG ?_
   refine nU 10 rfl ?_
   go_wp2_with (first
   |((with_reducible refine da ?_);refine dv rfl rfl rfl M.1 ?_;clear M C;intro W M C;simp only [ah] at C))
   refine nT M.1.pop.pop.pop ?_
   try refine gG ?_
   refine nU 11 rfl ?_
   go_wp2_with (first
   |((with_reducible refine da ?_);refine dv rfl rfl rfl M.1 ?_;clear M C;intro W M C;simp only [ah] at C))
   refine nT M.1.pop.pop.pop ?_
   try refine gG ?_
   refine zU ?_
   go_wp2_with (first
    | fail)
   refine bodyPost_ret (x3 (rs:= [.cell 2 26,.cell 3 31,.tmp 4]) Tryz.results27 (by simp) (.cell _ _ _ (0,0) _ rfl (M.1.eU.at_ (by repeat (first|exact .here | exact .kept | apply gF.there))) Tryz.underlying26 rfl (by kernel_rfl) (.cell _ _ _ (0,0) _ rfl (M.1.eU.at_ (by repeat (first|exact .here | exact .kept | apply gF.there))) Tryz.underlying31 rfl (by kernel_rfl) (.tmp .nil)))) rfl ?_;exact ⟨p,s,_,_,_,rfl,(nB.now (M.1.get (F:=nB _ _ p s _ _))).1,ea.1,(nB.now (M.1.get (F:=nB _ _ p s _ _))).2,cK.1,iJ.1,lZ.1,M.1.below⟩
 ·have yk:=am (((M.1.front (e:=.b _ _ 91) (by repeat (first|exact .here | apply pB.there))).front (e:=.b _ #[.slice none 0 0,.slice none 0 0,.int .i64 0,.slice none 0 0] 31) (by repeat (first|exact .here | apply pB.there))).front (e:=.b _ #[.slice none 0 0,.slice none 0 0] 26) (by repeat (first|exact .here | apply pB.there)))
  clear M C;have M:=yk;clear yk;refine rP (fun V=>ba w V _) [] M.1.drew.pop.pop.pop (fun _=> ?_);replace M:=am M.1.drew;refine vN [0,1,2,3,4,5,6] _ (fun V dB=>dB.aw) M.1.pop.pop.pop ?_;refine sE rfl rfl ?_;refine sE rfl rfl ?_;iterate 5 (first|refine cc rfl ?_|refine ch rfl ?_|refine cj rfl ?_|refine cE rfl ?_)
  refine bN ?_;have C:=M.1.aw;simp only [ah] at C;refine nU 7 rfl ?_
  go_wp2_with (first
  |(go_at_call 40;refine (ig (ee.start ⟨_,_,M.1.eU.at_ (by repeat (first|exact .here | exact .kept | apply gF.there)),qg.1,qh.1⟩ M.1.below cd.1.1) oy.1 (by have:=cd.1;omega) _).mono ?_;rintro e W1 ⟨x,bY,rfl,az,fk,aO,J⟩;obtain ⟨Kr,Ks,fO,lW,jD⟩:=aO.rd;replace cd:=am (show 0<=bY/\bY<=8002 from by have:=cd.1;omega);clear qg qh fk;have qg:=am lW;have qh:=am jD;replace M:=am (M.1.FM J aO.below fO);clear C;have C:=M.1.aw;simp only [ah] at C;clear aO J fO lW jD))
  refine nT M.1.pop.pop.pop ?_
  try refine gG ?_
  refine vN [8] _ (fun V dB=>dB.aw) M.1.pop.pop.pop ?_;iterate 1 (first|refine cc rfl ?_|refine ch rfl ?_|refine cj rfl ?_|refine cE rfl ?_)
  refine bN ?_;refine nU 9 rfl ?_
  go_wp2_with (first
  |((with_reducible refine da ?_);refine dv rfl rfl rfl M.1 ?_;clear M C;intro W M C;simp only [ah] at C))
  refine nT M.1.pop.pop.pop ?_
  try refine gG ?_
  refine nU 10 rfl ?_
  go_wp2_with (first
  |((with_reducible refine da ?_);refine dv rfl rfl rfl M.1 ?_;clear M C;intro W M C;simp only [ah] at C))
  refine nT M.1.pop.pop.pop ?_
  try refine gG ?_
  refine nU 11 rfl ?_
  go_wp2_with (first
  |((with_reducible refine da ?_);refine dv rfl rfl rfl M.1 ?_;clear M C;intro W M C;simp only [ah] at C))
  refine nT M.1.pop.pop.pop ?_
  try refine gG ?_
  refine zU ?_
  go_wp2_with (first
   | fail)
  refine bodyPost_ret (x3 (rs:= [.cell 2 26,.cell 3 31,.tmp 4]) Tryz.results27 (by simp) (.cell _ _ _ (0,0) _ rfl (M.1.eU.at_ (by repeat (first|exact .here | exact .kept | apply gF.there))) Tryz.underlying26 rfl (by kernel_rfl) (.cell _ _ _ (0,0) _ rfl (M.1.eU.at_ (by repeat (first|exact .here | exact .kept | apply gF.there))) Tryz.underlying31 rfl (by kernel_rfl) (.tmp .nil)))) rfl ?_;exact ⟨p,s,_,_,_,rfl,(nB.now (M.1.get (F:=nB _ _ p s _ _))).1,ea.1,(nB.now (M.1.get (F:=nB _ _ p s _ _))).2,cK.1,iJ.1,lZ.1,M.1.below⟩
section
variable {w0:World} {g:Nat} {own:Nat->Nat} {bh a8:Value} {p:Prog} {s:Sys} {aG aZ aP:Value}
theorem BG (b n cap i:Nat) (st:Int) (w:World) (h:bI 81 w0 g own bh a8 p s aG (.slice (some ⟨b,0,none⟩) n cap) aP w) (aa:i < s.tasks.length):
  Calls Tryz.prog 114 #[.pointer (some ⟨b,i*13,none⟩),.int .i64 st] w fun e af=>e= .returned (.tuple #[])/\bI 81 w0 g own bh a8 p (k4 s i st) aG (.slice (some ⟨b,0,none⟩) n cap) aP af/\Fr w.heap.size own own w af:=by
 obtain ⟨v3,bC,v9,v10,aM,bb,_⟩:=h.fe aa;have H:=am h;have YS:=aM 5 _ rfl;have YT:=bb 5;have WY:=aM 6 _ rfl;have WZ:=bb 6;clear h aM bb;go_enter Tryz.func114,Tryz.ntmps114;go_wp2;refine fv ?_;obtain ⟨aU,a1⟩:=H.1.setInt aa 5 (by decide) st {R s i with aE:=st} (fun _ _ _ _=>rfl) ⟨rfl,rfl,rfl,rfl⟩;obtain ⟨dz,g'⟩:=aU.setInt (i:=i) (by rw [c5];exact aa) 6 (by decide) 0 {R s i with aE:=st,at_:=0} (fun _ _ _ _=>by rw [cD aa];rfl) (by rw [cD aa];exact ⟨rfl,rfl,rfl,rfl⟩);rw [set_set] at dz;exact ⟨rfl,dz,a1.trans g'⟩
theorem abm (i:Nat) (w:World) (h:bI 81 w0 g own bh a8 p s aG aZ aP w) (aa:i < s.tasks.length) (aS:s.tasks.length<=1048576) (iu:0<=s.clock) (qa:s.clock<=1048576):
  Calls Tryz.prog 80 #[.pointer (some ⟨g,0,none⟩),.int .i64 i] w fun e af=>e= .returned (.tuple #[])/\bI 81 w0 g own bh a8 p (time s i) aG aZ aP af/\Fr w.heap.size own own w af:=by
 obtain ⟨b,cap,rfl,cY,jb⟩:=h.iV (by omega);obtain ⟨v3,bC,v9,v10,aM,bb,_⟩:=h.fe aa;have aN:=bf h.bB;have Pb:=iX h.bB 4;obtain ⟨aU,f1⟩:=h.Rs (B:=w.heap.size) (s.clock+1);obtain ⟨a1,f2⟩:=aU.setInt (B:=w.heap.size) aa 11 (by decide) (s.clock+1) {R s i with bw:=s.clock+1} (fun _ _ _ _=>rfl) ⟨rfl,rfl,rfl,rfl⟩;have K:=am (And.intro a1 (f1.trans f2));obtain ⟨cX,bL,rfl⟩:=h.kI;obtain ⟨cU,bO,rfl⟩:=h.hV;have aec:=aM 11 _ rfl;have aed:=bb 11;clear h aM bb cY aU f1 a1 f2;go_enter Tryz.func80,Tryz.ntmps80;have bz:(0:Int)<=(i:Int):=by omega
 have b7:(i:Int) < (s.tasks.length:Int):=by omega
 go_wp2_with (go_at_call 114;refine (BG b _ _ i 4 _ K.1.1 (by rw [c5];exact aa)).mono ?_;rintro e b' ⟨rfl,dz,f3⟩)
 refine fv ?_;refine ⟨rfl, ?_,K.1.2.trans ?_⟩
 ·have b1:k4 (b0 {s with clock:=s.clock+1} i {R s i with bw:=s.clock+1}) i 4=time s i:=by
   unfold k4 time;rw [cD (s:={s with clock:=s.clock+1}) aa,set_set];rfl
  rw [<-b1];exact dz
 ·exact f3.less (K.1.2.size)
theorem abK (i:Nat) (w:World) (h:bI 81 w0 g own bh a8 p s aG aZ aP w) (aa:i < s.tasks.length) (aS:s.tasks.length<=1048576) (ao:(R s i).aL.length<=1048576) (ox:s.log.length<=1073741824):
  Calls Tryz.prog 77 #[.pointer (some ⟨g,0,none⟩),.int .i64 i] w fun e af=>e= .returned (.tuple #[])/\∃ own',bI 81 w0 g own' bh a8 p (wm s i) aG aZ aP af/\Fr w.heap.size own own' w af:=by
 obtain ⟨b,cap,rfl,cY,jb⟩:=h.iV (by omega);obtain ⟨v3,bC,v9,v10,aM,bb,h5⟩:=h.fe aa;obtain ⟨u3,u8,u9,u10,he,hN,-,-,-⟩:=hA h5;simp only [eK,List.cons.injEq,true_and] at he;obtain ⟨rfl,rfl,rfl,rfl,-⟩:=he;obtain ⟨Pc,xu,rfl⟩:=Kd.bt hN;have aN:=bf h.bB;obtain ⟨aU,f1⟩:=h.setInt (B:=w.heap.size) aa 7 (by decide) s.clock {R s i with since:=s.clock} (fun _ _ _ _=>rfl) ⟨rfl,rfl,rfl,rfl⟩;have cw:i < (b0 s i {R s i with since:=s.clock}).tasks.length:=by rw [c5];exact aa
 have K:=am (And.intro aU f1);have Pd:=am cw;obtain ⟨v3,adt,adu,adT,Ld,xh,Le⟩:=aU.fe cw;rw [cD aa] at Ld Le;obtain ⟨u3,u8,u9,u10,he,l5,-,-,-⟩:=hA Le;simp only [eK,List.cons.injEq,true_and] at he;obtain ⟨rfl,rfl,rfl,rfl,-⟩:=he;have eL:=Ld 3 _ rfl;have Pe:=aM 3 _ rfl
 have V3:v3= .slice Pc (R s i).aL.length xu:=by
  have h1:(w.setCell ⟨b,i*13+7,none⟩ (.int .i64 s.clock)).cell? ⟨b,i*13+3,none⟩=w.cell? ⟨b,i*13+3,none⟩:=by
   rw [World.cell?_setCell_other];intro c0;have:=congrArg Addr.off c0;simp at this
  rw [h1,Pe] at eL;exact (Option.some.inj eL).symm
 subst V3;have lz:=am (Kd.ie l5).2.2;obtain ⟨cX,bL,rfl⟩:=h.kI;obtain ⟨cU,bO,rfl⟩:=h.hV;have Zh:=aM 7 _ rfl;have Zi:=bb 7;clear h aM bb cY aU f1 hN l5 Ld xh h5 Le eL cw;go_enter Tryz.func77,Tryz.ntmps77;have bz:(0:Int)<=(i:Int):=by omega
 have b7:(i:Int) < (s.tasks.length:Int):=by omega
 go_wp2_with fail
 refine (II Pc xu (R s i).aL _ lz.1 ao).mono ?_;rintro e dY ⟨v,rfl,bp,I⟩;obtain ⟨gy,e1,rfl⟩:=Kd.bt bp;have cP:(w.setCell ⟨b,i*13+7,none⟩ (.int .i64 s.clock)).heap.size=w.heap.size:=by simp [World.setCell]
 have px:=K.1.1.grow I;have bA:=K.1.2.trans (Fr.below (own:=own) (B:=w.heap.size) (by rw [<-cP];exact I));have uc:=Kd.ft (Kd.cG (Kd.fW bp) (ok':=fun k=>own k=0/\w.heap.size<=k) (fun k J=>⟨K.1.1.dk k J.2.1,by rw [<-cP];exact J.2.1⟩)) K.1.1.below.size
 obtain ⟨eE,sD,b9,yH,en,vZ,-⟩:=px.fe Pd.1;rw [cD aa] at en;have Ep:=bf px.bB;have fy:=en 8 _ rfl;have adv:=en 12 _ rfl;have adw:=en 11 _ rfl;have og:=vZ 8;have V4:=vZ 12;have Kt:=vZ 11;obtain ⟨c1,dz,f3,-⟩:=px.YR (B:=w.heap.size) Pd.1 uc;rw [cD aa,set_set] at dz;obtain ⟨g',f4⟩:=dz.setInt (B:=w.heap.size) (i:=i) (by rw [c5];exact aa) 12 (by decide) s.log.length {R s i with since:=s.clock,bE:=(R s i).aL,from_:=s.log.length} (fun _ _ _ _=>by rw [cD aa];rfl) (by rw [cD aa];exact ⟨rfl,rfl,rfl,rfl⟩);rw [set_set] at g';obtain ⟨il,f5⟩:=g'.setInt (B:=w.heap.size) (i:=i) (by rw [c5];exact aa) 11 (by decide) 0 {R s i with since:=s.clock,bE:=(R s i).aL,from_:=s.log.length,bw:=0} (fun _ _ _ _=>by rw [cD aa];rfl) (by rw [cD aa];exact ⟨rfl,rfl,rfl,rfl⟩);rw [set_set] at il;have ki:=am (And.intro il (((bA.trans f3).trans f4).trans f5));clear K aN bp I px bA uc en vZ dz f3 g' f4 il f5 Zh Zi Pe cP;go_wp2_with (go_at_call 114;refine (BG b _ _ i 1 _ ki.1.1 (by rw [c5];exact aa)).mono ?_;rintro e b' ⟨rfl,mg,f6⟩)
 refine fv ?_;refine ⟨rfl,c1, ?_,ki.1.2.trans (f6.less ki.1.2.size)⟩;unfold k4 at mg;rw [set_set,cD aa] at mg;exact mg
end
section
variable {w0:World} {g:Nat} {own:Nat->Nat} {bh a8:Value} {p:Prog} {s:Sys} {aG aZ aP:Value}
theorem MK (i:Nat) (cell:Int) (w:World) (h:bI 81 w0 g own bh a8 p s aG aZ aP w) (aa:i < s.tasks.length) (aS:s.tasks.length<=1048576) (hm:s.cells.length<=1048576) (aq:0<=cell) (h1:cell < s.cells.length) (eN: -1<=(cellAt s.cells cell.toNat).lock):
  Calls Tryz.prog 119 #[.pointer (some ⟨g,0,none⟩),.int .i64 i,.int .i64 cell] w fun e af=>e= .returned (.bool (blind s i cell))/\Below w.heap.size w af:=by
 obtain ⟨k,rfl⟩:=Int.eq_ofNat_of_zero_le aq;obtain ⟨b,cap,rfl,cY,jb⟩:=h.iV (by omega);obtain ⟨v3,bC,v9,v10,aM,bb,-⟩:=h.fe aa;obtain ⟨gZ,K0,rfl,gf,AV⟩:=h.tg (by omega);have J:k < s.cells.length:=by omega
 obtain ⟨bQ,_⟩:=h.cell J;obtain ⟨cU,bO,rfl⟩:=h.hV;have aN:=bf h.bB;have cu:=bQ 1 _ rfl;have kx:=bQ 2 _ rfl;have LZ:=aM 7 _ rfl;have bz:(0:Int)<=(i:Int):=by omega
 have b7:(i:Int) < (s.tasks.length:Int):=by omega
 have bY:(0:Int)<=(k:Int):=by omega
 have l5:(k:Int) < (s.cells.length:Int):=by omega
 have Us:=dK h.bB;have Ut:=World.block_lt_of_cell? _ _ LZ;have Uu:=World.block_lt_of_cell? _ _ cu;have cb:blind s i (k:Int)=((decide (0<=(cellAt s.cells k).lock) && !decide ((cellAt s.cells k).lock=i)) || decide ((R s i).since < (cellAt s.cells k).time)):=rfl;rw [cb];rw [Int.toNat_natCast] at eN;clear cb h aM bb bQ cY gf;generalize DW:(cellAt s.cells k).time=IK at*;generalize sS:(cellAt s.cells k).lock=qL at*;generalize DX:(R s i).since=qM at*;by_cases ak:0<=qL
 ·have z0:(qL != -1)=true:=by simp;omega
  have dq:=am ak;by_cases he:qL=(i:Int)
  ·have cg:(qL != (i:Int))=false:=by simp [he]
   have bS:=am he;clear he ak;go_enter Tryz.func119,Tryz.ntmps119;go_wp2;go_quiet (fail);go_wp2;go_ret;exact ⟨hg (by rw [decide_eq_true dq.1,decide_eq_true bS.1];simp),(by repeat (first|with_reducible exact Below.refl _ _ | with_reducible refine ei ?_ | with_reducible refine iY ?_ _ | with_reducible refine mz ?_ _ | with_reducible refine jj ?_ ?_ | omega))⟩
  ·have cg:(qL != (i:Int))=true:=by simp [he]
   have bS:=am he;clear he ak;go_enter Tryz.func119,Tryz.ntmps119;go_wp2;go_quiet (fail);go_wp2;go_ret;exact ⟨hg (by rw [decide_eq_true dq.1,decide_eq_false bS.1];simp),(by repeat (first|with_reducible exact Below.refl _ _ | with_reducible refine ei ?_ | with_reducible refine iY ?_ _ | with_reducible refine mz ?_ _ | with_reducible refine jj ?_ ?_ | omega))⟩
 ·have z0:(qL != -1)=false:=by simp;omega
  have dq:=am ak;clear ak;go_enter Tryz.func119,Tryz.ntmps119;go_wp2;go_quiet (fail);go_wp2;go_ret;exact ⟨hg (by rw [decide_eq_false (show ¬ 0<=qL by have:=dq.1;omega)];simp),(by repeat (first|with_reducible exact Below.refl _ _ | with_reducible refine ei ?_ | with_reducible refine iY ?_ _ | with_reducible refine mz ?_ _ | with_reducible refine jj ?_ ?_ | omega))⟩
end
section
variable {w0:World} {g:Nat} {own:Nat->Nat} {bh a8:Value} {p:Prog} {s:Sys} {aG aZ aP:Value}
theorem Gs (i:Nat) (w:World) (h:bI 81 w0 g own bh a8 p s aG aZ aP w) (aa:i < s.tasks.length) (aS:s.tasks.length<=1048576) (hm:s.cells.length<=1048576) (aT:(R s i).bE.length<=1048576):
  Calls Tryz.prog 118 #[.pointer (some ⟨g,0,none⟩),.int .i64 i] w fun e af=>e= .returned (.tuple #[])/\∃ own',bI 81 w0 g own' bh a8 p (again s i) aG aZ aP af/\Fr w.heap.size own own' w af:=by
 obtain ⟨cX,bL,rfl⟩:=h.kI;obtain ⟨dX,cu,rfl⟩:=h.FI;obtain ⟨cU,bO,rfl⟩:=h.hV;have H:=am h;have aN:=bf h.bB;clear h;go_enter Tryz.func118,Tryz.ntmps118;go_wp2;go_loopw [4,12] (fun _ j af=>∃ k:Nat,k<=s.cells.length/\j= .int .i64 k/\av (bI 81 w0 g own bh a8 p (si s i k) (.slice cX s.cells.length bL) (.slice dX s.tasks.length cu) (.slice cU s.log.length bO) af)/\av (Fr w.heap.size own own w af)) (fun _ j _=>s.cells.length - (intOf j).toNat)
 case atStart=>exact ⟨0,Nat.zero_le _,rfl,⟨by rw [R6];exact H.1⟩,⟨Fr.refl _ _ _⟩⟩
 case round=>
  clear H aN;obtain ⟨k,J,rfl,H,e3⟩:=hrel;have aN:=bf H.1.bB;by_cases aJ:k < s.cells.length
  ·obtain ⟨b,cap,he,gf,jb⟩:=H.1.tg (by rw [zh];omega)
   injection he with dC kP ub;subst dC;subst ub;clear kP;have cF:=am gf;obtain ⟨aM,bb⟩:=H.1.cell (i:=k) (by rw [zh];exact aJ);rw [CV aJ] at aM;have Yn:=aM 2 _ rfl;have Yo:=bb 2;clear aM bb gf;have bz:(0:Int)<=(k:Int):=by omega
   have b7:(k:Int) < (s.cells.length:Int):=by omega
   have eD:=am (R7 (i:=i) aJ);by_cases ak:(cellAt s.cells k).lock=(i:Int)
   ·have ed:((cellAt s.cells k).lock == (i:Int))=true:=by simp [ak]
    have dq:=am ak;clear ak;go_wp2;go_roundw
    case rel=>
     obtain ⟨aU,a1⟩:=H.1.AU (B:=wr.heap.size) (i:=k) (by rw [zh];exact aJ) (seg:= [.int .i64 (-1)]) (j:=2) (x':={cellAt s.cells k with lock:= -1}) (by decide) (by rw [CV aJ];rfl);rw [<-if_pos (c:=(cellAt s.cells k).lock=(i:Int)) (t:={cellAt s.cells k with lock:= -1}) (e:=cellAt s.cells k) dq.1,<-eD.1] at aU;exact ⟨k+1,by omega,by go_num,⟨aU⟩,⟨e3.1.trans (Fr.set (.inr (by rw [cF.1];decide)) _ _)⟩⟩
    case measure=>simp [intOf];omega
   ·have ed:((cellAt s.cells k).lock == (i:Int))=false:=by simp [ak]
    have dq:=am ak;clear ak;go_wp2;go_roundw
    case rel=>exact ⟨k+1,by omega,by go_num,⟨by rw [eD.1,if_neg dq.1,<-CV (i:=i) aJ,SL (by rw [zh];exact aJ)];exact H.1⟩,e3⟩
    case measure=>simp [intOf];omega
  ·obtain rfl:k=s.cells.length:=by omega
   have TO:¬ (s.cells.length:Int) < (s.cells.length:Int):=by omega
   have h:=H.1;rw [RN] at h;have GS:(R (free s i) i).bE.length<=1048576:=aT;have cw:i < (free s i).tasks.length:=aa;obtain ⟨b,cap,he,cY,jb⟩:=h.iV (by omega);injection he with dC kP ub;subst dC;subst ub;clear kP;obtain ⟨v3,bC,v9,v10,aM,bb,h5⟩:=h.fe cw;obtain ⟨u3,u8,u9,u10,he,-,vL,-,-⟩:=hA h5;simp only [eK,List.cons.injEq,true_and] at he;obtain ⟨rfl,rfl,rfl,rfl,-⟩:=he;obtain ⟨gy,e1,rfl⟩:=Kd.bt vL;have IY:=am (Kd.ie vL).2.2;have fy:=aM 8 _ rfl;have K:=am (And.intro h e3.1);clear h H e3 aM bb h5 vL cY;have bz:(0:Int)<=(i:Int):=by omega
   have b7:(i:Int) < (s.tasks.length:Int):=by omega
   go_wp2_with fail
   refine (II gy e1 (R (free s i) i).bE _ IY.1 GS).mono ?_;rintro e dY ⟨v,rfl,bp,I⟩;obtain ⟨ev,dp,rfl⟩:=Kd.bt bp;obtain ⟨s1,dR⟩:∃ s1,free s i=s1:=⟨_,rfl⟩;have qd:=am dR;rw [dR] at K cw bp ⊢;have cP:=K.1.2.size;have px:=K.1.1.grow I;have bA:=K.1.2.trans (Fr.less (Fr.below (own:=own) I) cP);have uc:=Kd.ft (Kd.cG (Kd.fW bp) (ok':=fun k=>own k=0/\w.heap.size<=k) (fun k J=>⟨K.1.1.dk k J.2.1,Nat.le_trans cP J.2.1⟩)) K.1.1.below.size
   obtain ⟨eE,sD,b9,yH,en,vZ,-⟩:=px.fe cw;have Ep:=bf px.bB;have eL:=en 3 _ rfl;have dO:=en 9 _ rfl;have gI:=en 10 _ rfl;have V5:=en 11 _ rfl;have gz:=vZ 3;have h0:=vZ 9;have ko:=vZ 10;have Kt:=vZ 11;obtain ⟨c1,dz,f3,iF⟩:=px.Rt (B:=w.heap.size) cw uc;have lj:∀ t:Task,i < (b0 s1 i t).tasks.length:=fun t=>by rw [c5];exact cw
   obtain ⟨j9,g',f4,-⟩:=dz.Ir (B:=w.heap.size) (lj _) (v:=.slice none 0 0) (xs:= []) (Kd.ht _ _ _ _ _);rw [cD cw,set_set] at g';obtain ⟨Xw,il,f5,-⟩:=g'.Ig (B:=w.heap.size) (lj _) (v:=.slice none 0 0) (xs:= []) (Kd.ht _ _ _ _ _);rw [cD cw,set_set] at il;obtain ⟨mg,f6⟩:=il.setInt (B:=w.heap.size) (i:=i) (lj _) 11 (by decide) 0 {R s1 i with aL:=(R s1 i).bE,reads:= [],ai:= [],bw:=0} (fun _ _ _ _=>by rw [cD cw];rfl) (by rw [cD cw];exact ⟨rfl,rfl,rfl,rfl⟩);rw [set_set] at mg;have w3:=am (And.intro mg ((((bA.trans f3).trans f4).trans f5).trans f6));clear K aN bp I px bA uc en vZ dz f3 iF g' f4 il f5 mg f6 fy cP dR;go_wp2_with fail
   refine (BG b _ _ i 0 _ w3.1.1 (lj _)).mono ?_;rintro e b' ⟨rfl,hr,f7⟩;go_wp2;refine fv ?_;refine ⟨rfl,Xw, ?_,w3.1.2.trans (f7.less w3.1.2.size)⟩;unfold k4 at hr;rw [set_set,cD cw] at hr;unfold again;rw [qd.1];exact hr
end
section
variable {w0:World} {g:Nat} {own:Nat->Nat} {bh a8:Value} {p:Prog} {s:Sys} {aG aZ aP:Value}
theorem abL (i:Nat) (w:World) (h:bI 81 w0 g own bh a8 p s aG aZ aP w) (aa:i < s.tasks.length) (aS:s.tasks.length<=1048576) (hm:s.cells.length<=1048576) (aT:(R s i).bE.length<=1048576) (ao:(R s i).reads.length<=1048576) (ha:0<=(R s i).at_) (nV:(R s i).at_<=(R s i).reads.length) (aB:∀ k,k < (R s i).reads.length->0<=(putAt (R s i).reads k).cell/\(putAt (R s i).reads k).cell < s.cells.length) (eN:∀ k,k < s.cells.length-> -1<=(cellAt s.cells k).lock):
  Calls Tryz.prog 81 #[.pointer (some ⟨g,0,none⟩),.int .i64 i] w fun e af=>e= .returned (.tuple #[])/\∃ own',bI 81 w0 g own' bh a8 p (check s i) aG aZ aP af/\Fr w.heap.size own own' w af:=by
 obtain ⟨b,cap,rfl,cY,jb⟩:=h.iV (by omega);obtain ⟨cX,bL,rfl⟩:=h.kI;obtain ⟨cW,aw,rfl⟩:=h.hV;obtain ⟨v3,bC,v9,v10,aM,bb,h5⟩:=h.fe aa;obtain ⟨u3,u8,u9,u10,he,-,-,me,-⟩:=hA h5;simp only [eK,List.cons.injEq,true_and] at he;obtain ⟨rfl,rfl,rfl,rfl,-⟩:=he;obtain ⟨ev,dp,rfl⟩:=Kd.bt me;have jy:=am (Kd.ie me).2.2;have H:=am h;have e3:=am (bb 6);have kd:=am aB;have iS:=am eN;obtain ⟨bx,gO⟩:=Int.eq_ofNat_of_zero_le ha;have bz:(0:Int)<=(i:Int):=by omega
 have b7:(i:Int) < (s.tasks.length:Int):=by omega
 have M:=am ((((ba.nil w).known h.bB).cB (aM 9 _ rfl)).cB (aM 6 _ rfl));have C:=M.1.aw;simp only [ah] at C;clear h aM bb h5 me cY aB eN;go_enter Tryz.func81,Tryz.ntmps81;rw [gO] at M C ha nV;have js:=am gO;clear gO
 go_wp2_with (first
  | fail)
 by_cases aJ:bx < (R s i).reads.length
 ·have ed:((bx:Int) == ((R s i).reads.length:Int))=false:=by simp;omega
  refine gL M.1 ?_;clear M C;intro W M;refine dx [0,1,2,3,4,5,6,7,8,9,10] M.1 ?_;iterate 11 (first|refine cc rfl ?_|refine ch rfl ?_|refine cj rfl ?_|refine cE rfl ?_)
  refine bN ?_;refine f' ?_;have C:=M.1.aw;simp only [ah] at C;obtain ⟨eW,oh,sT,dO,-,hk,-,mP⟩:=dd jy.1 gU bx aJ (by decide);cases dO;have qP:=mZ hk;subst qP;have oo:=mP _ rfl;simp only [show cn.bD=2 from rfl] at oo;have U:(R s i).reads.getD bx gU=putAt (R s i).reads bx:=rfl;rw [U] at oo;obtain ⟨lD,pD⟩:=kd.1 bx aJ;obtain ⟨x,az⟩:∃ x,putAt (R s i).reads bx=x:=⟨_,rfl⟩;rw [az] at oo lD pD;have ew:=am az;replace M:=am (M.1.cB oo);clear C;have C:=M.1.aw;simp only [ah] at C;have bU:(0:Int)<=(bx:Int):=by omega
  have s1:(bx:Int) < ((R s i).reads.length:Int):=by omega
  obtain ⟨nt,fP⟩:∃ nt,blind s i x.cell=nt:=⟨_,rfl⟩;have jt:=am fP;clear hk mP oo az U fP
  go_wp2_with (first
   | fail)
  refine gL M.1 ?_;clear M C;intro W M;refine dx [0,1,2,3,4,5,6,7,8,9,10,11,12] M.1 ?_;iterate 13 (first|refine cc rfl ?_|refine ch rfl ?_|refine cj rfl ?_|refine cE rfl ?_)
  refine bN ?_;refine jn 13 rfl ?_;refine hd M.1 (MK i x.cell _ (H.1.grow M.1.below) aa aS hm lD pD (iS.1 _ (by omega))) jt.1 ?_;intro W M C;refine ⟨_,rfl,M,hb ?_⟩;refine dx [14] M.1 ?_;iterate 1 (first|refine cc rfl ?_|refine ch rfl ?_|refine cj rfl ?_|refine cE rfl ?_)
  refine bN ?_;refine f' ?_;clear C;have C:=M.1.aw;simp only [ah] at C;have H1:=am (H.1.grow M.1.below);cases nt
  ·obtain ⟨-,-,-,-,-,xh,-⟩:=H1.1.fe aa
   have tM:=xh 6;clear xh;go_wp2;refine fv ?_;obtain ⟨hr,f7⟩:=H1.1.setInt (B:=w.heap.size) aa 6 (by decide) ((bx:Int)+1) {R s i with at_:=(bx:Int)+1} (fun _ _ _ _=>rfl) ⟨rfl,rfl,rfl,rfl⟩;refine ⟨rfl,own, ?_,(Fr.below M.1.below).trans f7⟩
   have oV:check s i=b0 s i {R s i with at_:=(bx:Int)+1}:=by
    unfold check;rw [if_neg (by have:=js.1;omega),show (R s i).at_.toNat=bx by have:=js.1;omega,ew.1,jt.1,if_neg (by decide)];simp only [js.1]
   rw [oV];exact hr
  ·go_wp2_with (go_at_call 118;refine (Gs i _ H1.1 aa aS hm aT).mono ?_;rintro e b' ⟨rfl,c1,hr,f7⟩)
   refine fv ?_;refine ⟨rfl,c1, ?_,(Fr.below M.1.below).trans (f7.less M.1.below.size)⟩
   have oV:check s i=again s i:=by
    unfold check;rw [if_neg (by have:=js.1;omega),show (R s i).at_.toNat=bx by have:=js.1;omega,ew.1,jt.1];rfl
   rw [oV];exact hr
 ·have ed:((bx:Int) == ((R s i).reads.length:Int))=true:=by simp;omega
  refine gL M.1 ?_;clear M C;intro W M;refine dx [0,1,2,3,4,5,6,7,8,9,10] M.1 ?_;iterate 11 (first|refine cc rfl ?_|refine ch rfl ?_|refine cj rfl ?_|refine cE rfl ?_)
  refine bN ?_;refine f' ?_;have C:=M.1.aw;simp only [ah] at C;have H1:=am (H.1.grow M.1.below);go_wp2_with (go_at_call 114;refine (BG b _ _ i 5 _ H1.1 aa).mono ?_;rintro e b' ⟨rfl,hr,f7⟩)
  refine fv ?_;refine ⟨rfl,own, ?_,(Fr.below M.1.below).trans (f7.less M.1.below.size)⟩
  have oV:check s i=k4 s i 5:=by
   unfold check;rw [if_pos (by have:=js.1;omega)]
  rw [oV];exact hr
end
section
variable {w0:World} {g:Nat} {own:Nat->Nat} {bh a8:Value} {p:Prog} {s:Sys} {aG aZ aP:Value}
theorem abn (i:Nat) (w:World) (h:bI 81 w0 g own bh a8 p s aG aZ aP w) (aa:i < s.tasks.length) (aS:s.tasks.length<=1048576) (hm:s.cells.length<=1048576) (aT:(R s i).bE.length<=1048576) (ao:(R s i).ai.length<=1048576) (ha:0<=(R s i).at_) (nV:(R s i).at_ < (R s i).ai.length) (aB:∀ k,k < (R s i).ai.length->0<=(putAt (R s i).ai k).cell/\(putAt (R s i).ai k).cell < s.cells.length) (eN:∀ k,k < s.cells.length-> -1<=(cellAt s.cells k).lock):
  Calls Tryz.prog 79 #[.pointer (some ⟨g,0,none⟩),.int .i64 i] w fun e af=>e= .returned (.tuple #[])/\∃ own',bI 81 w0 g own' bh a8 p (lock s i) aG aZ aP af/\Fr w.heap.size own own' w af:=by
 obtain ⟨b,cap,rfl,cY,jb⟩:=h.iV (by omega);obtain ⟨cW,aw,rfl⟩:=h.hV;obtain ⟨v3,bC,v9,v10,aM,bb,h5⟩:=h.fe aa;obtain ⟨u3,u8,u9,u10,he,-,-,-,jv⟩:=hA h5;simp only [eK,List.cons.injEq,true_and] at he;obtain ⟨rfl,rfl,rfl,rfl,-⟩:=he;obtain ⟨ev,dp,rfl⟩:=Kd.bt jv;have jy:=am (Kd.ie jv).2.2;have H:=am h;obtain ⟨bx,gO⟩:=Int.eq_ofNat_of_zero_le ha;have aJ:bx < (R s i).ai.length:=by omega
 obtain ⟨lD,pD⟩:=aB bx aJ;obtain ⟨x,az⟩:∃ x,putAt (R s i).ai bx=x:=⟨_,rfl⟩;rw [az] at lD pD;obtain ⟨dP,jE⟩:=Int.eq_ofNat_of_zero_le lD;have hl:dP < s.cells.length:=by omega
 obtain ⟨gZ,K0,rfl,gf,AV⟩:=h.tg (by omega);obtain ⟨bQ,Pf⟩:=h.cell hl;have Xx:=eN dP hl;obtain ⟨eW,oh,sT,dO,-,hk,-,mP⟩:=dd jy.1 gU bx aJ (by decide);cases dO;have qP:=mZ hk;subst qP;have oo:=mP _ rfl;simp only [show cn.bD=2 from rfl] at oo;have U:(R s i).ai.getD bx gU=putAt (R s i).ai bx:=rfl;rw [U,az,jE] at oo;have M:=am (((((ba.nil w).known h.bB).cB (aM 10 _ rfl)).cB (aM 6 _ rfl)).cB oo |>.cB (bQ 2 _ rfl));have C:=M.1.aw;simp only [ah] at C;rw [gO] at M C;have js:=am gO;have ew:=am az;have rT:=am jE;have q5:=am (Pf 2);have adx:=am (bb 6);have Pg:=am gf;clear h aM bb h5 jv cY aB eN bQ Pf hk mP oo U az gf;have bz:(0:Int)<=(i:Int):=by omega
 have b7:(i:Int) < (s.tasks.length:Int):=by omega
 have bY:(0:Int)<=(bx:Int):=by omega
 have l5:(bx:Int) < ((R s i).ai.length:Int):=by omega
 have lQ:(0:Int)<=(dP:Int):=by omega
 have oK:(dP:Int) < (s.cells.length:Int):=by omega
 clear gO jE;obtain ⟨hC,xv⟩:∃ hC,(cellAt s.cells dP).lock=hC:=⟨_,rfl⟩;rw [xv] at M C Xx;have Ph:=am xv;clear xv;go_enter Tryz.func79,Tryz.ntmps79
 go_wp2_with (first
  | fail)
 refine gL M.1 ?_;clear M C;intro W M;refine dx [0,1,2,3,4,5,6,7,8,9,10,11,12,13,14,15,16,17] M.1 ?_;iterate 18 (first|refine cc rfl ?_|refine ch rfl ?_|refine cj rfl ?_|refine cE rfl ?_)
 refine bN ?_;refine f' ?_;have C:=M.1.aw;simp only [ah] at C;have H1:=am (H.1.grow M.1.below);by_cases ak:0<=hC
 ·have ed:(hC != -1)=true:=by simp;omega
  have dq:=am ak;clear ak;go_wp2_with (go_at_call 118;refine (Gs i _ H1.1 aa aS hm aT).mono ?_;rintro e b' ⟨rfl,c1,hr,f7⟩)
  refine o6 ?_;refine ⟨rfl,c1, ?_,(Fr.below M.1.below).trans (f7.less M.1.below.size)⟩
  have oV:lock s i=again s i:=by
   unfold lock;simp only [show (R s i).at_.toNat=bx by have:=js.1;omega,ew.1,show x.cell.toNat=dP by have:=rT.1;omega,Ph.1,if_pos dq.1]
  rw [oV];exact hr
 ·have ed:(hC != -1)=false:=by simp;omega
  have dq:=am ak;clear ak;obtain ⟨-,Qg⟩:=H1.1.cell hl;have lc:=Qg 2;obtain ⟨-,-,-,-,-,xh,-⟩:=H1.1.fe aa;have tM:=xh 6;clear Qg xh
  have cm:gZ ≠ b:=fun c0=>by
   have aA:=H.1.fj b rfl;rw [<-c0,Pg.1] at aA;cases aA
  obtain ⟨il,f5⟩:=H1.1.AU (B:=w.heap.size) (i:=dP) hl (seg:= [.int .i64 (i:Int)]) (j:=2) (x':={cellAt s.cells dP with lock:=i}) (by simp) rfl;obtain ⟨mg,f6⟩:=il.setInt (B:=w.heap.size) (i:=i) aa 6 (by decide) ((bx:Int)+1) {R s i with at_:=(bx:Int)+1} (fun _ _ _ _=>rfl) ⟨rfl,rfl,rfl,rfl⟩;have w3:=am (And.intro mg (((Fr.below M.1.below).trans f5).trans f6));clear il f5 mg f6;go_wp2_with fail
  refine Bt (fun mH na=> ?_);have iN:=w3.1;rw [show ((W.setCells gZ (dP*3+2) [.int .i64 (i:Int)]).setCell ⟨b,i*13+6,none⟩ (.int .i64 ((bx:Int)+1)))=mH from na.symm] at iN;obtain ⟨t5,r7⟩:∃ t5:Task,{R s i with at_:=(bx:Int)+1} = t5:=⟨_,rfl⟩;obtain ⟨m7,pI⟩:∃ m7,setCell s dP {cellAt s.cells dP with lock:=i} = m7:=⟨_,rfl⟩;have EG:i < m7.tasks.length:=by rw [<-pI];exact aa
  have Ku:t5.at_=(bx:Int)+1:=by rw [<-r7]
  have Kv:t5.ai=(R s i).ai:=by rw [<-r7]
  have EH:(b0 m7 i t5).tasks.length=s.tasks.length:=by rw [c5,<-pI];rfl
  have Co:R (b0 m7 i t5) i=t5:=cD EG
  have QH:lock s i=b0 m7 i (if (bx:Int)+1=(R s i).ai.length then {t5 with aE:=3,at_:=0} else t5):=by
   unfold lock;simp only [js.1,Int.toNat_natCast,ew.1,show x.cell.toNat=dP by have:=rT.1;omega,Ph.1,if_neg (show ¬ 0<=hC by have:=dq.1;omega),<-pI,<-r7]
  rw [show b0 (setCell s dP {cellAt s.cells dP with lock:=i}) i {R s i with at_:=(bx:Int)+1} = b0 m7 i t5 by rw [pI,r7]] at iN;have iS:=am QH;obtain ⟨dh,oJ,nP,sR,nf,-,A5⟩:=iN.1.fe (i:=i) (by rw [EH];exact aa);rw [Co] at nf A5;obtain ⟨u3,u8,u9,u10,yM,-,-,-,rC⟩:=hA A5;simp only [eK,List.cons.injEq,true_and] at yM;obtain ⟨rfl,rfl,rfl,rfl,-⟩:=yM;obtain ⟨I4,nS,rfl⟩:=Kd.bt rC;have ki:=am iN;have zV:=am ((((ba.nil mH).known iN.1.bB).cB (nf 10 _ rfl)).cB (nf 6 _ rfl));rw [Ku,Kv] at zV;clear M C w3 iN na r7 pI nf A5 rC QH;have M:=zV;clear zV;have C:=M.1.aw;simp only [ah] at C;refine gL M.1 ?_;clear M C;intro W M;refine dx [0,1,2,3,4,5,6,7,8,9] M.1 ?_;iterate 10 (first|refine cc rfl ?_|refine ch rfl ?_|refine cj rfl ?_|refine cE rfl ?_)
  refine bN ?_;refine f' ?_;have C:=M.1.aw;simp only [ah] at C;have gj:=am (ki.1.1.grow M.1.below);have gl:=am (ki.1.2.trans (Fr.less (Fr.below M.1.below) ki.1.2.size));by_cases ll:(bx:Int)+1=(R s i).ai.length
  ·have nP:((bx:Int)+1 == ((R s i).ai.length:Int))=true:=by simp [ll]
   have bS:=am ll;clear ll;go_wp2_with (go_at_call 114;refine (BG b _ _ i 3 _ gj.1 (by rw [EH];exact aa)).mono ?_;rintro e b' ⟨rfl,hr,f7⟩)
   refine fv ?_;refine ⟨rfl,own, ?_,gl.1.trans (f7.less gl.1.size)⟩;rw [iS.1,if_pos bS.1];unfold k4 at hr;rw [Co,set_set] at hr;exact hr
  ·have nP:((bx:Int)+1 == ((R s i).ai.length:Int))=false:=by simp [ll]
   have bS:=am ll;clear ll;go_wp2;refine fv ?_;refine ⟨rfl,own, ?_,gl.1⟩;rw [iS.1,if_neg bS.1];exact gj.1
end
theorem set_comm (W:World) (b o c q:Nat) (u v:Value) (h:b ≠ c\/o ≠ q):(W.setCell ⟨b,o,none⟩ u).setCell ⟨c,q,none⟩ v=(W.setCell ⟨c,q,none⟩ v).setCell ⟨b,o,none⟩ u:=by
 unfold World.setCell;simp only;congr 1;apply Array.ext_getElem?;intro k;simp only [Array.getElem?_modify];by_cases I:b=k
 ·by_cases ay:c=k
  ·subst I
   subst ay
   have V6:o ≠ q:=by rcases h with h | h;exact absurd rfl h;exact h
   cases W.heap[c]? with
   | none=>simp
   | some cV=>
    cases cV <;> simp [Array.setIfInBounds_comm _ _ V6]
  ·simp [I,ay]
 ·simp [I]
theorem RI (W:World) (b o:Nat) (u v:Value):(W.setCell ⟨b,o,none⟩ u).setCell ⟨b,o,none⟩ v=W.setCell ⟨b,o,none⟩ v:=by
 unfold World.setCell;simp only;congr 1;apply Array.ext_getElem?;intro k;simp only [Array.getElem?_modify];by_cases I:b=k
 ·subst I
  cases W.heap[b]? with
  | none=>simp
  | some cV=>cases cV <;> simp
 ·simp [I]
theorem H3 {W W1:World} {k:Nat} (a:Addr) (u:Value) (h:W1.heap[k]? = W.heap[k]?):(W1.setCell a u).heap[k]? = (W.setCell a u).heap[k]? :=by
 simp [World.setCell,Array.getElem?_modify,h]
theorem pj (W:World) (a:Addr) (u:Value):(W.setCell a u).heap.size=W.heap.size:=by simp [World.setCell]
theorem Is {W W1:World} {r:Option Nat} (h:W.grownBy W1 r) (a:Addr) (u:Value):(W.setCell a u).grownBy (W1.setCell a u) r:=
 ⟨h.os,h.tape,h.output,by simpa [World.setCell] using h.size,fun k J ao=>H3 a u (h.block k (by simpa [World.setCell] using J) ao)⟩
theorem Sj {W W1:World} {n:Nat} (h:Below n W W1) (a:Addr) (u:Value):Below n (W.setCell a u) (W1.setCell a u):=
 ⟨h.os,h.tape,h.output,by simpa [World.setCell] using h.size,fun k J=>H3 a u (h.block k J)⟩
theorem Gf {W:World} {a:Addr} {u:Value} (v:Value) (h:W.cell? a=some u):(W.setCell a v).cell? a=some v:=World.cell?_setCell_same' W a v (by rw [h];rfl)
theorem Sk {W:World} {b o q:Nat} {u:Option Value} (v:Value) (cm:o ≠ q) (h:W.cell? ⟨b,q,none⟩=u):(W.setCell ⟨b,o,none⟩ v).cell? ⟨b,q,none⟩=u:=by
 rw [World.cell?_setCell_other]
 ·exact h
 ·intro c0
  exact cm (congrArg Addr.off c0)
theorem It (own:Nat->Nat) (t:Nat):ef own none t=own:=by funext k;simp [ef]
def handed (own:Nat->Nat) (i:Nat):Nat->Nat:=fun k=>if own k=10+8*i\/own k=11+8*i then 4 else own k
theorem wD {own:Nat->Nat} {i k:Nat} (h:own k ≠ 10+8*i/\own k ≠ 11+8*i):handed own i k=own k:=if_neg (fun he=>by rcases he with he | he;exact h.1 he;exact h.2 he)
theorem aa1 {own:Nat->Nat} {i k:Nat} (h:own k=10+8*i\/own k=11+8*i):handed own i k=4:=if_pos h
section
variable {T B:Nat} {w0:World} {g:Nat} {own own':Nat->Nat} {bh a8:Value} {p:Prog} {s:Sys} {aG aZ aP:Value} {W W1:World}
theorem bI.handOver {b cap n:Nat} (h:bI T w0 g own bh a8 p s aG (.slice (some ⟨b,0,none⟩) n cap) aP W) {i:Nat} (aa:i < s.tasks.length)
  (eb:W.cell? ⟨b,i*13+9,none⟩=some (.slice none 0 0)) (e7:W.cell? ⟨b,i*13+10,none⟩=some (.slice none 0 0)) (ao:(R s i).reads= []) (aB:(R s i).ai= []):
  bI T w0 g (handed own i) bh a8 p s aG (.slice (some ⟨b,0,none⟩) n cap) aP W:=by
 have cY:own b=3:=h.fj b rfl;have z:∀ k,own k < 8->handed own i k=own k:=fun k J=>wD ⟨by omega,by omega⟩
 refine ⟨h.below,fun k J=>(z k (by rw [h.jU k J];decide)).trans (h.jU k J),fun k J=>(z k (by rw [h.dk k J];decide)).trans (h.dk k J),h.prog,(z g (by rw [h.hI];decide)).trans h.hI,h.bB,Kd.cG h.cells (fun k J=>by rw [z k (by omega)];exact J), ?_,fun k J=>(z k (by rw [h.fj k J];decide)).trans (h.fj k J),Kd.cG h.log (fun k J=>by rw [z k (by omega)];exact J)⟩;obtain ⟨aq,inner,aT,Ao⟩:=h.tasks;refine ⟨fun k J=> .inl ((z k (by rw [h.fj k J];decide)).trans (h.fj k J)),inner,aT,Ao.1,fun j y aW=> ?_⟩;have dw:=Ao.2 j y aW;obtain rfl:=FH aW;have DU:=x0 dw;refine (gg (handed own i)).k1 (ok:=fun k=>8<=handed own i k) (fun k J=>⟨.inr J,fun he=> ?_⟩) ?_
 ·have:k=b:=by simpa [Value.ownBlock] using he
  rw [this,z b (by omega),cY] at J;omega
 obtain ⟨v3,bC,v9,v10,he,dj,fy,hh,fi⟩:=hA DU;have e4:=he;rw [show (inner.drop (j*(gg (handed own i)).bD)).take (gg (handed own i)).bD=_ from he];by_cases aI:j=i
 ·subst aI
  have j':∀ q u,(eK (aD s.tasks j) v3 bC v9 v10)[q]? = some u->W.cell? ⟨b,j*13+q,none⟩=some u:=fun q u hu=>by
   have xw:((inner.drop (j*(gg own).bD)).take (gg own).bD)[q]? = some u:=by rw [e4];exact hu
   rw [List.getElem?_take] at xw;split at xw
   ·rw [List.getElem?_drop] at xw
    have:=aT.cells (g:=b) (by simp [Value.ownBlock]) _ u xw
    rwa [add_plain] at this
   ·cases xw
  have dO:v9= .slice none 0 0:=Option.some.inj ((j' 9 _ rfl).symm.trans eb);have gI:v10= .slice none 0 0:=Option.some.inj ((j' 10 _ rfl).symm.trans e7);subst dO;subst gI;have Eu:(aD s.tasks j).reads= []:=ao;have DP:(aD s.tasks j).ai= []:=aB;exact nh (aD s.tasks j) j (Kd.cG dj fun k J=>by rw [wD ⟨by have:=J.2;omega,by have:=J.2;omega⟩];exact J) (Kd.cG fy fun k J=>by rw [wD ⟨by have:=J.2;omega,by have:=J.2;omega⟩];exact J) (by rw [Eu];exact Kd.ht _ _ _ _ _) (by rw [DP];exact Kd.ht _ _ _ _ _)
 ·exact nh (aD s.tasks j) j (Kd.cG dj fun k J=>by rw [wD ⟨by have:=J.2;omega,by have:=J.2;omega⟩];exact J) (Kd.cG fy fun k J=>by rw [wD ⟨by have:=J.2;omega,by have:=J.2;omega⟩];exact J) (Kd.cG hh fun k J=>by rw [wD ⟨by have:=J.2;omega,by have:=J.2;omega⟩];exact J) (Kd.cG fi fun k J=>by rw [wD ⟨by have:=J.2;omega,by have:=J.2;omega⟩];exact J)
theorem bI.Zj {b cap n:Nat} (h:bI T w0 g own bh a8 p s aG (.slice (some ⟨b,0,none⟩) n cap) aP W) {i:Nat} (aa:i < s.tasks.length) (dt:w0.heap.size<=B) (sQ:B<=W.heap.size) (I:Below w0.heap.size w0 W1) (U:W.grownBy W1 aP.ownBlock) {v1:Value} {log':List Entry} {wV:World} (u:Int)
  (ao:hf.aC 105 W1 w0.heap.size (fun k=>own k=4\/(own k=0/\B<=k)\/own k=10+8*i\/own k=11+8*i) v1 log') (aO:Below W1.heap.size (W1.setCell ⟨g,5,none⟩ v1) wV):
  ∃ own',bI T w0 g own' bh a8 p {b0 s i {R s i with aR:=u,reads:= [],ai:= []} with log:=log'} aG (.slice (some ⟨b,0,none⟩) n cap) v1 (((wV.setCell ⟨b,i*13+1,none⟩ (.int .i64 u)).setCell ⟨b,i*13+9,none⟩ (.slice none 0 0)).setCell ⟨b,i*13+10,none⟩ (.slice none 0 0))/\
   Fr B own own' W (((wV.setCell ⟨b,i*13+1,none⟩ (.int .i64 u)).setCell ⟨b,i*13+9,none⟩ (.slice none 0 0)).setCell ⟨b,i*13+10,none⟩ (.slice none 0 0)):=by
 have cY:own b=3:=h.fj b rfl;have jb:b ≠ g:=fun he=>by rw [he,h.hI] at cY;cases cY
 obtain ⟨v3,bC,v9,v10,aM,-,-⟩:=h.fe aa;obtain ⟨aU,f1,-⟩:=h.Ma (B:=B) aa (v:=.slice none 0 0) (xs:= []) (Kd.ht _ _ _ _ _);rw [show (Value.slice none 0 0).ownBlock=none from rfl,It] at aU f1;obtain ⟨a1,f2,-⟩:=aU.CP (B:=B) (i:=i) (by rw [c5];exact aa) (v:=.slice none 0 0) (xs:= []) (Kd.ht _ _ _ _ _);rw [show (Value.slice none 0 0).ownBlock=none from rfl,It] at a1 f2;rw [cD aa,set_set] at a1;have dp:((W.setCell ⟨b,i*13+9,none⟩ (.slice none 0 0)).setCell ⟨b,i*13+10,none⟩ (.slice none 0 0)).cell? ⟨b,i*13+9,none⟩=some (.slice none 0 0):=Sk _ (by omega) (Gf _ (aM 9 _ rfl));have dL:((W.setCell ⟨b,i*13+9,none⟩ (.slice none 0 0)).setCell ⟨b,i*13+10,none⟩ (.slice none 0 0)).cell? ⟨b,i*13+10,none⟩=some (.slice none 0 0):=Gf _ (Sk _ (by omega) (aM 10 _ rfl));have lj:∀ t:Task,i < (b0 s i t).tasks.length:=fun t=>by rw [c5];exact aa
 have dz:=a1.handOver (lj _) dp dL (by rw [cD aa]) (by rw [cD aa]);have lW:=Is (Is U ⟨b,i*13+9,none⟩ (.slice none 0 0)) ⟨b,i*13+10,none⟩ (.slice none 0 0);have dE:w0.heap.size<=b:=Nat.le_of_not_lt fun aJ=>by rw [h.jU b aJ] at cY;cases cY
 have Ao:hf.aC 105 ((W1.setCell ⟨b,i*13+9,none⟩ (.slice none 0 0)).setCell ⟨b,i*13+10,none⟩ (.slice none 0 0)) w0.heap.size (fun k=>handed own i k=4\/(handed own i k=0/\B<=k)) v1 log':=by
  refine Kd.cG (Kd.lp (Kd.lp ao (p:=⟨b,i*13+9,none⟩) (fun k J he=> ?_) _) (p:=⟨b,i*13+10,none⟩) (fun k J he=> ?_) _) (fun k J=> ?_)
  ·rw [show k=b from he] at J
   omega
  ·rw [show k=b from he] at J
   omega
  ·rcases J with J | J | J
   ·exact .inl ((wD ⟨by omega,by omega⟩).trans J)
   ·exact .inr ⟨(wD ⟨by omega,by omega⟩).trans J.1,J.2⟩
   ·exact .inl (aa1 J)
 obtain ⟨g',f4⟩:=dz.QR (B:=B) dt (by rw [pj,pj];exact sQ) (jj (jj I dE) dE) lW Ao
 have qZ:((W1.setCell ⟨b,i*13+9,none⟩ (.slice none 0 0)).setCell ⟨b,i*13+10,none⟩ (.slice none 0 0)).setCell ⟨g,5,none⟩ v1=((W1.setCell ⟨g,5,none⟩ v1).setCell ⟨b,i*13+9,none⟩ (.slice none 0 0)).setCell ⟨b,i*13+10,none⟩ (.slice none 0 0):=by
  rw [set_comm (W1.setCell ⟨b,i*13+9,none⟩ (.slice none 0 0)) b (i*13+10) g 5 _ v1 (.inl jb),set_comm W1 b (i*13+9) g 5 _ v1 (.inl jb)]
 have tN:((wV.setCell ⟨b,i*13+9,none⟩ (.slice none 0 0)).setCell ⟨b,i*13+10,none⟩ (.slice none 0 0)).setCell ⟨b,i*13+1,none⟩ (.int .i64 u)=((wV.setCell ⟨b,i*13+1,none⟩ (.int .i64 u)).setCell ⟨b,i*13+9,none⟩ (.slice none 0 0)).setCell ⟨b,i*13+10,none⟩ (.slice none 0 0):=by
  rw [set_comm (wV.setCell ⟨b,i*13+9,none⟩ (.slice none 0 0)) b (i*13+10) b (i*13+1) _ _ (.inr (by omega)),set_comm wV b (i*13+9) b (i*13+1) _ _ (.inr (by omega))]
 rw [qZ] at g' f4;have sX:=Sj (Sj aO ⟨b,i*13+9,none⟩ (.slice none 0 0)) ⟨b,i*13+10,none⟩ (.slice none 0 0);have cP:(((W1.setCell ⟨g,5,none⟩ v1).setCell ⟨b,i*13+9,none⟩ (.slice none 0 0)).setCell ⟨b,i*13+10,none⟩ (.slice none 0 0)).heap.size=W1.heap.size:=by rw [pj,pj,pj]
 have Kw:=sX;rw [<-cP] at Kw;have il:=g'.grow Kw;obtain ⟨mg,f6⟩:=il.setInt (B:=B) (i:=i) (lj _) 1 (by decide) u {R s i with aR:=u,reads:= [],ai:= []} (fun _ _ _ _=>by rw [show R {b0 s i _ with log:=log'} i=R (b0 s i _) i from rfl,cD aa];rfl) (by rw [show R {b0 s i _ with log:=log'} i=R (b0 s i _) i from rfl,cD aa];exact ⟨rfl,rfl,rfl,rfl⟩);rw [tN] at mg f6;refine ⟨_, ?_,(f1.trans (f2.trans ((Fr.tagged _ (fun k _ aq=>(wD ⟨by omega,by omega⟩).trans aq)).trans (f4.trans ((Fr.less (Fr.below Kw) (by rw [cP];exact Nat.le_trans sQ U.size)).trans f6)))))⟩
 have he:b0 {b0 s i {R s i with reads:= [],ai:= []} with log:=log'} i {R s i with aR:=u,reads:= [],ai:= []} = {b0 s i {R s i with aR:=u,reads:= [],ai:= []} with log:=log'}:=by
  simp [b0,List.set_set]
 rw [<-he];exact mg
theorem bI.aax {b cap n:Nat} (h:bI T w0 g own bh a8 p s aG (.slice (some ⟨b,0,none⟩) n cap) aP W) {i:Nat} (aa:i < s.tasks.length) {zW:Value} (aT:W.cell? ⟨b,i*13+9,none⟩=some zW) (sQ:B<=W.heap.size) (I:Below w0.heap.size w0 W1) (U:W.grownBy W1 zW.ownBlock) {v1:Value} {xs:List cI}
  (ao:cn.aC 52 W1 w0.heap.size (fun k=>own k=10+8*i\/(own k=0/\B<=k)) v1 xs):
  ∃ own',bI T w0 g own' bh a8 p (b0 s i {R s i with reads:=xs}) aG (.slice (some ⟨b,0,none⟩) n cap) aP (W1.setCell ⟨b,i*13+9,none⟩ v1)/\Fr B own own' W (W1.setCell ⟨b,i*13+9,none⟩ v1):=by
 have cY:own b=3:=h.fj b rfl;have dE:w0.heap.size<=b:=Nat.le_of_not_lt fun aJ=>by rw [h.jU b aJ] at cY;cases cY
 obtain ⟨v3,bC,v9,v10,aM,-,dw⟩:=h.fe aa;obtain ⟨u3,u8,u9,u10,he,-,-,me,jv⟩:=hA dw;simp only [eK,List.cons.injEq,true_and] at he;obtain ⟨rfl,rfl,rfl,rfl,-⟩:=he;have Kx:v9=zW:=Option.some.inj ((aM 9 _ rfl).symm.trans aT);subst Kx;have EI:∀ k,v9.ownBlock=some k->own k=10+8*i:=fun k J=>(me.1 k J).2
 obtain ⟨aU,f1,-⟩:=h.Ma (B:=B) aa (v:=.slice none 0 0) (xs:= []) (Kd.ht _ _ _ _ _);rw [show (Value.slice none 0 0).ownBlock=none from rfl,It] at aU f1;have lW:=Is U ⟨b,i*13+9,none⟩ (.slice none 0 0);have lj:∀ t:Task,i < (b0 s i t).tasks.length:=fun t=>by rw [c5];exact aa
 have hm:∀ k,own k ≠ 10+8*i->k < W.heap.size->(W1.setCell ⟨b,i*13+9,none⟩ (.slice none 0 0)).heap[k]? = (W.setCell ⟨b,i*13+9,none⟩ (.slice none 0 0)).heap[k]? :=fun k J ak=>
  H3 _ _ (U.block k ak (fun he=>J (EI k he.symm)))
 have bL:(W.setCell ⟨b,i*13+9,none⟩ (.slice none 0 0)).cell? ⟨b,i*13+9,none⟩=some (.slice none 0 0):=Gf _ (aM 9 _ rfl);have aJ:∀ k,own k ≠ 0->k < W.heap.size:=fun k J=>Nat.lt_of_not_le fun hle=>J (h.dk k hle)
 have a1:=aU.inner (W1:=W1.setCell ⟨b,i*13+9,none⟩ (.slice none 0 0)) (i:=i) (lj _) (x':={R s i with reads:= []}) (10+8*i) ⟨by omega,by omega⟩ (fun k aq a6=>hm k a6 (aJ k aq)) (jj I dE) (by rw [pj,pj];exact U.size) (fun cs e4 dw=>by
  rw [cD aa] at dw;obtain ⟨dh,oJ,nP,sR,rfl,dj,fy,hh,fi⟩:=hA dw;have k7:nP= .slice none 0 0:=Option.some.inj ((e4 9 _ rfl).symm.trans bL);subst k7;exact nh {R s i with reads:= []} i (Kd.eI dj fun k J ak=>hm k (by have:=J.2;omega) (by rw [pj] at ak;exact ak)) (Kd.eI fy fun k J ak=>hm k (by have:=J.2;omega) (by rw [pj] at ak;exact ak)) (Kd.ht _ _ _ _ _) (Kd.eI fi fun k J ak=>hm k (by have:=J.2;omega) (by rw [pj] at ak;exact ak)))
 rw [set_set] at a1;have Hz:=Kd.fW ao
 have p9:cn.aC 52 (W1.setCell ⟨b,i*13+9,none⟩ (.slice none 0 0)) w0.heap.size (fun k=>own k=10+8*i\/(own k=0/\B<=k)) v1 xs:=Kd.lp ao (p:=⟨b,i*13+9,none⟩) (fun k J he=>by
  rw [show k=b from he] at J;omega) _
 have kF:∀ k,own k ≠ 0->ef own v1.ownBlock (10+8*i) k=own k:=fun k J=>by
  by_cases he:v1.ownBlock=some k
  ·rw [iW he]
   rcases p9.1 k he with aA | aA
   ·exact aA.symm
   ·exact absurd aA.1 J
  ·exact gv he
 have a6:Tag w0 own (ef own v1.ownBlock (10+8*i)) (W1.setCell ⟨b,i*13+9,none⟩ (.slice none 0 0)):=by
  refine ⟨kF,fun k J=> ?_,fun k J=> ?_⟩
  ·refine (gv fun he=> ?_).trans (h.jU k J)
   have:=(fc p9 k he).2.1
   omega
  ·refine (gv fun he=> ?_).trans (a1.dk k J)
   have:=(fc p9 k he).2.2
   omega
 have dz:=a1.rn a6;have bG:=oF xY p9 (ok':=fun k=>8<=ef own v1.ownBlock (10+8*i) k/\ef own v1.ownBlock (10+8*i) k=10+8*i) (fun k J=>by rw [iW J];omega)
 obtain ⟨qM,I8,zq,lE,Aw,_,EJ⟩:=dz.fe (lj _);rw [cD aa] at Aw EJ;obtain ⟨dh,oJ,nP,sR,he,aA,dU,eb,e7⟩:=hA EJ;simp only [eK,List.cons.injEq,true_and] at he;obtain ⟨rfl,rfl,rfl,rfl,-⟩:=he;obtain ⟨g',f4⟩:=dz.seg (B:=B) (i:=i) (lj _) (c:=eK {R s i with reads:= []} qM I8 zq lE) (seg:= [v1]) (j:=9) (x':={R s i with reads:=xs}) rfl Aw (by simp) (nh {R s i with reads:=xs} i aA dU bG e7);have hw:(W1.setCell ⟨b,i*13+9,none⟩ (.slice none 0 0)).setCells b (i*13+9) [v1]=W1.setCell ⟨b,i*13+9,none⟩ v1:=RI W1 b (i*13+9) _ _;rw [hw,set_set] at g';rw [hw] at f4;refine ⟨_,g', ?_⟩
 have f0:Fr B own (ef own v1.ownBlock (10+8*i)) W (W1.setCell ⟨b,i*13+9,none⟩ (.slice none 0 0)):=by
  refine ⟨U.os,U.tape,U.output,by rw [pj];exact U.size,fun k J aq=> ?_,fun k J aq=> ?_⟩
  ·refine (gv fun he=> ?_).trans aq
   rcases p9.1 k he with aA | aA
   ·omega
   ·omega
  ·rw [Below.heap_setCell W1 ⟨b,i*13+9,none⟩ _ k (fun he=>by rw [show k=b from he] at aq;omega)]
   exact U.block k (by omega) (fun he=>by have:=EI k he.symm;omega)
 exact f0.trans f4
theorem bI.Z3 {b cap n:Nat} (h:bI T w0 g own bh a8 p s aG (.slice (some ⟨b,0,none⟩) n cap) aP W) {i:Nat} (aa:i < s.tasks.length) {zW:Value} (aT:W.cell? ⟨b,i*13+10,none⟩=some zW) (sQ:B<=W.heap.size) (I:Below w0.heap.size w0 W1) (U:W.grownBy W1 zW.ownBlock) {v1:Value} {xs:List cI}
  (ao:cn.aC 52 W1 w0.heap.size (fun k=>own k=11+8*i\/(own k=0/\B<=k)) v1 xs):
  ∃ own',bI T w0 g own' bh a8 p (b0 s i {R s i with ai:=xs}) aG (.slice (some ⟨b,0,none⟩) n cap) aP (W1.setCell ⟨b,i*13+10,none⟩ v1)/\Fr B own own' W (W1.setCell ⟨b,i*13+10,none⟩ v1):=by
 have cY:own b=3:=h.fj b rfl;have dE:w0.heap.size<=b:=Nat.le_of_not_lt fun aJ=>by rw [h.jU b aJ] at cY;cases cY
 obtain ⟨v3,bC,v9,v10,aM,-,dw⟩:=h.fe aa;obtain ⟨u3,u8,u9,u10,he,-,-,me,jv⟩:=hA dw;simp only [eK,List.cons.injEq,true_and] at he;obtain ⟨rfl,rfl,rfl,rfl,-⟩:=he;have Kx:v10=zW:=Option.some.inj ((aM 10 _ rfl).symm.trans aT);subst Kx;have EI:∀ k,v10.ownBlock=some k->own k=11+8*i:=fun k J=>(jv.1 k J).2
 obtain ⟨aU,f1,-⟩:=h.CP (B:=B) aa (v:=.slice none 0 0) (xs:= []) (Kd.ht _ _ _ _ _);rw [show (Value.slice none 0 0).ownBlock=none from rfl,It] at aU f1;have lW:=Is U ⟨b,i*13+10,none⟩ (.slice none 0 0);have lj:∀ t:Task,i < (b0 s i t).tasks.length:=fun t=>by rw [c5];exact aa
 have hm:∀ k,own k ≠ 11+8*i->k < W.heap.size->(W1.setCell ⟨b,i*13+10,none⟩ (.slice none 0 0)).heap[k]? = (W.setCell ⟨b,i*13+10,none⟩ (.slice none 0 0)).heap[k]? :=fun k J ak=>
  H3 _ _ (U.block k ak (fun he=>J (EI k he.symm)))
 have bL:(W.setCell ⟨b,i*13+10,none⟩ (.slice none 0 0)).cell? ⟨b,i*13+10,none⟩=some (.slice none 0 0):=Gf _ (aM 10 _ rfl);have aJ:∀ k,own k ≠ 0->k < W.heap.size:=fun k J=>Nat.lt_of_not_le fun hle=>J (h.dk k hle)
 have a1:=aU.inner (W1:=W1.setCell ⟨b,i*13+10,none⟩ (.slice none 0 0)) (i:=i) (lj _) (x':={R s i with ai:= []}) (11+8*i) ⟨by omega,by omega⟩ (fun k aq a6=>hm k a6 (aJ k aq)) (jj I dE) (by rw [pj,pj];exact U.size) (fun cs e4 dw=>by
  rw [cD aa] at dw;obtain ⟨dh,oJ,nP,sR,rfl,dj,fy,hh,fi⟩:=hA dw;have k7:sR= .slice none 0 0:=Option.some.inj ((e4 10 _ rfl).symm.trans bL);subst k7;exact nh {R s i with ai:= []} i (Kd.eI dj fun k J ak=>hm k (by have:=J.2;omega) (by rw [pj] at ak;exact ak)) (Kd.eI fy fun k J ak=>hm k (by have:=J.2;omega) (by rw [pj] at ak;exact ak)) (Kd.eI hh fun k J ak=>hm k (by have:=J.2;omega) (by rw [pj] at ak;exact ak)) (Kd.ht _ _ _ _ _))
 rw [set_set] at a1;have Hz:=Kd.fW ao
 have p9:cn.aC 52 (W1.setCell ⟨b,i*13+10,none⟩ (.slice none 0 0)) w0.heap.size (fun k=>own k=11+8*i\/(own k=0/\B<=k)) v1 xs:=Kd.lp ao (p:=⟨b,i*13+10,none⟩) (fun k J he=>by
  rw [show k=b from he] at J;omega) _
 have kF:∀ k,own k ≠ 0->ef own v1.ownBlock (11+8*i) k=own k:=fun k J=>by
  by_cases he:v1.ownBlock=some k
  ·rw [iW he]
   rcases p9.1 k he with aA | aA
   ·exact aA.symm
   ·exact absurd aA.1 J
  ·exact gv he
 have a6:Tag w0 own (ef own v1.ownBlock (11+8*i)) (W1.setCell ⟨b,i*13+10,none⟩ (.slice none 0 0)):=by
  refine ⟨kF,fun k J=> ?_,fun k J=> ?_⟩
  ·refine (gv fun he=> ?_).trans (h.jU k J)
   have:=(fc p9 k he).2.1
   omega
  ·refine (gv fun he=> ?_).trans (a1.dk k J)
   have:=(fc p9 k he).2.2
   omega
 have dz:=a1.rn a6;have bG:=oF xY p9 (ok':=fun k=>8<=ef own v1.ownBlock (11+8*i) k/\ef own v1.ownBlock (11+8*i) k=11+8*i) (fun k J=>by rw [iW J];omega)
 obtain ⟨qM,I8,zq,lE,Aw,_,EJ⟩:=dz.fe (lj _);rw [cD aa] at Aw EJ;obtain ⟨dh,oJ,nP,sR,he,aA,dU,eb,e7⟩:=hA EJ;simp only [eK,List.cons.injEq,true_and] at he;obtain ⟨rfl,rfl,rfl,rfl,-⟩:=he;obtain ⟨g',f4⟩:=dz.seg (B:=B) (i:=i) (lj _) (c:=eK {R s i with ai:= []} qM I8 zq lE) (seg:= [v1]) (j:=10) (x':={R s i with ai:=xs}) rfl Aw (by simp) (nh {R s i with ai:=xs} i aA dU eb bG);have hw:(W1.setCell ⟨b,i*13+10,none⟩ (.slice none 0 0)).setCells b (i*13+10) [v1]=W1.setCell ⟨b,i*13+10,none⟩ v1:=RI W1 b (i*13+10) _ _;rw [hw,set_set] at g';rw [hw] at f4;refine ⟨_,g', ?_⟩
 have f0:Fr B own (ef own v1.ownBlock (11+8*i)) W (W1.setCell ⟨b,i*13+10,none⟩ (.slice none 0 0)):=by
  refine ⟨U.os,U.tape,U.output,by rw [pj];exact U.size,fun k J aq=> ?_,fun k J aq=> ?_⟩
  ·refine (gv fun he=> ?_).trans aq
   rcases p9.1 k he with aA | aA
   ·omega
   ·omega
  ·rw [Below.heap_setCell W1 ⟨b,i*13+10,none⟩ _ k (fun he=>by rw [show k=b from he] at aq;omega)]
   exact U.block k (by omega) (fun he=>by have:=EI k he.symm;omega)
 exact f0.trans f4
end
end Go.Proofs.YteajdhhmkjblnaaGreatDoor.Eq
namespace Go.Proofs.YteajdhhmkjblnaaGreatDoor.Eq
theorem Rk (x:cI):∀ l:List cI,(∀ y ∈ l,x.cell < y.cell)->nG x true l=l
 | [],_=>rfl
 | y :: l,h=>by
  have h1:=h y List.mem_cons_self;unfold nG;rw [if_neg (by simp),if_neg (by omega),Bool.true_or,Rk x l (fun z aX=>h z (List.mem_cons_of_mem _ aX))];rfl
theorem R2 (x:cI):∀ (xs:List cI) (k:Nat),k<=xs.length->xs.Pairwise (fun a b=>a.cell < b.cell)->(∀ t,t < k->(putAt xs t).cell < x.cell)->(∀ t,k<=t->t < xs.length->x.cell<=(putAt xs t).cell)->
  jH xs x=if k < xs.length/\(putAt xs k).cell=x.cell then xs.set k x else xs.take k ++ x :: xs.drop k
 | [],k,J,_,_,_=>by
  have:k=0:=by simpa using J
  subst this
  simp [jH,nG]
 | y :: l,0,J,aB,_,ar=>by
  have h:=ar 0 (Nat.le_refl _) (by simp);have aW:x.cell<=y.cell:=h;obtain ⟨pD,yN⟩:=List.pairwise_cons.1 aB;unfold jH nG;rw [if_pos ⟨rfl,aW⟩,Bool.false_or,decide_eq_true aW,Rk x l (fun z aX=>by have:=pD z aX;omega)];by_cases he:y.cell=x.cell
  ·rw [if_pos he,if_pos ⟨by simp,he⟩]
   rfl
  ·rw [if_neg he,if_neg (fun c0=>he c0.2)]
   rfl
 | y :: l,k+1,J,aB,h1,ar=>by
  have aW:y.cell < x.cell:=h1 0 (by omega);obtain ⟨pD,yN⟩:=List.pairwise_cons.1 aB;have fI:=R2 x l k (by simpa using J) yN (fun t a6=>h1 (t+1) (by omega)) (fun t a6 ak=>ar (t+1) (by omega) (by simpa using ak))
  have e:jH (y :: l) x=y :: jH l x:=by
   unfold jH;rw [nG,if_neg (fun c0=>by omega),if_neg (by omega),Bool.false_or,decide_eq_false (by omega)];rfl
  rw [e,fI];have eg:(putAt (y :: l) (k+1))=putAt l k:=rfl;rw [eg];by_cases ay:k < l.length/\(putAt l k).cell=x.cell
  ·rw [if_pos ay,if_pos ⟨by simpa using ay.1,ay.2⟩]
   rfl
  ·rw [if_neg ay,if_neg (fun c0=>ay ⟨by simpa using c0.1,c0.2⟩)]
   rfl
theorem Q4 {xs:List cI} (h:xs.Pairwise (fun a b=>a.cell < b.cell)) {i j:Nat} (sO:i < j) (aI:j < xs.length):(putAt xs i).cell < (putAt xs j).cell:=by
 have:=List.pairwise_iff_getElem.1 h i j (by omega) aI sO
 simpa [putAt,List.getD_eq_getElem?_getD,List.getElem?_eq_getElem aI,List.getElem?_eq_getElem (show i < xs.length by omega)] using this
end Go.Proofs.YteajdhhmkjblnaaGreatDoor.Eq
namespace Go.Proofs.YteajdhhmkjblnaaGreatDoor.Eq
open Go.RowKit Go.Proofs.YteajdhhmkjblnaaGreatDoorW.PrintWords Go.Proofs.YteajdhhmkjblnaaGreatDoorW.PrintLast Go.Proofs.YteajdhhmkjblnaaGreatDoorW.PrintMore
def gV:List cI->List Value
 | []=> []
 | x :: l=> .int .i64 x.cell :: .int .i64 x.num :: gV l
theorem x2:∀ xs:List cI,(gV xs).length=xs.length*2
 | []=>rfl
 | x :: l=>by
  have:=x2 l
  simp only [gV,List.length_cons,this];omega
theorem Iz:∀ xs cH:List cI,gV (xs ++ cH)=gV xs ++ gV cH
 | [],_=>rfl
 | x :: l,cH=>by
  show _ :: _ :: gV (l ++ cH)=_;rw [Iz l cH];rfl
theorem MF:∀ (xs:List cI) (k:Nat),(gV xs).take (k*2)=gV (xs.take k)
 | [],k=>by simp [gV]
 | x :: l,0=>rfl
 | x :: l,k+1=>by
  rw [show (k+1)*2=k*2+2 by omega];show _ :: _ :: (gV l).take (k*2)=_ :: _ :: gV (l.take k);rw [MF l k]
theorem ID:∀ (xs:List cI) (k:Nat),(gV xs).drop (k*2)=gV (xs.drop k)
 | [],k=>by simp [gV]
 | x :: l,0=>rfl
 | x :: l,k+1=>by
  rw [show (k+1)*2=k*2+2 by omega];show (gV l).drop (k*2)=gV (l.drop k);rw [ID l k]
theorem My:∀ (xs:List cI),∀ v ∈ gV xs,v.oneCell'=true
 | [],v,h=>by cases h
 | x :: l,v,h=>by
  rcases List.mem_cons.1 h with rfl | h
  ·rfl
  ·rcases List.mem_cons.1 h with rfl | h
   ·rfl
   ·exact My l v h
theorem Sl {M:cI->List Value->Prop} (dw:∀ x cs,M x cs->cs= [.int .i64 x.cell,.int .i64 x.num]):∀ (xs:List cI) (inner:List Value),cp M 2 xs inner->inner=gV xs
 | [],inner,h=>by
  have:=h.1
  simp at this
  exact this
 | x :: l,inner,h=>by
  have aq:=dw _ _ (h.2 0 x rfl);rw [Nat.zero_mul,List.drop_zero] at aq
  have ak:cp M 2 l (inner.drop 2):=⟨by have:=h.1;simp at this ⊢;omega,fun j p aI=>by
   have:=h.2 (j+1) p (by simpa using aI)
   rwa [show (j+1)*2=2+j*2 by omega,<-List.drop_drop] at this⟩
  have fI:=Sl dw l _ ak;rw [<-List.take_append_drop 2 inner,aq,fI];rfl
theorem aa2 {M:cI->List Value->Prop} (dw:∀ x,M x [.int .i64 x.cell,.int .i64 x.num]) (xs:List cI):cp M 2 xs (gV xs):=
 ⟨x2 xs,fun j p aI=>by
  rw [ID];obtain ⟨ak,he⟩:=List.getElem?_eq_some_iff.1 aI;rw [List.drop_eq_getElem_cons ak,he];exact dw p⟩
theorem Mh {e:Nat} {W:World} {base:Nat} {ok:Nat->Prop} {v:Value} {xs:List cI} (h:cn.aC e W base ok v xs):W.ownsRow base e 2 v xs.length (gV xs):=by
 obtain ⟨-,inner,aT,ao⟩:=h;rw [<-Sl (fun x cs hm=>Mu hm) xs inner ao];exact aT
theorem Mi {e:Nat} {W:World} {base:Nat} {ok:Nat->Prop} {v:Value} {xs:List cI} (h:W.ownsRow base e 2 v xs.length (gV xs)) (c7:∀ k,v.ownBlock=some k->ok k):cn.aC e W base ok v xs:=
 ⟨c7,gV xs,h,aa2 (fun x=>xW x) xs⟩
theorem aa3 {e b cap:Nat} {W:World} {base:Nat} {ok:Nat->Prop} {xs:List cI} (h:cn.aC e W base ok (.slice (some ⟨b,0,none⟩) xs.length cap) xs) {i:Nat} (aa:i<=xs.length) (ay:xs.length+1<=cap) (x:cI) {W1:World} (aO:Below W.heap.size W W1) {dY:World} (sX:Below W1.heap.size (W1.setCells b ((i+1)*2) (gV (xs.drop i))) dY):
  cn.aC e (dY.setCells b (i*2) [.int .i64 x.cell,.int .i64 x.num]) base ok (.slice (some ⟨b,0,none⟩) (xs.length+1) cap) (xs.take i ++ x :: xs.drop i)/\W.grownBy (dY.setCells b (i*2) [.int .i64 x.cell,.int .i64 x.num]) (some b):=by
 have aT:=Mh h;rcases aT.2 with ⟨he,_⟩ | ⟨g,HG,cur,he,I,U,nu,hm,e4,a6⟩
 ·cases he
 ·injection he with dC kP ub
  injection dC with dC;injection dC with dC;subst dC;subst ub;have hlen:(gV (xs.drop i)).length=(xs.length - i)*2:=by rw [x2,List.length_drop]
  have adU:b < W.heap.size:=dK U;have fO:W1.heap[b]? = some (.cells cur e (0,0)):=fS U aO;obtain ⟨cu,aU,gq,fU⟩:=zm (gV (xs.drop i)) ((i+1)*2) W1 cur fO (by rw [hlen];omega);have dR:=pV b (gV (xs.drop i)) ((i+1)*2) W1;have a1:dY.heap[b]? = some (.cells cu e (0,0)):=fS aU (by rw [dR.2.2.2];exact sX);obtain ⟨kx,dz,jm,qV⟩:=zm [Value.int .i64 x.cell,.int .i64 x.num] (i*2) dY cu a1 (by simp;omega);have fB:=pV b [Value.int .i64 x.cell,.int .i64 x.num] (i*2) dY
  have aX:W.heap.size<=(dY.setCells b (i*2) [.int .i64 x.cell,.int .i64 x.num]).heap.size:=by
   rw [fB.2.2.2]
   have:=aO.size
   have:=sX.size
   rw [dR.2.2.2] at this;omega
  refine ⟨Mi ⟨x2 _,.inr ⟨b,cap,kx,by simp;omega,I,dz,by simp;omega,hm,by rw [jm,gq,e4], ?_⟩⟩ h.1,⟨by rw [fB.1,sX.os,dR.1,aO.os],by rw [fB.2.1,sX.tape,dR.2.1,aO.tape],by rw [fB.2.2.1,sX.output,dR.2.2.1,aO.output],aX,fun k J cm=> ?_⟩⟩
  ·have bQ:cur.toList.length=cap*2:=by rw [Array.length_toList,e4]
   have Ap:cur.toList.take (i*2)=gV (xs.take i):=by
    rw [<-MF,<-a6,List.take_take,Nat.min_eq_left (by omega)]
   have b1:cu.toList.take (i*2)=gV (xs.take i):=by
    rw [fU,List.append_assoc,List.take_append_of_le_length (by rw [List.length_take,bQ];omega),List.take_take,Nat.min_eq_left (by omega),Ap]
   have eg:(cu.toList.drop (i*2+2)).take ((xs.length - i)*2)=gV (xs.drop i):=by
    have ady:(cur.toList.take ((i+1)*2)).length=i*2+2:=by rw [List.length_take,bQ];omega
    rw [fU,List.append_assoc,List.drop_append_of_le_length (by omega),List.drop_of_length_le (by omega),List.nil_append,List.take_append_of_le_length (by omega),List.take_of_length_le (by omega)]
   rw [qV,b1];have Ky:(gV (xs.take i)).length=i*2:=by rw [x2,List.length_take];omega
   rw [show [Value.int .i64 x.cell,.int .i64 x.num].length=2 from rfl,Iz];rw [show (xs.take i ++ x :: xs.drop i).length*2=i*2+(2+(xs.length - i)*2) by simp;omega];rw [List.append_assoc,List.take_append,Ky,show i*2+(2+(xs.length - i)*2) - i*2=2+(xs.length - i)*2 by omega,List.take_of_length_le (by omega)];congr 1;rw [List.take_append,show [Value.int .i64 x.cell,.int .i64 x.num].length=2 from rfl,show 2+(xs.length - i)*2 - 2=(xs.length - i)*2 by omega,eg,List.take_of_length_le (by simp)];rfl
  ·have eu:k ≠ b:=fun he=>cm (by rw [he])
   rw [pn _ _ k eu,sX.block k (by have:=aO.size;omega),pn _ _ k eu,aO.block k J]
theorem aay {e b G:Nat} {W dY:World} {cur:Array Value} {base:Nat} {ok:Nat->Prop} {xs:List cI} (U:W.heap[b]? = some (.cells cur e (0,0))) (aX:cur.size=G*2) {i:Nat} (aa:i<=xs.length) (a6:cur.toList.take (i*2)=gV (xs.take i)) (hM:xs.length+1<=G) (hm:G<=maxLen) (I:base<=b) (c7:ok b) (x:cI)
  (aO:Below W.heap.size (W.setCells b (i*2) [.int .i64 x.cell,.int .i64 x.num]) dY):
  cn.aC e (dY.setCells b ((i+1)*2) (gV (xs.drop i))) base ok (.slice (some ⟨b,0,none⟩) (xs.length+1) G) (xs.take i ++ x :: xs.drop i):=by
 have hlen:(gV (xs.drop i)).length=(xs.length - i)*2:=by rw [x2,List.length_drop]
 obtain ⟨cu,aU,gq,fU⟩:=zm [Value.int .i64 x.cell,.int .i64 x.num] (i*2) W cur U (by simp;omega);have dR:=pV b [Value.int .i64 x.cell,.int .i64 x.num] (i*2) W;have a1:dY.heap[b]? = some (.cells cu e (0,0)):=fS aU (by rw [dR.2.2.2];exact aO);obtain ⟨kx,dz,jm,qV⟩:=zm (gV (xs.drop i)) ((i+1)*2) dY cu a1 (by rw [hlen];omega)
 refine Mi ⟨x2 _,.inr ⟨b,G,kx,by simp;omega,I,dz,by simp;omega,hm,by rw [jm,gq,aX], ?_⟩⟩ (fun k J=>by
  have:b=k:=by simpa [Value.ownBlock] using J
  rw [<-this];exact c7)
 have bQ:cur.toList.length=G*2:=by rw [Array.length_toList,aX]
 have Ky:(gV (xs.take i)).length=i*2:=by rw [x2,List.length_take];omega
 have EH:(cur.toList.take (i*2)).length=i*2:=by rw [a6,Ky]
 have b1:cu.toList.take ((i+1)*2)=gV (xs.take i) ++ [.int .i64 x.cell,.int .i64 x.num]:=by
  rw [fU,a6,List.take_append_of_le_length (by simp;omega),List.take_of_length_le (by simp;omega)]
 rw [qV,b1,Iz];rw [show (xs.take i ++ x :: xs.drop i).length*2=(i+1)*2+(xs.length - i)*2 by simp;omega];rw [List.take_append_of_le_length (by simp;omega),List.take_of_length_le (by simp;omega)];simp [gV]
section
variable {w0:World} {g:Nat} {own:Nat->Nat} {bh a8:Value} {p:Prog} {s:Sys} {aG aZ aP:Value}
theorem SD (i:Nat) (bw:Int) (w:World) (h:bI 81 w0 g own bh a8 p s aG aZ aP w) (aa:i < s.tasks.length) (aS:s.tasks.length<=1048576) (ox:s.log.length<=1073741824) (lL:0<=(R s i).aR) (o7:(R s i).aR<=1048576):
  Calls Tryz.prog 115 #[.pointer (some ⟨g,0,none⟩),.int .i64 i,.int .i64 bw] w fun e af=>e= .returned (.tuple #[])/\∃ own' iR,bI 81 w0 g own' bh a8 p (done s i bw) aG aZ iR af/\Fr w.heap.size own own' w af:=by
 obtain ⟨cX,bL,rfl⟩:=h.kI;obtain ⟨b,cap,rfl,cY,jb⟩:=h.iV (by omega);obtain ⟨cW,aw,rfl⟩:=h.hV;obtain ⟨v3,bC,v9,v10,aM,bb,h5⟩:=h.fe aa;obtain ⟨u3,u8,u9,u10,he,-,-,me,jv⟩:=hA h5;simp only [eK,List.cons.injEq,true_and] at he;obtain ⟨rfl,rfl,rfl,rfl,-⟩:=he;obtain ⟨ev,dp,rfl⟩:=Kd.bt me;obtain ⟨e6,dL,rfl⟩:=Kd.bt jv;have H:=am h;have rE:=am (Kd.cG me (ok':=(fun k=>own k=10+8*i\/own k=11+8*i)) (fun k J=> .inl J.2));have Am:=am (Kd.cG jv (ok':=(fun k=>own k=10+8*i\/own k=11+8*i)) (fun k J=> .inr J.2));have M:=am (((((ba.nil w).known h.bB).cB (aM 1 _ rfl)).cB (aM 9 _ rfl)).cB (aM 10 _ rfl) |>.cB (aM 12 _ rfl));have C:=M.1.aw;simp only [ah] at C;have jc:=am cY;clear h aM bb h5 me jv cY;have bz:(0:Int)<=(i:Int):=by omega
 have b7:(i:Int) < (s.tasks.length:Int):=by omega
 go_enter Tryz.func115,Tryz.ntmps115
 go_wp2_with (first
  | fail)
 refine ot [] (fun _ h=>h) M.1 ?_;clear M C;intro W M;refine jO [0,1,2,3,4,5,6,7,8,9,10,11,12,13,14,15,16,17,18] M.1 ?_;iterate 19 (first|refine cc rfl ?_|refine ch rfl ?_|refine cj rfl ?_|refine cE rfl ?_)
 refine bN ?_;have C:=M.1.aw;simp only [ah] at C;refine ir 19 rfl ?_
 go_wp2_with (first
 |((first|with_reducible refine gB ?_ | with_reducible refine gA ?_);refine cx rfl M.1 ?_;clear M C;intro h2 W M C;simp only [ah] at C))
 refine g3 M.1.pop ?_
 try refine fF ?_
 refine ir 20 rfl ?_
 go_wp2_with (first
 |((with_reducible refine da ?_);refine dv rfl rfl rfl M.1 ?_;clear M C;intro W M C;simp only [ah] at C))
 refine g3 M.1.pop ?_
 try refine fF ?_
 refine mf ?_
 go_wp2_with (first
  | fail)
 refine rP (fun V=>V.heap[g]? = some (.cells #[bh,a8,.slice cX s.cells.length bL,.slice (some ⟨b,0,none⟩) s.tasks.length cap,.int .i64 s.clock,.slice cW s.log.length aw] 81 (0,0))/\V.heap[h2]? = some (.cells #[.int .i64 i,.int .i64 (R s i).aR,.int .i64 bw,.slice ev (R s i).reads.length dp,.slice e6 (R s i).ai.length dL,.int .i64 (R s i).from_] 105 (0,0))) [9,10,11,12] ⟨gW M.1.eU.2.2.2.2.2.1,gW M.1.eU.1⟩ (fun dm=> ?_);have bd:=am dm;clear dm;have hj:=am M.1.drew;clear M C;generalize W.drew=W at hj bd ⊢;have M:=hj;clear hj;refine vN [0,1,2,3,4,5,6] [.dI g #[bh,a8,.slice cX s.cells.length bL,.slice (some ⟨b,0,none⟩) s.tasks.length cap,.int .i64 s.clock,.slice cW s.log.length aw] 81,.dI h2 #[.int .i64 i,.int .i64 (R s i).aR,.int .i64 bw,.slice ev (R s i).reads.length dp,.slice e6 (R s i).ai.length dL,.int .i64 (R s i).from_] 105] (fun V dB=>⟨fun i=>bf dB.1 i,fun i=>bf dB.2 i,trivial⟩) bd.1 ?_;iterate 6 (first|refine cc rfl ?_|refine ch rfl ?_|refine cj rfl ?_|refine cE rfl ?_)
 refine sE rfl rfl ?_;refine bN ?_;have C:=M.1.aw;simp only [ah] at C;refine nU 7 rfl ?_
 go_wp2_with (first
  | fail)
 refine nT ⟨ss bd.1.1 _,ss bd.1.2 _⟩ ?_
 try refine gG ?_
 have ij:=am (H.1.grow M.1.below);have x7:hf.M W w0.heap.size (fun k=>own k=10+8*i\/own k=11+8*i) ((⟨i,(R s i).aR,bw,(R s i).reads,(R s i).ai,(R s i).from_⟩:Entry):Entry) [.int .i64 i,.int .i64 (R s i).aR,.int .i64 bw,.slice ev (R s i).reads.length dp,.slice e6 (R s i).ai.length dL,.int .i64 (R s i).from_]:=Iv ((⟨i,(R s i).aR,bw,(R s i).reads,(R s i).ai,(R s i).from_⟩:Entry):Entry) (Kd.kv rE.1 M.1.below) (Kd.kv Am.1 M.1.below);have bS:=am x7;clear x7;have cK:=am M.1.below.size;have HA:=am H.1.below.size;refine nU 8 rfl ?_
 go_wp2_with (first
 |((with_reducible refine jJ (b:=.append) (xs:=#[.tmp 39,.tmp 41]) rfl ?_);at_builtin;refine Kd.mY hf (w0:=w0) w0.heap.size rfl (.tmp 39) (.tmp 41) 29 105 (.agg #[.int .i64 0,.int .i64 0,.int .i64 0,.slice none 0 0,.slice none 0 0,.int .i64 0]) 80 rfl Tryz.underlying29 (by kernel_rfl) rfl (by decide) (by decide) (.slice cW s.log.length aw) s.log (⟨i,(R s i).aR,bw,(R s i).reads,(R s i).ai,(R s i).from_⟩:Entry) [.int .i64 i,.int .i64 (R s i).aR,.int .i64 bw,.slice ev (R s i).reads.length dp,.slice e6 (R s i).ai.length dL,.int .i64 (R s i).from_] (fun k=>own k=4\/(own k=0/\w.heap.size<=k)\/own k=10+8*i\/own k=11+8*i) (fun k=>own k=10+8*i\/own k=11+8*i) rfl rfl bS.1 (fun k J=>⟨.inr (.inr J),fun he=>by have:=ij.1.log.1 k he.symm;omega⟩) (fun k J=> .inr (.inl ⟨ij.1.dk k J,Nat.le_trans cK.1 J⟩)) (Kd.cG ij.1.log (fun k J=> .inl J)) ij.1.below ij.1.below.size (by omega) ?_;intro v1 g1 bG lG h6 o8;have h3:=am bG;have rX:=am lG;have nY:=am h6;clear bG lG h6 o8))
 obtain ⟨GL,GM,mI,rfl⟩:∃ A n c,v1= .slice A n c:=by
  obtain ⟨A,c,he⟩:=Kd.bt h3.1;exact ⟨A,_,c,he⟩
 have xv:(Value.slice cW s.log.length aw).ownBlock ≠ some g:=fun he=>by have br:own g=4:=ij.1.log.1 g he;rw [ij.1.hI] at br;cases br
 have h4:(Value.slice cW s.log.length aw).ownBlock ≠ some b:=fun he=>by have br:own b=4:=ij.1.log.1 b he;rw [jc.1] at br;cases br
 have Pj:(Value.slice cW s.log.length aw).ownBlock ≠ some h2:=fun he=>by
  have br:own h2=4:=ij.1.log.1 h2 he;have hp:own h2=0:=H.1.dk h2 (M.1.fresh _ List.mem_cons_self);rw [hp] at br;cases br
 have HB:g1.heap[g]? = _:=eQ ij.1.bB nY.1 (Ne.symm xv);have aN:=bf HB;have Pb:=iX HB 5;obtain ⟨dh,oJ,nP,sR,aM,bb,-⟩:=ij.1.fe aa
 have fP:g1.heap[b]? = W.heap[b]? :=by
  refine nY.1.block b ?_ (Ne.symm h4);exact World.block_lt_of_cell? _ _ (aM 1 _ rfl)
 have b1:g1.cell? ⟨b,i*13+1,none⟩=some (.int .i64 (R s i).aR):=(World.cell?_of_block fP).trans (aM 1 _ rfl);have dO:g1.cell? ⟨b,i*13+9,none⟩=some nP:=(World.cell?_of_block fP).trans (aM 9 _ rfl);have gI:g1.cell? ⟨b,i*13+10,none⟩=some sR:=(World.cell?_of_block fP).trans (aM 10 _ rfl);have m3:g1.cell? ⟨b,i*13+7,none⟩=some (.int .i64 (R s i).since):=(World.cell?_of_block fP).trans (aM 7 _ rfl);have V5:g1.cell? ⟨b,i*13+11,none⟩=some (.int .i64 (R s i).bw):=(World.cell?_of_block fP).trans (aM 11 _ rfl);have adz:g1.cell? ⟨b,i*13+12,none⟩=some (.int .i64 (R s i).from_):=(World.cell?_of_block fP).trans (aM 12 _ rfl);have fU:g1.frozen? ⟨b,i*13+1,none⟩=false:=(World.frozen?_of_block fP).trans (bb 1);have h0:g1.frozen? ⟨b,i*13+9,none⟩=false:=(World.frozen?_of_block fP).trans (bb 9);have ko:g1.frozen? ⟨b,i*13+10,none⟩=false:=(World.frozen?_of_block fP).trans (bb 10);have I9:g1.frozen? ⟨b,i*13+7,none⟩=false:=(World.frozen?_of_block fP).trans (bb 7);have Kt:g1.frozen? ⟨b,i*13+11,none⟩=false:=(World.frozen?_of_block fP).trans (bb 11);have V4:g1.frozen? ⟨b,i*13+12,none⟩=false:=(World.frozen?_of_block fP).trans (bb 12);obtain ⟨c1,a1,f2⟩:=ij.1.Zj (B:=w.heap.size) aa HA.1 cK.1 rX.1 nY.1 ((R s i).aR+1) h3.1 (Below.refl _ _);obtain ⟨s2,fB⟩:∃ s2,{b0 s i {R s i with aR:=(R s i).aR+1,reads:= [],ai:= []} with log:=s.log ++ [(⟨i,(R s i).aR,bw,(R s i).reads,(R s i).ai,(R s i).from_⟩:Entry)]} = s2:=⟨_,rfl⟩;rw [fB] at a1;have lj:i < s2.tasks.length:=by rw [<-fB];show i < (b0 s i _).tasks.length;rw [c5];exact aa
 have Ap:R s2 i= {R s i with aR:=(R s i).aR+1,reads:= [],ai:= []}:=by rw [<-fB];exact cD aa
 have Kz:∀ t:Task,i < (b0 s2 i t).tasks.length:=fun t=>by rw [c5];exact lj
 obtain ⟨dz,f3⟩:=a1.setInt (B:=w.heap.size) (i:=i) lj 7 (by decide) 0 {R s i with aR:=(R s i).aR+1,reads:= [],ai:= [],since:=0} (fun _ _ _ _=>by rw [Ap];rfl) (by rw [Ap];exact ⟨rfl,rfl,rfl,rfl⟩);obtain ⟨g',f4⟩:=dz.setInt (B:=w.heap.size) (i:=i) (Kz _) 11 (by decide) 0 {R s i with aR:=(R s i).aR+1,reads:= [],ai:= [],since:=0,bw:=0} (fun _ _ _ _=>by rw [cD lj];rfl) (by rw [cD lj];exact ⟨rfl,rfl,rfl,rfl⟩);rw [set_set] at g';obtain ⟨il,f5⟩:=g'.setInt (B:=w.heap.size) (i:=i) (Kz _) 12 (by decide) 0 {R s i with aR:=(R s i).aR+1,reads:= [],ai:= [],since:=0,bw:=0,from_:=0} (fun _ _ _ _=>by rw [cD lj];rfl) (by rw [cD lj];exact ⟨rfl,rfl,rfl,rfl⟩);rw [set_set] at il;have V7:=am (And.intro HB (eQ bd.1.2 nY.1 (Ne.symm Pj)));have ki:=am (And.intro il ((((Fr.below M.1.below).trans f2).trans f3).trans (f4.trans f5)));have nx:=am fB;clear a1 f2 dz f3 g' f4 il f5 ij bS cK HA rX nY h3 rE Am M C HB aM bb fP xv h4 Pj fB Ap bd;refine nT V7.1 ?_;(try refine gG ?_);refine qY 9 rfl ?_
 go_wp2_with (first
  | fail)
 try refine gG ?_
 refine qY 10 rfl ?_
 go_wp2_with (first
  | fail)
 try refine gG ?_
 refine qY 11 rfl ?_
 go_wp2_with (first
  | fail)
 try refine gG ?_
 refine qY 12 rfl ?_
 go_wp2_with (first
  | fail)
 try refine gG ?_
 refine zU ?_;go_wp2_with (go_at_call 114;refine (BG b _ _ i 0 _ ki.1.1 (Kz _)).mono ?_;rintro e b9 ⟨rfl,mg,f6⟩)
 refine fv ?_;refine ⟨rfl,c1,Value.slice GL GM mI, ?_,ki.1.2.trans (f6.less ki.1.2.size)⟩;unfold k4 at mg;rw [set_set,cD lj,<-nx.1] at mg
 have he:b0 {b0 s i {R s i with aR:=(R s i).aR+1,reads:= [],ai:= []} with log:=s.log ++ [(⟨i,(R s i).aR,bw,(R s i).reads,(R s i).ai,(R s i).from_⟩:Entry)]} i {R s i with aR:=(R s i).aR+1,reads:= [],ai:= [],since:=0,bw:=0,from_:=0,aE:=0,at_:=0} = done s i bw:=by
  simp [done,b0,List.set_set]
 rw [<-he];exact mg
end
def FN (xs:List cI) (cell:Int):Int:=match iD xs cell with
 | none=>0
 | some k=>(putAt xs k).num
theorem abo (A:Option Addr) (c:Nat) (xs:List cI) (cell:Int) (w:World) (az:cn.C w A xs.length xs) (aS:xs.length<=1048576):
  Calls Tryz.prog 139 #[.slice A xs.length c,.int .i64 cell] w fun e af=>e= .returned (.tuple #[.int .i64 (FN xs cell),.bool (iD xs cell).isSome])/\Below w.heap.size w af:=by
 have ew:=am az;have M:=am (ba.nil w);have C:=M.1.aw;clear az;go_enter Tryz.func139,Tryz.ntmps139;go_wp2;go_loopw [7,10] (fun _ j af=>∃ k:Nat,k<=xs.length/\j= .int .i64 k/\av (∀ j,j < k->(putAt xs j).cell ≠ cell)/\av (ba w af [])) (fun _ j _=>xs.length - (intOf j).toNat)
 case atStart=>exact ⟨0,Nat.zero_le _,rfl,⟨fun j aI=>absurd aI (Nat.not_lt_zero j)⟩,M⟩
 case round=>
  obtain ⟨k,J,rfl,du,M2⟩:=hrel;clear M C;have M:=M2;clear M2;have C:=M.1.aw;simp only [ah] at C;by_cases aJ:k < xs.length
  ·have bz:(0:Int)<=(k:Int):=by omega
   have b7:(k:Int) < (xs.length:Int):=by omega
   obtain ⟨b,o,cs,rfl,bQ,au,aM,-⟩:=dd ew.1 gU k aJ (by decide);obtain ⟨x,hG⟩:∃ x,x=putAt xs k:=⟨_,rfl⟩;rw [show xs.getD k gU=x from hG.symm] at au;have eg:=mZ au;subst eg;have cJ:=am aM;have h7:=am hG;obtain ⟨be,I'⟩:∃ be,(x.cell == cell)=be:=⟨_,rfl⟩;have GN:=am I';clear bQ au aM hG;cases be
   ·go_wp2_with (first
    |((first|with_reducible refine gB ?_ | with_reducible refine gA ?_);refine cx rfl M.1 ?_;clear M C;intro g W M C;simp only [ah] at C)
    |((with_reducible refine cv ?_);refine fZ rfl rfl M.1 cJ.1 ?_)
    |((with_reducible refine da ?_);refine dv rfl rfl rfl M.1 ?_;clear M C;intro W M C;simp only [ah] at C))
    go_roundw
    case rel=>exact ⟨k+1,by omega,by go_num,⟨fun j aI=>by
     rcases Nat.lt_or_ge j k with h | h
     ·exact du.1 j h
     ·obtain rfl:j=k:=by omega
      rw [<-h7.1]
      have:=GN.1
      simpa using this⟩,⟨M.1.pop⟩⟩
    case measure=>simp [intOf];omega
   ·go_wp2_with (first
    |((first|with_reducible refine gB ?_ | with_reducible refine gA ?_);refine cx rfl M.1 ?_;clear M C;intro g W M C;simp only [ah] at C)
    |((with_reducible refine cv ?_);refine fZ rfl rfl M.1 cJ.1 ?_)
    |((with_reducible refine da ?_);refine dv rfl rfl rfl M.1 ?_;clear M C;intro W M C;simp only [ah] at C))
    go_ret2;have he:iD xs cell=some k:=Sb aJ du.1 (by rw [<-h7.1];simpa using GN.1);exact ⟨by unfold FN;rw [he,h7.1];rfl,M.1.below⟩
  ·obtain rfl:k=xs.length:=by omega
   have b7:¬ (xs.length:Int) < (xs.length:Int):=by omega
   go_wp2;go_ret2;have he:iD xs cell=none:=Sa du.1;exact ⟨by unfold FN;rw [he];rfl,M.1.below⟩
theorem ML (x:cI) (cell:Int) (w:World) (aq:0<=x.cell) (h1:x.cell<=1048576) (ar:0<=cell) (aA:cell<=1048576):
  Calls Tryz.prog 141 #[.agg #[.int .i64 x.cell,.int .i64 x.num],.int .i64 cell] w fun e af=>e= .returned (.int .i64 (x.cell - cell))/\Below w.heap.size w af:=by
 have M:=am (ba.nil w);have C:=M.1.aw;go_enter Tryz.func141,Tryz.ntmps141;have ws:wrap64 (x.cell - cell)=x.cell - cell:=by unfold wrap64;omega
 go_wp2_with (first
 |((first|with_reducible refine gB ?_ | with_reducible refine gA ?_);refine cx rfl M.1 ?_;clear M C;intro g W M C;simp only [ah] at C)
 |((with_reducible refine cv ?_);refine dV rfl rfl M.1 ?_)
 |((with_reducible refine da ?_);refine dv rfl rfl rfl M.1 ?_;clear M C;intro W M C;simp only [ah] at C))
 go_ret;exact ⟨rfl,M.1.below⟩
def aa4 (xs:List cI) (cell:Int) (w:World) (e:Ending) (af:World):Prop:=∃ k:Nat,e= .returned (.tuple #[.int .i64 k,.bool (decide (k < xs.length/\(putAt xs k).cell=cell))])/\Below w.heap.size w af/\k<=xs.length/\(∀ t,t < k->(putAt xs t).cell < cell)/\(∀ t,k<=t->t < xs.length->cell<=(putAt xs t).cell)
theorem abM (A:Option Addr) (c:Nat) (xs:List cI) (cell:Int) (w:World) (az:cn.C w A xs.length xs) (aS:xs.length<=1048576) (ha:xs.Pairwise (fun a b=>a.cell < b.cell)) (I:∀ k,k < xs.length->0<=(putAt xs k).cell/\(putAt xs k).cell<=1048576) (ar:0<=cell) (aA:cell<=1048576):
  Calls Tryz.prog 140 #[.slice A xs.length c,.int .i64 cell,.func (.func 141) #[] #[]] w fun e af=>aa4 xs cell w e af:=by
 have ew:=am az;have fK:=am ha;have ab:=am I;have M:=am (ba.nil w);have C:=M.1.aw;clear az ha I;go_enter Tryz.func140,Tryz.ntmps140;go_wp2;go_loopw [9,10,11] (fun i j _ af=>∃ hC aa:Nat,i= .int .i64 hC/\j= .int .i64 aa/\hC<=aa/\aa<=xs.length/\av ((∀ t,t < hC->(putAt xs t).cell < cell)/\(∀ t,aa<=t->t < xs.length->cell<=(putAt xs t).cell))/\av (ba w af [])) (fun i j _ _=>(intOf j).toNat - (intOf i).toNat)
 case atStart=>exact ⟨0,xs.length,rfl,rfl,Nat.zero_le _,Nat.le_refl _,⟨⟨fun t a6=>absurd a6 (Nat.not_lt_zero t),fun t h1 ar=>by omega⟩⟩,M⟩
 case round=>
  obtain ⟨hC,aa,rfl,rfl,adA,Ci,du,M2⟩:=hrel;clear M C;have M:=M2;clear M2;have C:=M.1.aw;simp only [ah] at C;by_cases aJ:hC < aa
  ·obtain ⟨m,hm⟩:∃ m,m=(hC+aa) / 2:=⟨_,rfl⟩
   have V8:hC<=m:=by omega
   have pG:m < aa:=by omega
   have DQ:m < xs.length:=by omega
   have bz:(0:Int)<=(m:Int):=by omega
   have b7:(m:Int) < (xs.length:Int):=by omega
   have acE:(hC:Int) < (aa:Int):=by omega
   have acF:((hC:Int)+(aa:Int)) / 2=(m:Int):=by omega
   obtain ⟨b,o,cs,rfl,bQ,au,aM,-⟩:=dd ew.1 gU m DQ (by decide);obtain ⟨x,hG⟩:∃ x,x=putAt xs m:=⟨_,rfl⟩;rw [show xs.getD m gU=x from hG.symm] at au;have eg:=mZ au;subst eg;have cJ:=am aM;have h7:=am hG;have bk:=ab.1 m DQ;rw [<-hG] at bk;have Ax:=am bk;have fo:=am hm;clear bQ au aM hG bk hm;by_cases oz:x.cell - cell < 0
   ·have ed:decide (x.cell - cell < 0)=true:=decide_eq_true oz
    have Cm:=am oz;clear oz
    go_wp2_with (first
    |((with_reducible refine cv ?_);refine fZ rfl rfl M.1 cJ.1 ?_)
    |(go_at_call 141;refine (ML x cell _ Ax.1.1 Ax.1.2 ar aA).mono ?_;rintro e W ⟨rfl,fA⟩;replace M:=am (M.1.step fA);clear C;have C:=M.1.aw;simp only [ah] at C;clear fA))
    go_roundw
    case rel=>exact ⟨m+1,aa,by go_num,rfl,by omega,Ci,⟨⟨fun t a6=>by
     have yJ:(putAt xs m).cell < cell:=by rw [<-h7.1];have:=Cm.1;omega
     rcases Nat.lt_or_ge t m with h | h
     ·have:=Q4 fK.1 h DQ;omega
     ·obtain rfl:t=m:=by omega
      exact yJ,du.1.2⟩⟩,⟨M.1⟩⟩
    case measure=>simp [intOf];omega
   ·have ed:decide (x.cell - cell < 0)=false:=decide_eq_false oz
    have Cm:=am oz;clear oz
    go_wp2_with (first
    |((with_reducible refine cv ?_);refine fZ rfl rfl M.1 cJ.1 ?_)
    |(go_at_call 141;refine (ML x cell _ Ax.1.1 Ax.1.2 ar aA).mono ?_;rintro e W ⟨rfl,fA⟩;replace M:=am (M.1.step fA);clear C;have C:=M.1.aw;simp only [ah] at C;clear fA))
    go_roundw
    case rel=>exact ⟨hC,m,rfl,by go_num,V8,by omega,⟨⟨du.1.1,fun t h1 bR=>by
     have yJ:cell<=(putAt xs m).cell:=by rw [<-h7.1];have:=Cm.1;omega
     rcases Nat.lt_or_ge m t with h | h
     ·have:=Q4 fK.1 h bR;omega
     ·obtain rfl:t=m:=by omega
      exact yJ⟩⟩,⟨M.1⟩⟩
    case measure=>simp [intOf];omega
  ·obtain rfl:aa=hC:=by omega
   have TO:¬ (aa:Int) < (aa:Int):=by omega
   by_cases p7:aa < xs.length
   ·have bz:(0:Int)<=(aa:Int):=by omega
    have b7:(aa:Int) < (xs.length:Int):=by omega
    have TP:decide ((aa:Int) < (xs.length:Int))=true:=decide_eq_true b7;obtain ⟨b,o,cs,rfl,bQ,au,aM,-⟩:=dd ew.1 gU aa p7 (by decide);obtain ⟨x,hG⟩:∃ x,x=putAt xs aa:=⟨_,rfl⟩;rw [show xs.getD aa gU=x from hG.symm] at au;have eg:=mZ au;subst eg;have cJ:=am aM;have h7:=am hG;have bk:=ab.1 aa p7;rw [<-hG] at bk;have Ax:=am bk;obtain ⟨be,I'⟩:∃ be,(x.cell - cell == 0)=be:=⟨_,rfl⟩;have GN:=am I';clear bQ au aM hG bk
    go_wp2_with (first
    |((with_reducible refine Nk ?_ ?_);rfl;(with_reducible refine cv ?_);refine fZ rfl rfl M.1 cJ.1 ?_)
    |((with_reducible refine cv ?_);refine fZ rfl rfl M.1 cJ.1 ?_)
    |(go_at_call 141;refine (ML x cell _ Ax.1.1 Ax.1.2 ar aA).mono ?_;rintro e W ⟨rfl,fA⟩;replace M:=am (M.1.step fA);clear C;have C:=M.1.aw;simp only [ah] at C;clear fA))
    go_ret2
    have aO:decide (aa < xs.length/\(putAt xs aa).cell=cell)=be:=by
     rw [<-GN.1,<-h7.1,Bool.eq_iff_iff];simp [p7];omega
    exact ⟨aa,by rw [aO];rfl,M.1.below,Nat.le_of_lt p7,du.1.1,du.1.2⟩
   ·have b7:¬ (aa:Int) < (xs.length:Int):=by omega
    have TP:decide ((aa:Int) < (xs.length:Int))=false:=decide_eq_false b7;go_wp2;go_ret2;exact ⟨aa,by rw [decide_eq_false (fun c0=>p7 c0.1)];rfl,M.1.below,Ci,du.1.1,du.1.2⟩
theorem Iu {P:Program} (w:World) (Nm TQ ty elem:TypeId) (b o Lf Xy:Nat) (a:Addr) (Lg Xz:Nat) (cs:List Value)
  (hu:P.underlying Nm=some (.slice elem)) (hs:(P.info? elem).map (·.size)=some 2) (aS:cs.length=Nat.min Lg Lf*2)
  (XA:∀ j v,cs[j]? = some v->w.cell? (a.add j)=some v) (ay:∀ j,j < cs.length->(w.cell? ⟨b,o+j,none⟩).isSome=true) (bb:∀ j,j < cs.length->w.frozen? ⟨b,o+j,none⟩=false) (h1:∀ v ∈ cs,v.oneCell'=true):
  (Builtin.copy_ #[Nm,TQ] ty #[.slice (some ⟨b,o,none⟩) Lf Xy,.slice (some a) Lg Xz]).run P w= .ok (goInt (Nat.min Lg Lf)) (w.setCells b o cs):=by
 have ak:=run_loadCells_list (P:=P) w a cs XA;have ja:=run_storeCells_cells (P:=P) b o cs 0 w (by simpa using ay) (by simpa using bb) h1
 cases aF:P.info? elem with
 | none=>simp [aF] at hs
 | some i=>
  have aa:i.size=2:=by simpa [aF] using hs
  simp [Builtin.copy_,run_underlying hu,Builtin.lenOf,Builtin.firstCells,sizeOf,typeInfo,aF,aa,<-aS,ak,ja]
theorem Zk (b n c i cL:Nat) (cs gi:List Value) (w:World) (aa:i < n) (aS:n<=1048576) (nu:n<=c) (Bg:c < n+1) (bQ:cs.length=n*2) (yu:gi.length=2) (e4:∀ j v,cs[j]? = some v->w.cell? ⟨b,j,none⟩=some v) (Ay:∀ j v,gi[j]? = some v->w.cell? ⟨cL,j,none⟩=some v) (EK:∀ v ∈ cs,v.oneCell'=true) (EL:∀ v ∈ gi,v.oneCell'=true):
  Calls Tryz.prog 142 #[.slice (some ⟨b,0,none⟩) n c,.int .i64 i,.slice (some ⟨cL,0,none⟩) 1 1] w fun e af=>
   e= .returned (.slice (some ⟨w.heap.size,0,none⟩) (n+1) (grownCap w (n+1) c 52))/\
   af=(((w.alloc (.cells ((cs.take (i*2)).toArray ++ Builtin.zeroCells #[.int .i64 0,.int .i64 0] (n+1 - i) ++ Builtin.zeroCells #[.int .i64 0,.int .i64 0] ((grownCap w (n+1) c 52) - (n+1))) 52)).drew.setCells w.heap.size (i*2) gi).drew).setCells w.heap.size ((i+1)*2) (cs.drop (i*2)):=by
 have lC:¬ ((i:Int)=(n:Int)):=by omega
 have Cg:(c:Int) < (n:Int)+1:=by omega
 have pF:(n:Int)+1 - (i:Int)=((n+1 - i:Nat):Int):=by omega
 have j6:i+(n+1 - i)=n+1:=by omega
 have lF:IntKind.i64.wrap ((i:Int)+1)=(i:Int)+1:=by rw [IntKind.wrap_i64];omega
 have bZ:(0:Int)<=(i:Int)+1:=by omega
 have iQ:i<=n:=by omega
 have V9:((i:Int)+1).toNat=i+1:=by omega
 have cY:(i:Int)<=(n:Int):=by omega
 have Qh:(0:Int)<=(i:Int):=by omega
 have V':¬ (c=i):=by omega
 have wF:=Tryz.underlying36;obtain ⟨i0,lh,jQ,v5,xk⟩:=info_parts (show (Tryz.prog.info? 52).map (fun i=>(i.zero,i.size,i.bytes))=some (some (.agg #[.int .i64 0,.int .i64 0]),2,16) from by kernel_rfl);have cP:(Tryz.prog.info? 52).map (·.size)=some 2:=by rw [lh];simp [v5]
 have rV:b < w.heap.size:=World.block_lt_of_cell? _ _ (e4 0 _ (List.getElem?_eq_getElem (by omega)));have Wa:cL < w.heap.size:=World.block_lt_of_cell? _ _ (Ay 0 _ (List.getElem?_eq_getElem (by omega)))
 have hold:(Builtin.firstCells i0.size i (.slice (some ⟨b,0,none⟩) i c)).run Tryz.prog w.drew= .ok (cs.take (i*2)).toArray w.drew:=by
  rw [v5]
  exact run_firstCells_some w.drew 2 i ⟨b,0,none⟩ i c (cs.take (i*2)) (by rw [List.length_take];omega) (fun j v aI=>by
   rw [Addr.add_lit,Nat.zero_add];rw [List.getElem?_take] at aI;split at aI
   ·exact e4 j v aI
   ·cases aI)
 have EM:∀ ty,(Builtin.append_ #[36,3] ty #[.slice (some ⟨b,0,none⟩) i c,.int .i64 ((n:Int)+1 - (i:Int))]).run Tryz.prog w=
   .ok (.slice (some ⟨w.heap.size,0,none⟩) (n+1) (grownCap w (n+1) c 52)) (w.drew.alloc (.cells ((cs.take (i*2)).toArray ++ Builtin.zeroCells #[.int .i64 0,.int .i64 0] (n+1 - i) ++ Builtin.zeroCells #[.int .i64 0,.int .i64 0] ((grownCap w (n+1) c 52) - (n+1))) 52)):=fun ty=>by
  have h:=Lib.run_append_grow_zeros w 36 3 ty 52 i0 _ .i64 .i64 wF Tryz.underlying3 lh jQ (some ⟨b,0,none⟩) i c (cs.take (i*2)) hold (n+1 - i) (by omega) (by omega) (by omega) (by omega) (by rw [xk];omega) (by rw [xk,j6];exact growslice_fits Bg (by omega));rw [j6] at h;rw [pF];exact h
 obtain ⟨G,hM⟩:∃ G,G=(grownCap w (n+1) c 52):=⟨_,rfl⟩;rw [<-hM] at EM ⊢;obtain ⟨kC,A6⟩:∃ kC:Array Value,kC=((cs.take (i*2)).toArray ++ Builtin.zeroCells #[.int .i64 0,.int .i64 0] (n+1 - i) ++ Builtin.zeroCells #[.int .i64 0,.int .i64 0] (G - (n+1))):=⟨_,rfl⟩;rw [<-A6] at EM ⊢;have Pk:n+1<=G:=by rw [hM];exact grownCap_ge w _ _ _
 have Wb:(n+1)*2<=kC.size:=by
  rw [A6];simp [Builtin.zeroCells];omega
 obtain ⟨W1,r8⟩:∃ W1,W1=w.drew.alloc (.cells kC 52):=⟨_,rfl⟩;rw [<-r8] at EM
 have cz:∀ j,j < (n+1)*2->(W1.cell? ⟨w.heap.size,j,none⟩).isSome=true:=fun j aI=>by
  rw [r8,World.cell?_alloc_at (w:=w.drew) kC _ w.heap.size j rfl,Array.getElem?_eq_getElem (by omega)];rfl
 have KA:∀ j,W1.frozen? ⟨w.heap.size,j,none⟩=false:=fun j=>by rw [r8];exact World.frozen?_alloc_at (w:=w.drew) kC _ w.heap.size j rfl
 have Pl:∀ j v,w.cell? ⟨b,j,none⟩=some v->W1.cell? ⟨b,j,none⟩=some v:=fun j v h=>by rw [r8,World.cell?_alloc_past (w:=w.drew) _ b j rV];exact h
 have Pm:∀ j v,w.cell? ⟨cL,j,none⟩=some v->W1.cell? ⟨cL,j,none⟩=some v:=fun j v h=>by rw [r8,World.cell?_alloc_past (w:=w.drew) _ cL j Wa];exact h
 have Qi:∀ (W:World),(∀ x,W.cell? x=W1.cell? x)->(∀ x,W.frozen? x=W1.frozen? x)->∀ ty k8,(Builtin.copy_ #[36,36] ty #[.slice (some ⟨w.heap.size,i*2,none⟩) (n+1 - i) k8,.slice (some ⟨cL,0,none⟩) 1 1]).run Tryz.prog W= .ok (goInt (Nat.min 1 (n+1 - i))) (W.setCells w.heap.size (i*2) gi):=fun W yO EN ty k8=>
  Iu W _ _ ty 52 w.heap.size (i*2) (n+1 - i) k8 ⟨cL,0,none⟩ 1 1 gi wF cP (by rw [yu];simp only [Nat.min_def];split <;> omega)
   (fun j v aI=>by rw [Addr.add_lit,Nat.zero_add,yO];exact Pm _ v (Ay j v aI))
   (fun j aI=>by rw [yO];exact cz _ (by omega)) (fun j aI=>by rw [EN];exact KA _) EL
 have adV:G<=9223372036854775807:=by
  have:=grownCap_le_maxLen w (n+1) c 52 (by unfold maxLen;omega)
  rw [<-hM] at this;unfold maxLen at this;omega
 have adB:¬ (G=i):=by omega
 have adW:¬ (G=i+1):=by omega
 have Wc:b ≠ w.heap.size:=by omega
 have oZ:(cs.drop (i*2)).length=(n - i)*2:=by rw [List.length_drop,bQ];omega
 have Qj:∀ (W:World),(∀ x,W.cell? x=(W1.setCells w.heap.size (i*2) gi).cell? x)->(∀ x,W.frozen? x=(W1.setCells w.heap.size (i*2) gi).frozen? x)->∀ ty k8 tF,(Builtin.copy_ #[36,36] ty #[.slice (some ⟨w.heap.size,(i+1)*2,none⟩) (n+1 - (i+1)) k8,.slice (some ⟨b,i*2,none⟩) (n - i) tF]).run Tryz.prog W= .ok (goInt (Nat.min (n - i) (n+1 - (i+1)))) (W.setCells w.heap.size ((i+1)*2) (cs.drop (i*2))):=fun W yO EN ty k8 tF=>
  Iu W _ _ ty 52 w.heap.size ((i+1)*2) (n+1 - (i+1)) k8 ⟨b,i*2,none⟩ (n - i) tF (cs.drop (i*2)) wF cP (by rw [oZ];simp only [Nat.min_def];split <;> omega)
   (fun j v aI=>by
    rw [Addr.add_lit,yO,World.cell?_setCells_out _ _ _ _ _ (fun h _=>absurd h Wc)];exact Pl _ v (e4 (i*2+j) v (by rwa [List.getElem?_drop] at aI)))
   (fun j aI=>by rw [yO];exact isSome_setCells _ _ _ _ (fun t a6=>cz _ (by omega)) _ (cz _ (by omega)))
   (fun j aI=>by rw [EN,World.frozen?_setCells];exact KA _) (fun v bp=>EK v (List.mem_of_mem_drop bp))
 subst r8;have Pn:∀ x,((w.alloc (.cells kC 52)).drew).cell? x=(w.drew.alloc (.cells kC 52)).cell? x:=fun x=>rfl
 have Po:∀ x,((w.alloc (.cells kC 52)).drew).frozen? x=(w.drew.alloc (.cells kC 52)).frozen? x:=fun x=>rfl
 have Pp:∀ x,(((w.alloc (.cells kC 52)).drew.setCells w.heap.size (i*2) gi).drew).cell? x=((w.drew.alloc (.cells kC 52)).setCells w.heap.size (i*2) gi).cell? x:=fun x=>rfl
 have Pq:∀ x,(((w.alloc (.cells kC 52)).drew.setCells w.heap.size (i*2) gi).drew).frozen? x=((w.drew.alloc (.cells kC 52)).setCells w.heap.size (i*2) gi).frozen? x:=fun x=>rfl
 have cb:=am EM;have TR:=am Qi;have TS:=am Qj;have qZ:=am Pn;have tN:=am Po;have pX:=am Pp;have bA:=am Pq;have NZ:=am e4;have adC:=am Ay;clear EM Qi Qj Pn Po Pp Pq e4 Ay EK EL;clear pF j6 hold A6 hM Wb lh jQ v5 xk i0 cP wF cz KA Pl Pm;go_enter Tryz.func142,Tryz.ntmps142
 go_wp2_with (first
 |(at_builtin;refine Lib.wpList_append_run _ rfl _ _ _ _ rfl _ _ rfl rfl _ _ (cb.1 _) ?_)
 |((with_reducible refine jJ (b:=.copy) (xs:=#[.tmp 43,.tmp 44]) rfl ?_);refine wpList_copy_runI _ rfl _ _ 36 36 rfl _ _ rfl rfl (TR.1 _ qZ.1 tN.1 _ _) ?_))
 have mixed:Tryz.prog.follows .mixedOrders=true:=by kernel_rfl
 go_region_law_o (refine step_copy_runI rfl _ _ 36 36 rfl (.slice (some ⟨w.heap.size,(i+1)*2,none⟩) (n+1 - (i+1)) (G - (i+1))) (.slice (some ⟨b,i*2,none⟩) (n - i) (c - i)) (by simp [Act.eval,Act.put]) (by simp [Act.eval,Act.put]) (TS.1 _ pX.1 bA.1 3 (G - (i+1)) (c - i)) ?_);go_wp2;go_ret;exact ⟨rfl,rfl⟩
theorem Z4 (b n c i cL:Nat) (cur:Array Value) (cs gi:List Value) (w:World) (aa:i < n) (aS:n<=1048576) (Bg:n+1<=c) (XB:c<=9223372036854775807) (cm:cL ≠ b) (bQ:cs.length=n*2) (yu:gi.length=2) (e4:∀ j v,cs[j]? = some v->w.cell? ⟨b,j,none⟩=some v) (EK:∀ v ∈ cs,v.oneCell'=true) (EL:∀ v ∈ gi,v.oneCell'=true)
  (Cp:w.heap[b]? = some (.cells cur 52 (0,0))) (s':w.heap[cL]? = some (.cells gi.toArray 52 (0,0))) (cP:cur.size=c*2):
  Calls Tryz.prog 142 #[.slice (some ⟨b,0,none⟩) n c,.int .i64 i,.slice (some ⟨cL,0,none⟩) 1 1] w fun e af=>
   e= .returned (.slice (some ⟨b,0,none⟩) (n+1) c)/\af=(w.drew.setCells b ((i+1)*2) (cs.drop (i*2))).setCells b (i*2) gi:=by
 have lC:¬ ((i:Int)=(n:Int)):=by omega
 have Cg:¬ (c:Int) < (n:Int)+1:=by omega
 have lF:IntKind.i64.wrap ((i:Int)+1)=(i:Int)+1:=by rw [IntKind.wrap_i64];omega
 have bZ:(0:Int)<=(i:Int)+1:=by omega
 have iQ:i<=n:=by omega
 have V9:((i:Int)+1).toNat=i+1:=by omega
 have cY:(i:Int)<=(n:Int):=by omega
 have z1:(i:Int)<=(n:Int)+1:=by omega
 have Qh:(0:Int)<=(i:Int):=by omega
 have V':¬ (c=i):=by omega
 have adX:¬ (c=i+1):=by omega
 have m8:(n:Int)+1<=(c:Int):=by omega
 have ue:(0:Int)<=(n:Int)+1:=by omega
 have adD:((n:Int)+1).toNat=n+1:=by omega
 have oZ:(cs.drop (i*2)).length=(n - i)*2:=by rw [List.length_drop,bQ];omega
 have BZ:∀ j,j < (n+1)*2->(w.cell? ⟨b,j,none⟩).isSome=true:=fun j aI=>by rw [bf Cp j,Array.getElem?_eq_getElem (by omega)];rfl
 have qf:∀ j,w.frozen? ⟨b,j,none⟩=false:=fun j=>iX Cp j
 have Ay:∀ j v,gi[j]? = some v->w.cell? ⟨cL,j,none⟩=some v:=fun j v aI=>by rw [bf s' j];simpa using aI
 have wF:=Tryz.underlying36;obtain ⟨i0,lh,jQ,v5,xk⟩:=info_parts (show (Tryz.prog.info? 52).map (fun i=>(i.zero,i.size,i.bytes))=some (some (.agg #[.int .i64 0,.int .i64 0]),2,16) from by kernel_rfl);have fB:(Tryz.prog.info? 52).map (·.size)=some 2:=by rw [lh];simp [v5]
 have Pr:∀ eX er,(callFunc 151 #[.slice (some ⟨cL,0,none⟩) 1 1,.slice (some ⟨b,(i+1)*2,none⟩) eX er]).run Tryz.prog w= .ok (.value (.bool false)) w:=fun eX er=>by
  rw [run_callFunc_extern Tryz.func151 (by kernel_rfl) (by kernel_rfl) (by kernel_rfl) (e:=Extern.SlicesOverlaps.overlaps #[36,36] #[4]) (by kernel_rfl),
   Lib.run_overlaps_apart w 36 4 52 wF 2 (fun w=>by simp [sizeOf,typeInfo,lh,v5]) ⟨cL,0,none⟩ ⟨b,(i+1)*2,none⟩ 1 1 eX er cm 52 52 2 (c*2) (by simp [World.shape?,s',yu]) (by simp [World.shape?,Cp,cP]) (by omega) (iX s' _) (iX s' _)]
  rfl
 have Lh:∀ ty k8 tF,(Builtin.copy_ #[36,36] ty #[.slice (some ⟨b,(i+1)*2,none⟩) (n+1 - (i+1)) k8,.slice (some ⟨b,i*2,none⟩) (n+1 - i) tF]).run Tryz.prog w.drew= .ok (goInt (Nat.min (n+1 - i) (n+1 - (i+1)))) (w.drew.setCells b ((i+1)*2) (cs.drop (i*2))):=fun ty k8 tF=>
  Iu w.drew _ _ ty 52 b ((i+1)*2) (n+1 - (i+1)) k8 ⟨b,i*2,none⟩ (n+1 - i) tF (cs.drop (i*2)) wF fB (by rw [oZ];simp only [Nat.min_def];split <;> omega)
   (fun j v aI=>by rw [Addr.add_lit];exact e4 (i*2+j) v (by rwa [List.getElem?_drop] at aI))
   (fun j aI=>BZ _ (by omega)) (fun j aI=>qf _) (fun v bp=>EK v (List.mem_of_mem_drop bp))
 obtain ⟨W1,r8⟩:∃ W1,W1=w.drew.setCells b ((i+1)*2) (cs.drop (i*2)):=⟨_,rfl⟩
 have Qk:∀ k,k < (n+1)*2->(W1.cell? ⟨b,k,none⟩).isSome=true:=fun k J=>by
  rw [r8];exact isSome_setCells b (cs.drop (i*2)) ((i+1)*2) w.drew (fun j aI=>BZ _ (by rw [oZ] at aI;omega)) k (BZ k J)
 have Ql:∀ (W:World),(∀ x,W.cell? x=W1.cell? x)->(∀ x,W.frozen? x=W1.frozen? x)->∀ ty k8,(Builtin.copy_ #[36,36] ty #[.slice (some ⟨b,i*2,none⟩) (n+1 - i) k8,.slice (some ⟨cL,0,none⟩) 1 1]).run Tryz.prog W= .ok (goInt (Nat.min 1 (n+1 - i))) (W.setCells b (i*2) gi):=fun W yO EN ty k8=>
  Iu W _ _ ty 52 b (i*2) (n+1 - i) k8 ⟨cL,0,none⟩ 1 1 gi wF fB (by rw [yu];simp only [Nat.min_def];split <;> omega)
   (fun j v aI=>by
    rw [Addr.add_lit,Nat.zero_add,yO,r8,World.cell?_setCells_out b _ _ _ _ (fun h _=>absurd h cm)];exact Ay j v aI)
   (fun j aI=>by rw [yO];exact Qk _ (by omega)) (fun j aI=>by rw [EN,r8,World.frozen?_setCells];exact qf _) EL
 rw [<-r8] at Lh;have Wd:=am Pr;have Gv:=am Lh;have TT:=am Ql;have Ko:=am r8;have mixed:Tryz.prog.follows .mixedOrders=true:=by kernel_rfl
 clear Pr Lh Ql r8 BZ qf Ay Qk e4 EK EL Cp s' lh jQ v5 xk i0 fB wF XB;go_enter Tryz.func142,Tryz.ntmps142;go_wp2_with (simp only [Wd.1])
 go_region_law_o (refine step_copy_runI rfl _ _ 36 36 rfl (.slice (some ⟨b,(i+1)*2,none⟩) (n+1 - (i+1)) (c - (i+1))) (.slice (some ⟨b,i*2,none⟩) (n+1 - i) (c - i)) (by simp [Act.eval,Act.put]) (by simp [Act.eval,Act.put]) (Gv.1 3 _ _) ?_);go_wp2_with ((with_reducible refine jJ (b:=.copy) (xs:=#[.tmp 80,.tmp 81]) rfl ?_);refine wpList_copy_runI _ rfl _ _ 36 36 rfl _ _ rfl rfl (TT.1 _ (fun _=>rfl) (fun _=>rfl) _ _) ?_)
 go_ret;first | exact ⟨rfl,by rw [Ko.1]⟩ | exact ⟨rfl,rfl⟩
theorem Rl (A:Option Addr) (n c pZ kx:Nat):(Value.slice A n c).ownBlock=(Value.slice A pZ kx).ownBlock:=by cases A <;> rfl
def L3 (w:World) (v0:Value) (base:Nat) (ok:Nat->Prop) (cH:List cI) (e:Ending) (af:World):Prop:=∃ wO,e= .returned wO/\cn.aC 52 af base ok wO cH/\w.grownBy af v0.ownBlock
theorem YF (A:Option Addr) (c cL base:Nat) (ok:Nat->Prop) (xs:List cI) (x:cI) (w:World) (df:cn.aC 52 w base ok (.slice A xs.length c) xs) (aS:xs.length<=1048576) (s':w.heap[cL]? = some (.cells #[.int .i64 x.cell,.int .i64 x.num] 52 (0,0))) (l3:∀ k,w.heap.size<=k->ok k) (kZ:base<=w.heap.size):
  Calls Tryz.prog 142 #[.slice A xs.length c,.int .i64 xs.length,.slice (some ⟨cL,0,none⟩) 1 1] w fun e af=>L3 w (.slice A xs.length c) base ok (xs ++ [x]) e af:=by
 have lC:((xs.length:Int) == (xs.length:Int))=true:=by simp
 have Qh:(0:Int)<=(xs.length:Int):=by omega
 obtain ⟨i0,lh,jQ,v5,xk⟩:=info_parts (show (Tryz.prog.info? 52).map (fun i=>(i.zero,i.size,i.bytes))=some (some (.agg #[.int .i64 0,.int .i64 0]),2,16) from by kernel_rfl);have cb:=am df;have eB:=am (Mh df);have We:=am (World.news_of_block s');have e3:=am l3;have eS:=am (And.intro lh (And.intro jQ (And.intro v5 xk)));clear df s' l3 lh jQ v5 xk;go_enter Tryz.func142,Tryz.ntmps142
 go_wp2_with (first
 |((with_reducible refine jJ (b:=.append) (xs:=#[.tmp 23,.tmp 24]) rfl ?_);refine wpList_append_own_at _ rfl (.tmp 23) (.tmp 24) 36 rfl base 52 i0 (.agg #[.int .i64 0,.int .i64 0]) 2 16 Tryz.underlying36 eS.1.1 eS.1.2.1 eS.1.2.2.1 eS.1.2.2.2 rfl (by decide) _ _ (gV xs) rfl eB.1 ⟨cL,0,none⟩ 1 1 [.int .i64 x.cell,.int .i64 x.num] rfl rfl We.1 (fun u hu=>by simp only [List.mem_cons,List.not_mem_nil,or_false] at hu;rcases hu with rfl|rfl <;> rfl) (by unfold maxLen;omega) (by omega) kZ ?_;intro v1 w1 kr U _ dy;have h3:=am kr;have ij:=am (show w.grownBy w1 (Value.slice A xs.length c).ownBlock from U);have Cq:=am (show v1.ownBlock=(Value.slice A xs.length c).ownBlock\/v1.ownBlock=some w.heap.size from dy);clear kr U dy))
 all_goals
  go_ret;refine ⟨v1,rfl,Mi ?_ (fun k J=> ?_),by first|exact ij.1|(have mD:=ij.1;rwa [Rl A xs.length c xs.length xs.length] at mD)⟩
  ·have b1:gV (xs ++ [x])=gV xs ++ [.int .i64 x.cell,.int .i64 x.num]:=by rw [Iz];rfl
   have eg:(xs ++ [x]).length=xs.length+1:=by simp
   rw [b1,eg];exact h3.1
  ·rcases Cq.1 with h | h
   ·rw [h] at J
    first | exact cb.1.1 k J|(rw [Rl A xs.length c xs.length xs.length] at J;exact cb.1.1 k J)
   ·rw [h] at J
    injection J with J;exact e3.1 k (Nat.le_of_eq J)
theorem abN (A:Option Addr) (c cL base i:Nat) (ok:Nat->Prop) (xs:List cI) (x:cI) (w:World) (df:cn.aC 52 w base ok (.slice A xs.length c) xs) (aa:i<=xs.length) (aS:xs.length<=1048576) (s':w.heap[cL]? = some (.cells #[.int .i64 x.cell,.int .i64 x.num] 52 (0,0))) (cm:(Value.slice A xs.length c).ownBlock ≠ some cL) (l3:∀ k,w.heap.size<=k->ok k) (kZ:base<=w.heap.size):
  Calls Tryz.prog 142 #[.slice A xs.length c,.int .i64 i,.slice (some ⟨cL,0,none⟩) 1 1] w fun e af=>L3 w (.slice A xs.length c) base ok (xs.take i ++ x :: xs.drop i) e af:=by
 rcases Nat.lt_or_ge i xs.length with aJ | t'
 ·have aT:=Mh df
  rcases aT.2 with ⟨he,aq⟩ | ⟨b,cap,cur,he,I,U,nu,hm,e4,a6⟩
  ·omega
  ·injection he with dC kP ub
   subst dC;subst ub;have rV:b < w.heap.size:=dK U;have hlen:=x2 xs
   have QI:∀ j v,(gV xs)[j]? = some v->w.cell? ⟨b,j,none⟩=some v:=fun j v aI=>by
    rw [bf U j,<-Array.getElem?_toList];rw [<-a6,List.getElem?_take] at aI;split at aI
    ·exact aI
    ·cases aI
   have bG:∀ v ∈ [Value.int .i64 x.cell,.int .i64 x.num],v.oneCell'=true:=fun u hu=>by simp only [List.mem_cons,List.not_mem_nil,or_false] at hu;rcases hu with rfl|rfl <;> rfl
   rcases Nat.lt_or_ge c (xs.length+1) with Bg | Bg
   ·refine (Zk b xs.length c i cL (gV xs) [.int .i64 x.cell,.int .i64 x.num] w aJ aS nu Bg hlen rfl QI (fun j v aI=>by rw [bf s' j];simpa using aI) (My xs) bG).mono ?_
    rintro e af ⟨rfl,rfl⟩;obtain ⟨G,hM⟩:∃ G,G=grownCap w (xs.length+1) c 52:=⟨_,rfl⟩;have Pk:xs.length+1<=G:=by rw [hM];exact grownCap_ge w _ _ _
    have Wf:G<=maxLen:=by rw [hM];exact grownCap_le_maxLen w (xs.length+1) c 52 (by unfold maxLen;omega)
    rw [<-hM];obtain ⟨kC,A6⟩:∃ kC:Array Value,kC=((gV xs).take (i*2)).toArray ++ Builtin.zeroCells #[.int .i64 0,.int .i64 0] (xs.length+1 - i) ++ Builtin.zeroCells #[.int .i64 0,.int .i64 0] (G - (xs.length+1)):=⟨_,rfl⟩;rw [<-A6]
    have Wg:kC.size=G*2:=by
     rw [A6];simp [Builtin.zeroCells,hlen];omega
    have Wh:kC.toList.take (i*2)=gV (xs.take i):=by
     rw [A6,<-MF];simp only [Array.toList_append,List.append_assoc];rw [List.take_append_of_le_length (by simp [hlen];omega),List.take_of_length_le (by simp;omega)]
    have XC:(w.alloc (.cells kC 52)).drew.heap[w.heap.size]? = some (.cells kC 52 (0,0)):=y9 w _;rw [ID];refine ⟨_,rfl,aay XC Wg aa Wh Pk Wf kZ (l3 _ (Nat.le_refl _)) x (by have:=ei (Below.refl ((w.alloc (.cells kC 52)).drew.setCells w.heap.size (i*2) [.int .i64 x.cell,.int .i64 x.num]).heap.size ((w.alloc (.cells kC 52)).drew.setCells w.heap.size (i*2) [.int .i64 x.cell,.int .i64 x.num]));rw [(pV w.heap.size [Value.int .i64 x.cell,.int .i64 x.num] (i*2) _).2.2.2] at this;exact this), ?_⟩;have s1:=pV w.heap.size [Value.int .i64 x.cell,.int .i64 x.num] (i*2) (w.alloc (.cells kC 52)).drew;have s2:=pV w.heap.size (gV (xs.drop i)) ((i+1)*2) ((w.alloc (.cells kC 52)).drew.setCells w.heap.size (i*2) [.int .i64 x.cell,.int .i64 x.num]).drew;refine ⟨s2.1.trans s1.1,s2.2.1.trans s1.2.1,s2.2.2.1.trans s1.2.2.1, ?_,fun k J _=> ?_⟩
    ·rw [s2.2.2.2]
     show w.heap.size<=((w.alloc (.cells kC 52)).drew.setCells w.heap.size (i*2) [.int .i64 x.cell,.int .i64 x.num]).heap.size;rw [s1.2.2.2];show w.heap.size<=(w.alloc (.cells kC 52)).heap.size;simp
    ·rw [pn _ _ k (by omega)]
     show ((w.alloc (.cells kC 52)).drew.setCells w.heap.size (i*2) [.int .i64 x.cell,.int .i64 x.num]).heap[k]? = _;rw [pn _ _ k (by omega)];exact Below.heap_alloc _ _ _ J
   ·have Cp:cL ≠ b:=fun he=>cm (by rw [he];rfl)
    refine (Z4 b xs.length c i cL cur (gV xs) [.int .i64 x.cell,.int .i64 x.num] w aJ aS Bg (by unfold maxLen at hm;omega) Cp hlen rfl QI (My xs) bG U s' e4).mono ?_;rintro e af ⟨rfl,rfl⟩;rw [ID];obtain ⟨aU,a1⟩:=aa3 df aa Bg x (ei (Below.refl _ w)) (Below.refl _ _);exact ⟨_,rfl,aU,a1⟩
 ·obtain rfl:i=xs.length:=by omega
  rw [List.take_length,List.drop_length];exact YF A c cL base ok xs x w df aS s' l3 kZ
theorem SE {w W:World} (h:Below w.heap.size w W) (r:Option Nat):w.grownBy W r:=⟨h.os,h.tape,h.output,h.size,fun k J _=>h.block k J⟩
theorem Z5 {e b cap:Nat} {W:World} {base:Nat} {ok:Nat->Prop} {xs:List cI} (h:cn.aC e W base ok (.slice (some ⟨b,0,none⟩) xs.length cap) xs) {k:Nat} (J:k < xs.length) (n:Int):
  cn.aC e (W.setCell ⟨b,k*2+1,none⟩ (.int .i64 n)) base ok (.slice (some ⟨b,0,none⟩) xs.length cap) (xs.set k {putAt xs k with num:=n})/\W.grownBy (W.setCell ⟨b,k*2+1,none⟩ (.int .i64 n)) (some b):=by
 obtain ⟨c,bQ,dw,aM,-⟩:=Kd.ob h gU (k:Int) (by omega) (by omega);rw [Int.toNat_natCast] at dw aM;have b1:=Mu dw;subst b1;obtain ⟨df,hM⟩:=Kd.y3 (d:=cn) (okp:=fun _=>False) h (k:Int) (by omega) (by omega) (c:= [.int .i64 (xs.getD k gU).cell,.int .i64 (xs.getD k gU).num]) (seg:= [.int .i64 n]) (j:=1) (x':={putAt xs k with num:=n}) bQ (by rw [Int.toNat_natCast];exact aM) (Nat.le_refl 2) (xW _) (fun k J=>J.elim);rw [Int.toNat_natCast] at df;exact ⟨df,⟨rfl,rfl,rfl,by simp [World.setCell],fun q aF cm=>Below.heap_setCell W ⟨b,k*2+1,none⟩ _ q (fun he=>cm (by rw [show q=b from he]))⟩⟩
theorem S4 (A:Option Addr) (c base:Nat) (ok:Nat->Prop) (xs:List cI) (cell num:Int) (w:World) (df:cn.aC 52 w base ok (.slice A xs.length c) xs) (aS:xs.length<=1048576) (ha:xs.Pairwise (fun a b=>a.cell < b.cell)) (I:∀ k,k < xs.length->0<=(putAt xs k).cell/\(putAt xs k).cell<=1048576) (ar:0<=cell) (aA:cell<=1048576) (l3:∀ k,w.heap.size<=k->ok k) (kZ:base<=w.heap.size):
  Calls Tryz.prog 117 #[.slice A xs.length c,.int .i64 cell,.int .i64 num] w fun e af=>L3 w (.slice A xs.length c) base ok (jH xs ⟨cell,num⟩) e af:=by
 have cb:=am df;have fK:=am ha;have ab:=am I;have e3:=am l3;have M:=am (ba.nil w);have C:=M.1.aw;clear df ha I l3;go_enter Tryz.func117,Tryz.ntmps117
 go_upto_region 2 with (first
 |(go_at_call 140;refine (abM A c xs cell _ (Kd.bW (Kd.ie cb.1).2.2 M.1.below) aS fK.1 ab.1 ar aA).mono ?_;rintro e W1 ⟨k,rfl,fA,J,xv,Ci⟩;obtain ⟨rO,uw⟩:∃ rO,decide (k < xs.length/\(putAt xs k).cell=cell)=rO:=⟨_,rfl⟩;rw [uw];have vM:=am uw;clear uw;replace M:=am (M.1.step fA);clear C;have C:=M.1.aw;simp only [ah] at C;have cT:=am (And.intro J (And.intro xv Ci));clear J xv Ci fA))
 have Qm:=R2 ⟨cell,num⟩ xs k cT.1.1 fK.1 cT.1.2.1 cT.1.2.2;have Ps:=am Qm;clear Qm;cases rO
 ·go_wp2_with (first
  |(go_at_call 142;refine (abN A c W1.heap.size base k ok xs ⟨cell,num⟩ _ (Kd.kv cb.1 (mz M.1.below _)) cT.1.1 aS (y9 W1 _) (fun he=>by have mD:=(fc cb.1 _ he).2.2;have dU:=M.1.below.size;omega) (fun q aF=>e3.1 q (by have dU:=M.1.below.size;simp at aF;omega)) (by have dU:=M.1.below.size;simp;omega)).mono ?_;rintro e wV ⟨v,rfl,ao,U⟩;have h3:=am ao;have ij:=am U;clear ao U))
  go_ret;refine ⟨v,rfl, ?_,(SE (mz M.1.below _) _).trans ij.1⟩;rw [Ps.1,if_neg (of_decide_eq_false vM.1)];exact h3.1
 ·obtain ⟨hl,jE⟩:=of_decide_eq_true vM.1
  obtain ⟨b,cap,he,c7,cur,AS⟩:=oa cb.1 (by omega);injection he with dC kP ub;subst dC;subst ub;clear kP;have Pt:=c9 cb M.1.below;obtain ⟨cs,bQ,dw,aM,qf⟩:=Kd.ob Pt.1 gU (k:Int) (by omega) (by omega);rw [Int.toNat_natCast] at dw aM qf;have b1:=Mu dw;subst b1;have iq:=aM 1 _ rfl;have f1:=qf 1;simp only [show cn.bD=2 from rfl] at iq f1;have bz:(0:Int)<=(k:Int):=by omega
  have b7:(k:Int) < (xs.length:Int):=by omega
  clear dw aM qf bQ AS c7;go_wp2;go_ret;obtain ⟨aU,a1⟩:=Z5 Pt.1 hl num;refine ⟨_,rfl, ?_,(SE M.1.below _).trans a1⟩;rw [Ps.1,if_pos ⟨hl,jE⟩];have eg:({putAt xs k with num:=num}:cI)=⟨cell,num⟩:=by rw [<-jE]
  rw [<-eg];exact aU
section
variable {P:Program} {ops:Array Oper} {a:Go.Act} {l:eM}
theorem w4 {i:Nat} {is:List Nat} {K:Go.Act->Prop} {N:Option Tmp} {t:TypeId} {x:Operand} {ty:TypeId} {bK:String} {e2:Array Edge} {a':Go.Act} {b off:Nat} {cs:List Value} (aa:ops[i]? = some {dst:=N,op:=.load t x,type:=ty,pos:=bK,after:=e2,guard:=none}) (az:a.eval x= .pointer (some ⟨b,off,none⟩)) (ay:∀ V,ah V l->∀ j u,cs[j]? = some u->V.cell? ⟨b,off+j,none⟩=some u) (h:jx P ops (fun V=>ah V l) is K a')
  (hu:(match P.underlying t with | some d=>d.isRow && ((P.info? t).map (·.size) == some cs.length)|none=>false)=true:=by kernel_rfl)
  (ha:a.put N (.agg cs.toArray)=a':=by simp only [Act.put,nL,nM,nN];rfl):jx P ops (fun V=>ah V l) (i :: is) K a:=by
 cases aB:P.underlying t with
 | none=>rw [aB] at hu;cases hu
 | some d=>
  rw [aB] at hu;simp only [Bool.and_eq_true,beq_iff_eq] at hu;refine ⟨_,.agg cs.toArray,aa, ?_,ha ▸ h⟩;exact yieldsIf_load_mid (ops:=ops) (S:=fun V=>ah V l) (op:={dst:=N,op:=.load t x,type:=ty,pos:=bK,after:=e2,guard:=none}) (a:=a) (Gp rfl) t x rfl b off az cs d (fun V dB j u aI=>ay V dB j u aI) aB hu.1 hu.2
end
theorem Mt {V:World} {b o:Nat} {u0 u1:Value} (aq:V.cell? ⟨b,o,none⟩=some u0) (h1:V.cell? ⟨b,o+1,none⟩=some u1):∀ j u, [u0,u1][j]? = some u->V.cell? ⟨b,o+j,none⟩=some u:=fun j u aI=>by
 rcases j with _ | _ | j
 ·simp at aI;subst aI;exact aq
 ·simp at aI;subst aI;exact h1
 ·simp at aI
section
variable {w0:World} {g:Nat} {own:Nat->Nat} {bh a8:Value} {p:Prog} {s:Sys} {aG aZ aP:Value}
theorem SR (i:Nat) (w:World) (h:bI 81 w0 g own bh a8 p s aG aZ aP w) (aa:i < s.tasks.length) (aS:s.tasks.length<=1048576) (hm:s.cells.length<=1048576) (je:(R s i).ai.length<=1048576) (ox:s.log.length<=1073741824) (lL:0<=(R s i).aR) (o7:(R s i).aR<=1048576) (ha:0<=(R s i).at_) (nV:(R s i).at_ < (R s i).ai.length) (aB:0<=(putAt (R s i).ai (R s i).at_.toNat).cell/\(putAt (R s i).ai (R s i).at_.toNat).cell < s.cells.length):
  Calls Tryz.prog 82 #[.pointer (some ⟨g,0,none⟩),.int .i64 i] w fun e af=>e= .returned (.tuple #[])/\∃ own' iR,bI 81 w0 g own' bh a8 p (write s i) aG aZ iR af/\Fr w.heap.size own own' w af:=by
 obtain ⟨b,cap,rfl,cY,jb⟩:=h.iV (by omega);obtain ⟨cW,aw,rfl⟩:=h.hV;obtain ⟨v3,bC,v9,v10,aM,bb,h5⟩:=h.fe aa;obtain ⟨u3,u8,u9,u10,he,-,-,-,jv⟩:=hA h5;simp only [eK,List.cons.injEq,true_and] at he;obtain ⟨rfl,rfl,rfl,rfl,-⟩:=he;obtain ⟨ev,dp,rfl⟩:=Kd.bt jv;have jy:=am (Kd.ie jv).2.2;have H:=am h;obtain ⟨bx,gO⟩:=Int.eq_ofNat_of_zero_le ha;have aJ:bx < (R s i).ai.length:=by omega
 rw [gO,Int.toNat_natCast] at aB;obtain ⟨lD,pD⟩:=aB;obtain ⟨x,az⟩:∃ x,putAt (R s i).ai bx=x:=⟨_,rfl⟩;rw [az] at lD pD;obtain ⟨dP,jE⟩:=Int.eq_ofNat_of_zero_le lD;have hl:dP < s.cells.length:=by omega
 obtain ⟨gZ,K0,rfl,gf,AV⟩:=h.tg (by omega);obtain ⟨eW,oh,sT,dO,-,hk,-,mP⟩:=dd jy.1 gU bx aJ (by decide);cases dO;have qP:=mZ hk;subst qP;have oo:=mP _ rfl;have DZ:=dd jy.1 gU bx aJ (by decide);obtain ⟨_,_,adY,Wi,-,Qn,jg,-⟩:=DZ;cases Wi;have Wj:=mZ Qn;subst Wj;have iq:=jg 1 _ rfl;simp only [show cn.bD=2 from rfl] at oo iq;have U:(R s i).ai.getD bx gU=putAt (R s i).ai bx:=rfl;rw [U,az,jE] at oo;rw [U,az] at iq;have M:=am (((((ba.nil w).known h.bB).cB (aM 10 _ rfl)).cB (aM 6 _ rfl)).cB (aM 11 _ rfl) |>.cB oo |>.cB iq);have C:=M.1.aw;simp only [ah] at C;rw [gO] at M C;have js:=am gO;have ew:=am az;have rT:=am jE;have Pg:=am gf;clear h aM bb h5 jv cY hk mP jg Qn oo iq U az gf;have bz:(0:Int)<=(i:Int):=by omega
 have b7:(i:Int) < (s.tasks.length:Int):=by omega
 have bY:(0:Int)<=(bx:Int):=by omega
 have l5:(bx:Int) < ((R s i).ai.length:Int):=by omega
 have lQ:(0:Int)<=(dP:Int):=by omega
 have oK:(dP:Int) < (s.cells.length:Int):=by omega
 clear gO jE;go_enter Tryz.func82,Tryz.ntmps82
 go_wp2_with (first
  | fail)
 refine ot [] (fun _ h=>h) M.1 ?_;clear M C;intro W M;refine jO [0,1,2,3,4,5,6,7,8,9] M.1 ?_;iterate 9 (first|refine cc rfl ?_|refine ch rfl ?_|refine cj rfl ?_|refine cE rfl ?_)
 refine w4 (cs:= [.int .i64 dP,.int .i64 x.num]) rfl rfl (fun V dB=>Mt dB.2.1 dB.1) ?_;refine bN ?_;have C:=M.1.aw;simp only [ah] at C;refine ir 10 rfl ?_
 go_wp2_with (first
 |((first|with_reducible refine gB ?_ | with_reducible refine gA ?_);refine cx rfl M.1 ?_;clear M C;intro cL W M C;simp only [ah] at C))
 refine g3 M.1.pop ?_
 try refine fF ?_
 refine ir 11 rfl ?_
 go_wp2_with (first
 |((with_reducible refine da ?_);refine dv rfl rfl rfl M.1 ?_;clear M C;intro W M C;simp only [ah] at C))
 refine g3 M.1.pop ?_
 try refine fF ?_
 refine mf ?_
 go_wp2_with (first
  | fail)
 refine ot [15] (fun _ h=>h) M.1 ?_;clear M C;intro W M;refine jO [0,1,2,3,4,5,6,7,8,9,10,11,12,13,14] M.1 ?_;iterate 15 (first|refine cc rfl ?_|refine ch rfl ?_|refine cj rfl ?_|refine cE rfl ?_)
 refine bN ?_;have C:=M.1.aw;simp only [ah] at C;have H1:=am (H.1.grow M.1.below);have kT:=am M.1.below;obtain ⟨bQ,nD⟩:=H1.1.cell hl;have nZ:=am bQ;have q5:=am nD;clear bQ nD;refine lT 15 rfl ?_
 go_wp2_with (first
 |((with_reducible refine bT 50 37 ?_);refine H0 rfl rfl _ _ rfl (g:=gZ) (off:=dP*3) rfl [.int .i64 x.num,.int .i64 (R s i).bw,.int .i64 (-1)] rfl (by kernel_rfl) (oI rfl) (fun j aI=>⟨by (have JB:j < [Value.int .i64 (cellAt s.cells dP).num,.int .i64 (cellAt s.cells dP).time,.int .i64 (cellAt s.cells dP).lock].length:=aI);rw [nZ.1 j _ (List.getElem?_eq_getElem JB)];rfl,q5.1 j⟩) ?_;intro fN aH;obtain ⟨aU,dz⟩:=H1.1.AU (B:=w.heap.size) hl (seg:= [.int .i64 x.num,.int .i64 (R s i).bw,.int .i64 (-1)]) (j:=0) (x':=⟨x.num,(R s i).bw,-1⟩) (Nat.le_refl 3) rfl;rw [Nat.add_zero] at aU dz;have ky:=am (show bI 81 w0 g own bh a8 p (setCell s dP ⟨x.num,(R s i).bw,-1⟩) _ _ _ fN by rw [aH];exact aU);have lA:=am ((Fr.below kT.1).trans (show Fr w.heap.size own own W fN by rw [aH];exact dz));clear aU dz aH M C))
 obtain ⟨m7,pI⟩:∃ m7,setCell s dP ⟨x.num,(R s i).bw,-1⟩=m7:=⟨_,rfl⟩;have EG:i < m7.tasks.length:=by rw [<-pI];exact aa
 have r7:R m7 i=R s i:=by rw [<-pI];rfl
 have EH:m7.tasks.length=s.tasks.length:=by rw [<-pI];rfl
 rw [pI] at ky;have Hv:=am pI;obtain ⟨dh,oJ,nP,sR,aM,bb,h5⟩:=ky.1.fe EG;rw [r7] at aM h5;obtain ⟨u3,u8,u9,u10,yM,-,-,-,rC⟩:=hA h5;simp only [eK,List.cons.injEq,true_and] at yM;obtain ⟨rfl,rfl,rfl,rfl,-⟩:=yM;have q0:=aM 6 _ rfl;rw [js.1] at q0;have tM:=bb 6;obtain ⟨mg,f6⟩:=ky.1.setInt (B:=w.heap.size) (i:=i) EG 6 (by decide) ((bx:Int)+1) {R s i with at_:=(bx:Int)+1} (fun _ _ _ _=>by rw [r7];rfl) (by rw [r7];exact ⟨rfl,rfl,rfl,rfl⟩);have w3:=am (And.intro mg (lA.1.trans f6));clear mg f6 aM bb h5 rC pI;(try refine fF ?_);refine mf ?_
 go_wp2_with (first
  | fail)
 refine Bt (fun mH na=> ?_);have iN:=w3.1;rw [show (fN.setCell ⟨b,i*13+6,none⟩ (.int .i64 ((bx:Int)+1)))=mH from na.symm] at iN;obtain ⟨t5,vY⟩:∃ t5:Task,{R s i with at_:=(bx:Int)+1} = t5:=⟨_,rfl⟩;have Ku:t5.at_=(bx:Int)+1:=by rw [<-vY]
 have Kv:t5.ai=(R s i).ai:=by rw [<-vY]
 have Wk:t5.bw=(R s i).bw:=by rw [<-vY]
 have Pu:t5.aR=(R s i).aR:=by rw [<-vY]
 have KB:(b0 m7 i t5).tasks.length=s.tasks.length:=by rw [c5,EH]
 have Wl:(b0 m7 i t5).log=s.log:=by show m7.log=s.log;rw [<-Hv.1];rfl
 have Co:R (b0 m7 i t5) i=t5:=cD EG
 have hwr:write s i=if (bx:Int)+1=(R s i).ai.length then done (b0 m7 i t5) i (R s i).bw else b0 m7 i t5:=by
  unfold write;simp only [js.1,Int.toNat_natCast,ew.1,show x.cell.toNat=dP by have:=rT.1;omega,Hv.1,vY]
 rw [vY] at iN;have nw:=am hwr;obtain ⟨dh,oJ,nP,sR,nf,-,A5⟩:=iN.1.fe (i:=i) (by rw [KB];exact aa);rw [Co] at nf A5;obtain ⟨u3,u8,u9,u10,yM,-,-,-,rC⟩:=hA A5;simp only [eK,List.cons.injEq,true_and] at yM;obtain ⟨rfl,rfl,rfl,rfl,-⟩:=yM;obtain ⟨I4,nS,rfl⟩:=Kd.bt rC;have ki:=am iN;have zV:=am (((((ba.nil mH).known iN.1.bB).cB (nf 10 _ rfl)).cB (nf 6 _ rfl)).cB (nf 11 _ rfl));rw [Ku,Kv,Wk] at zV;clear w3 iN na vY nf A5 rC hwr q0 tM ky lA;have M:=zV;clear zV;have C:=M.1.aw;simp only [ah] at C;refine gL M.1 ?_;clear M C;intro W M;refine dx [0,1,2,3,4,5,6,7,8,9] M.1 ?_;iterate 10 (first|refine cc rfl ?_|refine ch rfl ?_|refine cj rfl ?_|refine cE rfl ?_)
 refine bN ?_;refine f' ?_;have C:=M.1.aw;simp only [ah] at C;have gj:=am (ki.1.1.grow M.1.below);have gl:=am (ki.1.2.trans (Fr.less (Fr.below M.1.below) ki.1.2.size));by_cases ll:(bx:Int)+1=(R s i).ai.length
 ·have nP:((bx:Int)+1 == ((R s i).ai.length:Int))=true:=by simp [ll]
  have bS:=am ll;clear ll;go_wp2_with (go_at_call 115;refine (SD i _ _ gj.1 (by rw [KB];exact aa) (by rw [KB];exact aS) (by rw [Wl];exact ox) (by rw [Co,Pu];exact lL) (by rw [Co,Pu];exact o7)).mono ?_;rintro e b' ⟨rfl,c1,ui,hr,f7⟩)
  refine fv ?_;refine ⟨rfl,c1,ui, ?_,gl.1.trans (f7.less gl.1.size)⟩;rw [nw.1,if_pos bS.1];exact hr
 ·have nP:((bx:Int)+1 == ((R s i).ai.length:Int))=false:=by simp [ll]
  have bS:=am ll;clear ll;go_wp2;refine fv ?_;refine ⟨rfl,own,.slice cW s.log.length aw, ?_,gl.1⟩;rw [nw.1,if_neg bS.1];exact gj.1
end
def qo (s:Sys) (i:Nat) (a b:Int):Sys:=match iD (R s i).ai b with
 | some k=>b0 s i {R s i with aL:=(R s i).aL.set a.toNat (putAt (R s i).ai k).num}
 | none=>if blind s i b then again s i else b0 s i {R s i with aL:=(R s i).aL.set a.toNat (cellAt s.cells b.toNat).num,reads:=jH (R s i).reads ⟨b,(cellAt s.cells b.toNat).num⟩}
def rq (s:Sys) (i:Nat) (b:Int):Bool:=(iD (R s i).ai b).isSome || !blind s i b
theorem Rm {s:Sys} {i:Nat} (aa:i < s.tasks.length) (d:Deed):load s i d=if rq s i d.b then b0 (qo s i d.a d.b) i {R (qo s i d.a d.b) i with at_:=(R s i).at_+1} else again s i:=by
 unfold load rq qo
 cases bb:iD (R s i).ai d.b with
 | some k=>simp [bb,cD aa,set_set]
 | none=>
  cases I:blind s i d.b with
  | true=>simp [bb]
  | false=>simp [bb,cD aa,set_set]
theorem RJ {s:Sys} {i:Nat} {a b:Int} (h:rq s i b=false):qo s i a b=again s i:=by
 unfold rq at h;unfold qo
 cases bb:iD (R s i).ai b with
 | some k=>rw [bb] at h;simp at h
 | none=>
  rw [bb] at h;simp at h;simp [h,bb]
section
variable {w0:World} {g:Nat} {own:Nat->Nat} {bh a8:Value} {p:Prog} {s:Sys} {aG aZ aP:Value}
theorem SF (i bx:Nat) (cell:Int) (w:World) (h:bI 81 w0 g own bh a8 p s aG aZ aP w) (aa:i < s.tasks.length) (aS:s.tasks.length<=1048576) (hm:s.cells.length<=1048576) (aT:(R s i).bE.length<=1048576) (nX:(R s i).reads.length<=1048576) (je:(R s i).ai.length<=1048576) (B3:(R s i).aL.length=3) (gO:bx < 3) (aq:0<=cell) (h1:cell < s.cells.length) (eN:∀ k,k < s.cells.length-> -1<=(cellAt s.cells k).lock) (JA:(R s i).reads.Pairwise (fun a b=>a.cell < b.cell)) (Hz:∀ k,k < (R s i).reads.length->0<=(putAt (R s i).reads k).cell/\(putAt (R s i).reads k).cell<=1048576):
  Calls Tryz.prog 116 #[.pointer (some ⟨g,0,none⟩),.int .i64 i,.int .i64 (bx:Int),.int .i64 cell] w fun e af=>e= .returned (.bool (rq s i cell))/\∃ own',bI 81 w0 g own' bh a8 p (qo s i bx cell) aG aZ aP af/\Fr w.heap.size own own' w af:=by
 obtain ⟨b,cap,rfl,cY,jb⟩:=h.iV (by omega);obtain ⟨gZ,bL,rfl,gf,AV⟩:=h.tg (by omega);obtain ⟨cW,aw,rfl⟩:=h.hV;obtain ⟨dP,rfl⟩:=Int.eq_ofNat_of_zero_le aq;have jE:dP < s.cells.length:=by omega
 obtain ⟨v3,bC,v9,v10,aM,bb,h5⟩:=h.fe aa;obtain ⟨u3,u8,u9,u10,he,hN,-,me,jv⟩:=hA h5;simp only [eK,List.cons.injEq,true_and] at he;obtain ⟨rfl,rfl,rfl,rfl,-⟩:=he;obtain ⟨gr,bO,rfl,qc,-⟩:=oa hN (show 0 < (R s i).aL.length by omega);obtain ⟨ev,dp,rfl⟩:=Kd.bt me;obtain ⟨e6,dL,rfl⟩:=Kd.bt jv;have hc:=am (Kd.ie jv).2.2;have rE:=am (show cn.aC 52 w w0.heap.size (fun k=>own k=10+8*i\/(own k=0/\w.heap.size<=k)) (.slice ev (R s i).reads.length dp) (R s i).reads from Kd.cG me (fun k J=> .inl J.2));have im:=am (show own gr=8+8*i from qc.2);have H:=am h;have iS:=am eN;have Wm:=am JA;have Wn:=am Hz;have uf:=am (aM 3 _ rfl);have Wo:=am (aM 9 _ rfl);have M:=am (((((ba.nil w).known h.bB).cB (aM 10 _ rfl)).cB (aM 3 _ rfl)).cB (aM 9 _ rfl));have C:=M.1.aw;simp only [ah] at C;have jc:=am cY;clear h aM bb h5 hN me jv cY qc eN JA Hz gf aq;have iu:(0:Int)<=(dP:Int):=by omega
 have bz:(0:Int)<=(i:Int):=by omega
 have b7:(i:Int) < (s.tasks.length:Int):=by omega
 have xd:(0:Int)<=(bx:Int):=by omega
 have vS:(bx:Int) < ((R s i).aL.length:Int):=by omega
 have uh:=am B3;clear B3;go_enter Tryz.func116,Tryz.ntmps116
 go_upto_region 3 with (first
 |(go_at_call 139;refine (abo e6 dL (R s i).ai _ _ (Kd.bW hc.1 M.1.below) je).mono ?_;rintro e W ⟨rfl,fA⟩;obtain ⟨Nn,KC⟩:∃ n,FN (R s i).ai (dP:Int)=n:=⟨_,rfl⟩;obtain ⟨rO,uw⟩:∃ b,(iD (R s i).ai (dP:Int)).isSome=b:=⟨_,rfl⟩;rw [KC,uw];have TU:=am KC;have DJ:=am uw;clear KC uw;replace M:=am (M.1.step fA);clear C;have C:=M.1.aw;simp only [ah] at C;clear fA))
 have H1:=am (H.1.grow M.1.below);cases rO
 ·obtain ⟨nt,fP⟩:∃ nt,blind s i (dP:Int)=nt:=⟨_,rfl⟩
  have jt:=am fP
  have QJ:iD (R s i).ai (dP:Int)=none:=by
   have:=DJ.1
   cases aF:iD (R s i).ai (dP:Int) with
   | none=>rfl
   | some k=>rw [aF] at this;cases this
  have KD:=am QJ;clear fP QJ;cases nt
  ·obtain ⟨bQ,nD⟩:=H1.1.cell jE
   obtain ⟨x,az⟩:∃ x,cellAt s.cells dP=x:=⟨_,rfl⟩;rw [az] at bQ;have ew:=am az;have Li:=iS.1 dP jE;have eT:=bQ 0 _ rfl;rw [Nat.add_zero] at eT;have MW:=am eT;have nZ:=am nD;have gR:=am M.1.below;clear bQ nD az eT
   go_upto_region 9 with (first
   |(go_at_call 119;refine hd M.1 (MK i (dP:Int) _ H1.1 aa aS hm iu h1 (by rw [Int.toNat_natCast];exact Li)) jt.1 ?_;clear M C;intro dY M C;simp only [ah] at C))
   have bn:=am (H.1.grow M.1.below);obtain ⟨bQ,-⟩:=bn.1.cell jE;have eT:=bQ 0 _ rfl;rw [Nat.add_zero,ew.1] at eT;obtain ⟨dh,oJ,nP,sR,en,-,Ft⟩:=bn.1.fe aa;obtain ⟨u3,u8,u9,u10,he,hN,-,-,-⟩:=hA Ft;simp only [eK,List.cons.injEq,true_and] at he;obtain ⟨rfl,rfl,rfl,rfl,-⟩:=he;have eL:dh= .slice (some ⟨gr,0,none⟩) (R s i).aL.length bO:=Option.some.inj ((en 3 _ rfl).symm.trans (j2 M.1.below uf.1));subst eL;obtain ⟨GK,Lj,Fu,A7,A8⟩:=Kd.ob hN 0 (bx:Int) (by omega) vS;rw [Int.toNat_natCast] at A7 A8;obtain ⟨TV,KE⟩:∃ u,GK= [Value.int .i64 u]:=⟨_,Fu⟩;subst KE;have sN:=A7 0 _ rfl;have fr:=A8 0;simp only [show (Kd.int .i64).bD=1 from rfl,Nat.mul_one,Nat.add_zero] at sN fr;have TW:=am M.1.below;have hj:=am (M.1.step (Below.refl _ _));have adE:=am eT;have rD:=am ((((ba.nil dY).known bn.1.bB).cB (en 3 _ rfl)).cB eT);clear M hj C bQ en Ft hN Lj Fu A7 A8 eT;have M:=rD;clear rD;have No:=am sN;have Wp:=am fr;clear sN fr;refine ot [15] (fun _ h=>h) M.1 ?_;clear M;intro W M;refine jO [0,1,2,3,4,5,6,7,8,9,10,11,12,13,14] M.1 ?_;have C:=M.1.aw;simp only [ah] at C;iterate 15 (first|refine cc rfl ?_|refine ch rfl ?_|refine cj rfl ?_|refine cE rfl ?_)
   refine bN ?_;have sN:=j2 M.1.below No.1;have fr:W.frozen? ⟨gr,bx,none⟩=false:=(World.frozen?_of_block (M.1.below.block gr (World.block_lt_of_cell? _ _ No.1))).trans Wp.1;have gE:=am (bn.1.grow M.1.below);have hB:=cf TW M.1.below;refine lT 15 rfl ?_
   go_wp2_with (first
    | fail)
   refine mf ?_;obtain ⟨g',f4⟩:=gE.1.y5 (B:=w.heap.size) (n':=(R s i).aL.length) (c:=bO) (gr:=gr) aa (j2 hB.1 uf.1) bx (by omega) x.num
   go_wp2_with (first
    | fail)
   refine Bt (fun mH na=> ?_);rw [show (W.setCell ⟨gr,bx,none⟩ (.int .i64 x.num))=mH from na.symm] at g' f4;have pv:=am (And.intro g' ((Fr.below hB.1).trans f4));obtain ⟨t5,r7⟩:∃ t5:Task,{R s i with aL:=(R s i).aL.set bx x.num} = t5:=⟨_,rfl⟩;rw [r7] at pv;have Wq:=am r7;have oR:mH.cell? ⟨gr,bx,none⟩=some (.int .i64 x.num):=by rw [na];exact Gf _ sN
   have gR:=am (show b ≠ gr from fun he=>by have br:=im.1;rw [<-he,jc.1] at br;omega)
   have xu:mH.cell? ⟨b,i*13+3,none⟩=some (.slice (some ⟨gr,0,none⟩) (R s i).aL.length bO):=by
    rw [na,World.cell?_setCell_other]
    ·exact j2 hB.1 uf.1
    ·intro c0
     exact gR.1 (congrArg Addr.block c0).symm
   have Pv:mH.cell? ⟨b,i*13+9,none⟩=some (.slice ev (R s i).reads.length dp):=by
    rw [na,World.cell?_setCell_other]
    ·exact j2 hB.1 Wo.1
    ·intro c0
     exact gR.1 (congrArg Addr.block c0).symm
   obtain ⟨-,-,-,-,-,EO,-⟩:=pv.1.1.fe (i:=i) (by rw [c5];exact aa);have h0:=EO 9;have zz:=am h0
   have Pw:cn.aC 52 mH w0.heap.size (fun k=>own k=10+8*i\/(own k=0/\w.heap.size<=k)) (.slice ev (R s i).reads.length dp) (R s i).reads:=by
    rw [na];exact Kd.lp (p:=⟨gr,bx,none⟩) (Kd.kv rE.1 hB.1) (fun k J he=>by have br:=im.1;rw [<-show k=gr from he] at br;omega) _
   have w5:=am Pw;have GO:=am Pv;have Ja:=am xu;have vG:=am oR;have w6:=am (pv.1.1.grow (ei (Below.refl _ _)));have tO:=am (pv.1.2.trans (Fr.less (Fr.below (ei (Below.refl mH.heap.size mH))) pv.1.2.size));clear g' f4 EO h0 Pw Pv xu oR sN fr M C Wq na;refine rP (fun V=>V.heap[b]? = mH.heap[b]? /\V.heap[gr]? = mH.heap[gr]?) [14,15,16] ⟨rfl,rfl⟩ (fun dm=> ?_);have bd:=am dm;clear dm;refine vN [0,1,2,3,4,5,6,7,8,9,10,11,12] [.f ⟨b,i*13+9,none⟩ (.slice ev (R s i).reads.length dp),.f ⟨b,i*13+3,none⟩ (.slice (some ⟨gr,0,none⟩) (R s i).aL.length bO),.f ⟨gr,bx,none⟩ (.int .i64 x.num)] (fun V dB=>⟨(World.cell?_of_block dB.1).trans GO.1,(World.cell?_of_block dB.1).trans Ja.1,(World.cell?_of_block dB.2).trans vG.1,trivial⟩) bd.1 ?_;iterate 13 (first|refine cc rfl ?_|refine ch rfl ?_|refine cj rfl ?_|refine cE rfl ?_)
   refine bN ?_;refine nU 13 rfl ?_
   go_wp2_with (first
   |(go_at_call 117;refine (S4 ev dp w0.heap.size (fun k=>own k=10+8*i\/(own k=0/\w.heap.size<=k)) (R s i).reads (dP:Int) x.num _ (Kd.Yf w5.1) nX Wm.1 Wn.1 iu (by omega) (fun q aF=> .inr ⟨pv.1.1.dk q aF,Nat.le_trans pv.1.2.size aF⟩) pv.1.1.below.size).mono ?_;rintro e qS ⟨v1,rfl,EP,h6⟩;have ER:=am EP;have nY:=am h6;clear EP h6))
   have h4:(Value.slice ev (R s i).reads.length dp).ownBlock ≠ some b:=fun he=>by have br:own b=10+8*i\/(own b=0/\w.heap.size<=b):=w5.1.1 b he;rw [jc.1] at br;omega
   have ES:(Value.slice ev (R s i).reads.length dp).ownBlock ≠ some gr:=fun he=>by have br:own gr=10+8*i\/(own gr=0/\w.heap.size<=gr):=w5.1.1 gr he;rw [im.1] at br;omega
   have fA:qS.heap[b]? = mH.heap[b]? :=nY.1.block b (World.block_lt_of_cell? _ _ GO.1) (Ne.symm h4);have ET:qS.heap[gr]? = mH.heap[gr]? :=nY.1.block gr (World.block_lt_of_cell? _ _ vG.1) (Ne.symm ES)
   obtain ⟨GL,GM,mI,rfl⟩:∃ A n c,v1= .slice A n c:=by
    obtain ⟨A,c,he⟩:=Kd.bt ER.1;exact ⟨A,_,c,he⟩
   have dO:qS.cell? ⟨b,i*13+9,none⟩=some (.slice ev (R s i).reads.length dp):=(World.cell?_of_block fA).trans GO.1;have h0:qS.frozen? ⟨b,i*13+9,none⟩=false:=(World.frozen?_of_block fA).trans zz.1;have Jb:=am (And.intro fA ET);have aX:i < (b0 s i t5).tasks.length:=by rw [c5];exact aa
   have A1:Below w0.heap.size w0 qS:=mA w6.1.below _ w6.1.below.size nY.1 (fun z aX=>(fc w5.1 z aX).2.1);obtain ⟨Lk,hr,f7⟩:=w6.1.aax (B:=w.heap.size) aX (show mH.drew.cell? _=_ from GO.1) tO.1.size A1 nY.1 ER.1;rw [cD aa,set_set] at hr;have iN:=am (And.intro hr (tO.1.trans f7));clear hr f7 fA ET h4 ES A1 aX;refine nT Jb.1 ?_;(try refine gG ?_);refine qY 14 rfl ?_
   go_wp2_with (first
    | fail)
   try refine gG ?_
   refine qY 15 rfl ?_
   go_wp2_with (first
    | fail)
   try refine gG ?_
   refine qY 16 rfl ?_
   go_wp2_with (first
    | fail)
   try refine gG ?_
   refine zU ?_
   go_wp2_with (first
    | fail)
   refine bodyPost_ret (results_tmp rfl _ _ _) rfl ?_;have dt:rq s i (dP:Int)=true:=by unfold rq;rw [KD.1,jt.1];rfl
   have cz:qo s i bx (dP:Int)=b0 s i {t5 with reads:=jH (R s i).reads ⟨(dP:Int),x.num⟩}:=by
    unfold qo;rw [KD.1];simp only [jt.1,Int.toNat_natCast,ew.1,<-r7,if_neg Bool.false_ne_true]
   rw [dt,cz];exact ⟨rfl,Lk,iN.1.1,iN.1.2⟩
  ·have Li:=iS.1 dP jE
   go_wp2_with (first
   |(go_at_call 119;refine hd M.1 (MK i (dP:Int) _ H1.1 aa aS hm iu h1 (by rw [Int.toNat_natCast];exact Li)) jt.1 ?_;clear M C;intro dY M C;simp only [ah] at C)
   |(go_at_call 118;refine (Gs i _ (H.1.grow M.1.below) aa aS hm aT).mono ?_;rintro e b' ⟨rfl,c1,hr,f7⟩))
   refine bodyPost_ret (results_tmp rfl _ _ _) rfl ?_;have dt:rq s i (dP:Int)=false:=by unfold rq;rw [KD.1,jt.1];rfl
   rw [dt,RJ dt];exact ⟨rfl,c1,hr,(Fr.below M.1.below).trans (f7.less M.1.below.size)⟩
 ·obtain ⟨dh,oJ,nP,sR,en,-,Ft⟩:=H1.1.fe aa
  obtain ⟨u3,u8,u9,u10,he,hN,-,-,-⟩:=hA Ft;simp only [eK,List.cons.injEq,true_and] at he;obtain ⟨rfl,rfl,rfl,rfl,-⟩:=he;have eL:dh= .slice (some ⟨gr,0,none⟩) (R s i).aL.length bO:=Option.some.inj ((en 3 _ rfl).symm.trans (j2 M.1.below uf.1));subst eL;obtain ⟨GK,Lj,Fu,A7,A8⟩:=Kd.ob hN 0 (bx:Int) (by omega) vS;rw [Int.toNat_natCast] at A7 A8;obtain ⟨TV,KE⟩:∃ u,GK= [Value.int .i64 u]:=⟨_,Fu⟩;subst KE;have sN:=A7 0 _ rfl;have fr:=A8 0;simp only [show (Kd.int .i64).bD=1 from rfl,Nat.mul_one,Nat.add_zero] at sN fr;clear en Ft hN Lj Fu A7 A8;go_wp2;refine bodyPost_ret (results_tmp rfl _ _ _) rfl ?_;obtain ⟨g',f4⟩:=H1.1.y5 (B:=w.heap.size) (n':=(R s i).aL.length) (c:=bO) (gr:=gr) aa (j2 M.1.below uf.1) bx (by have:=uh.1;omega) Nn;have dt:rq s i (dP:Int)=true:=by unfold rq;rw [DJ.1];rfl
  have cz:qo s i bx (dP:Int)=b0 s i {R s i with aL:=(R s i).aL.set bx Nn}:=by
   unfold qo;have mD:=DJ.1;have dU:=TU.1;unfold FN at dU
   cases aF:iD (R s i).ai (dP:Int) with
   | none=>rw [aF] at mD;cases mD
   | some k=>
    rw [aF] at dU;simp only [Int.toNat_natCast,dU]
  rw [dt,cz];exact ⟨rfl,own,g',(Fr.below M.1.below).trans f4⟩
end
theorem aa5 {s:Sys} {i:Nat} {a b:Int} (aa:i < s.tasks.length) (h:rq s i b=true):(qo s i a b).tasks.length=s.tasks.length/\(R (qo s i a b) i).at_=(R s i).at_:=by
 unfold rq at h;unfold qo
 cases bb:iD (R s i).ai b with
 | some k=>simp only [c5,cD aa,and_self]
 | none=>
  rw [bb] at h;have I:blind s i b=false:=by simpa using h
  simp only [I,Bool.false_eq_true,if_false,c5,cD aa,and_self]
theorem aa6 {d:Deed} {cells:Int} (h:ff d cells=true):d.kind=1\/d.kind=2\/d.kind=3\/d.kind=4\/d.kind=5:=by
 unfold ff at h;repeat' split at h
 all_goals first|(cases h;done)|omega
def LR (T:Nat) (w0:World) (g:Nat) (own:Nat->Nat) (bh a8:Value) (p:Prog) (s:Sys) (aG aZ:Value) (w:World) (e:Ending) (af:World):Prop:=e= .returned (.tuple #[])/\∃ own' iR,bI T w0 g own' bh a8 p s aG aZ iR af/\Fr w.heap.size own own' w af
section
variable {w0:World} {g:Nat} {own:Nat->Nat} {bh a8:Value} {p:Prog} {s:Sys} {aG aZ aP:Value}
theorem abp {N:Nat} (i:Nat) (w:World) (h:bI 81 w0 g own bh a8 p s aG aZ aP w) (hinv:Inv p s N) (cz:N<=1048576) (aX:jI p) (aa:i < s.tasks.length) (dR:(R s i).aE=1) (dy:(R s i).at_<=(actAt (bo p.an (R s i).body.toNat) (R s i).aR.toNat).bP.length) (eN:∀ k,k < s.cells.length-> -1<=(cellAt s.cells k).lock):
  Calls Tryz.prog 78 #[.pointer (some ⟨g,0,none⟩),.int .i64 i] w fun e af=>LR 81 w0 g own bh a8 p (n7 s i (actAt (bo p.an (R s i).body.toNat) (R s i).aR.toNat).bP) aG aZ w e af:=by
 have t:=hinv.task i aa;have aS:s.tasks.length<=1048576:=Nat.le_trans hinv.many cz;have hm:s.cells.length<=1048576:=Nat.le_trans hinv.sz (by decide);have aT:(R s i).bE.length<=1048576:=by rw [t.bE.len];decide
 have nX:(R s i).reads.length<=1048576:=Nat.le_trans (hinv.reads aa) (by decide);have je:(R s i).ai.length<=1048576:=Nat.le_trans (hinv.ai aa) (by decide);have nb:=am t.aL.len;have ox:s.log.length<=1073741824:=by have:=hinv.room;omega
 have lL:=t.iv;have o7:(R s i).aR<=1048576:=Int.le_trans (hinv.aR aa) (by decide);have jC:=t.qv;have fB:(R s i).since<=200:=Int.le_trans t.qw hinv.sn;have HN:=am t.aL.num;have HC:=am t.reads;have Px:=am t.ai;have tE:=am hinv.cells;have iS:=am eN;have HS:=t.oB (by rw [dR];decide)
 have c7:∀ k,k < (actAt (bo p.an (R s i).body.toNat) (R s i).aR.toNat).bP.length->ff (mX (actAt (bo p.an (R s i).body.toNat) (R s i).aR.toNat).bP k) s.cells.length=true:=fun k J=>by
  have iQ:0<=(R s i).body/\(R s i).body < p.an.length:=⟨t.jF,t.jZ⟩;have ha:=wz hinv.form iQ (k:=(R s i).aR.toNat) (by have br:=HS.2.1;have hp:=t.iv;omega);have aO:=(Ii ha HS.2.2).2 k J;rw [hinv.cells];exact aO
 obtain ⟨bl,eu⟩:=Int.eq_ofNat_of_zero_le t.jF;obtain ⟨dI,kV⟩:=Int.eq_ofNat_of_zero_le t.iv;have mT:bl < p.an.length:=by have:=t.jZ;omega
 rw [eu,kV,Int.toNat_natCast,Int.toNat_natCast] at dy c7 ⊢;obtain ⟨cq,ho⟩:∃ x,x=bo p.an bl:=⟨_,rfl⟩;have qk:dI < cq.length:=by have:=HS.2.1;rw [eu,kV,Int.toNat_natCast,<-ho] at this;omega
 rw [<-ho] at dy c7 ⊢;obtain ⟨ac,lY⟩:∃ x,x=actAt cq dI:=⟨_,rfl⟩;rw [<-lY] at dy c7 ⊢;obtain ⟨ds,n0⟩:∃ x,x=ac.bP:=⟨_,rfl⟩;obtain ⟨ek,ey,g0,er,yP,-,-,-,gb⟩:=jk h.prog;simp only [List.cons.injEq,and_true] at yP;obtain ⟨rfl,rfl⟩:=yP;obtain ⟨gp,cV,nW,rfl,kt,hX,en,-⟩:=dd gb ([]:List Act) bl mT (by decide);obtain ⟨k5,kf,rfl,kL,jd⟩:=hX;have c3:=en 0 _ rfl;simp only [show (Kd.slice 55 kAct).bD=1 from rfl,Nat.mul_one,Nat.add_zero] at c3;rw [show p.an.getD bl []=cq from ho.symm] at c3 jd;obtain ⟨iL,ly,Wr,rfl,Ll,Az,CC,-⟩:=dd jd iK dI qk (by decide);rw [show cq.getD dI iK=ac from lY.symm] at Az;obtain ⟨eR,ez,eF,eJ,rfl,Jc,cQ,-,-⟩:=m0 Az;have GP:=CC 1 _ rfl;simp only [show kAct.bD=4 from rfl] at GP;rw [<-n0] at dy c7 GP cQ ⊢
 have oZ:ds.length<=1048576:=by
  have h1:=aX.cq _ (List.getElem_mem mT);have ar:bo p.an bl=p.an[bl]:=zi mT;have aA:=h1.2 ac (by rw [lY,ho,ar];unfold actAt;rw [List.getD_eq_getElem?_getD,List.getElem?_eq_getElem (by rw [<-ar,<-ho];exact qk)];exact List.getElem_mem _);rw [n0];exact aA.1
 obtain ⟨b,cap,rfl,cY,jb⟩:=h.iV (by omega);obtain ⟨cX,bL,rfl⟩:=h.kI;obtain ⟨cW,aw,rfl⟩:=h.hV;obtain ⟨v3,bC,v9,v10,aM,bb,h5⟩:=h.fe aa;obtain ⟨u3,u8,u9,u10,he,hN,-,me,jv⟩:=hA h5;simp only [eK,List.cons.injEq,true_and] at he;obtain ⟨rfl,rfl,rfl,rfl,-⟩:=he;obtain ⟨gr,bO,rfl,qc,-⟩:=oa hN (show 0 < (R s i).aL.length by rw [nb.1];decide);obtain ⟨e6,dL,rfl⟩:=Kd.bt jv;have lz:=am hN;have Am:=am (show cn.aC 52 w w0.heap.size (fun k=>own k=11+8*i\/(own k=0/\w.heap.size<=k)) (.slice e6 (R s i).ai.length dL) (R s i).ai from Kd.cG jv (fun k J=> .inl J.2));have im:=am (show own gr=8+8*i from qc.2);have jc:=am cY;have uf:=am (aM 3 _ rfl);have XD:=am (aM 10 _ rfl);obtain ⟨bx,gO⟩:=Int.eq_ofNat_of_zero_le t.hE;have H:=am h;have gR:=am (show b ≠ gr from fun he=>by have br:=qc.2;rw [<-he,cY] at br;omega);have E7:=aM 0 _ rfl;rw [Nat.add_zero] at E7;have M:=am (((((((((ba.nil w).known h.bB).cB E7).cB (aM 1 _ rfl)).cB (aM 6 _ rfl)).cB (aM 10 _ rfl)).cB (aM 7 _ rfl)).cB (aM 3 _ rfl)).cB (j2 h.below c3) |>.cB (j2 h.below GP));have pr:=am (Kd.bW cQ h.below);rw [eu,kV,gO] at M;rw [gO] at dy;have C:=M.1.aw;simp only [ah] at C;have js:=am gO;have AA:=am kV;have rY:=am c7;clear t HS h aM E7 bb h5 hN me jv cY qc eN c7 c3 GP cQ gb CC Ll Jc kt en kL jd Az ho lY n0 eu gO aX dR;have bz:(0:Int)<=(i:Int):=by omega
 have b7:(i:Int) < (s.tasks.length:Int):=by omega
 have NK:(0:Int)<=(bl:Int):=by omega
 have NL:(bl:Int) < (p.an.length:Int):=by omega
 have adF:(0:Int)<=(dI:Int):=by omega
 have adG:(dI:Int) < (cq.length:Int):=by omega
 have xd:(0:Int)<=(bx:Int):=by omega
 go_enter Tryz.func78,Tryz.ntmps78
 go_wp2_with (first
  | fail)
 refine gL M.1 ?_;clear M C;intro W M;refine dx [0,1,2,3,4,5,6,7,8,9,10,11,12,13,14,15,16,17,18] M.1 ?_;iterate 19 (first|refine cc rfl ?_|refine ch rfl ?_|refine cj rfl ?_|refine cE rfl ?_)
 refine bN ?_;refine f' ?_;have C:=M.1.aw;simp only [ah] at C;have H1:=am (H.1.grow M.1.below);by_cases ll:bx=ds.length
 ·have ed:((bx:Int) == (ds.length:Int))=true:=by simp [ll]
  have bS:=am ll;clear ll;by_cases Cr:(R s i).ai= []
  ·have cg:(((R s i).ai.length:Int) == 0)=true:=by simp [Cr]
   have kd:=am Cr;clear Cr;go_wp2_with (go_at_call 115;refine (SD i _ _ H1.1 aa aS ox lL o7).mono ?_;rintro e b' ⟨rfl,c1,ui,hr,f7⟩)
   refine o6 ?_;refine ⟨rfl,c1,ui, ?_,(Fr.below M.1.below).trans (f7.less M.1.below.size)⟩;unfold n7;simp only [js.1,bS.1,Int.le_refl,if_true,kd.1];exact hr
  ·have cg:(((R s i).ai.length:Int) == 0)=false:=by simp [Cr]
   have kd:=am Cr;clear Cr;go_wp2_with (go_at_call 114;refine (BG b _ _ i 2 _ H1.1 aa).mono ?_;rintro e b' ⟨rfl,hr,f7⟩)
   refine o6 ?_;refine ⟨rfl,own,Value.slice cW s.log.length aw, ?_,(Fr.below M.1.below).trans (f7.less M.1.below.size)⟩;unfold n7;simp only [js.1,bS.1,Int.le_refl,if_true,if_neg kd.1];exact hr
 ·have hl:bx < ds.length:=by omega
  have ed:((bx:Int) == (ds.length:Int))=false:=by simp;omega
  have vS:(bx:Int) < (ds.length:Int):=by omega
  obtain ⟨hx,p0,cs,rfl,bQ,au,aM,-⟩:=dd pr.1 vn bx hl (by decide);obtain ⟨d,aO⟩:∃ d,d=mX ds bx:=⟨_,rfl⟩;rw [show ds.getD bx vn=d from aO.symm] at au;have e:=C5 au;subst e;have oy:=am aM;have qN:av _:=⟨Se (show ff d s.cells.length=true by rw [aO];exact rY.1 bx hl)⟩;have TX:=am (aa6 (show ff d s.cells.length=true by rw [aO];exact rY.1 bx hl))
  have mO:av (n7 s i ds=if d.kind=1 then load s i d else if d.kind=2 then b0 s i {R s i with ai:=jH (R s i).ai ⟨d.a,cC (R s i).aL d.b.toNat⟩,at_:=(bx:Int)+1} else if d.kind=5/\cC (R s i).aL d.a.toNat=0 then b0 (again s i) i {R (again s i) i with bw:=(R s i).since+1} else b0 s i {R s i with aL:=pe (R s i).aL d,at_:=(bx:Int)+1}):=⟨by
   unfold n7;rw [if_neg (show ¬ (ds.length:Int)<=(R s i).at_ by have:=js.1;omega),js.1,Int.toNat_natCast,<-aO]⟩
  clear aM au bQ aO ll
  go_upto_region 8 with (first
  |((first|with_reducible refine gB ?_ | with_reducible refine gA ?_);refine cx rfl M.1 ?_;clear M C;intro cL W M C;simp only [ah] at C)
  |((with_reducible refine cv ?_);refine fZ rfl rfl M.1 oy.1 ?_)
  |((with_reducible refine da ?_);refine dv rfl rfl rfl M.1 ?_;clear M C;intro W M C;simp only [ah] at C))
  by_cases b1:d.kind=1
  ·have cg:(d.kind == 1)=true:=by simp [b1]
   obtain ⟨⟨mi,nV⟩,dE,bZ⟩:=qN.1.1 b1;obtain ⟨j5,ux⟩:=Int.eq_ofNat_of_zero_le mi;have EU:j5 < 3:=by omega
   rw [ux] at M;clear C;have C:=M.1.aw;simp only [ah] at C;have bn:=am (H.1.grow M.1.below);obtain ⟨nt,fP⟩:∃ nt,rq s i d.b=nt:=⟨_,rfl⟩;have jt:=am fP;have qZ:=am b1;have CD:=am ux;have EV:=am M.1.below;clear fP b1 ux;cases nt
   ·go_wp2_with (first
    |(go_at_call 116;refine (SF i j5 d.b _ bn.1 aa aS hm aT nX je nb.1 EU dE bZ iS.1 HC.1.vQ (fun k J=>by have br:=(HC.1.at J).1;have hp:=tE.1;omega)).mono ?_;rintro e b9 ⟨rfl,c1,hr,f7⟩;rw [jt.1]))
    refine o6 ?_;refine ⟨rfl,c1,Value.slice cW s.log.length aw, ?_,(Fr.below EV.1).trans (f7.less EV.1.size)⟩;rw [mO.1,if_pos qZ.1,Rm aa,jt.1,if_neg Bool.false_ne_true,<-RJ (a:=j5) jt.1];exact hr
   ·go_upto_region 20 with (first
    |(go_at_call 116;refine (SF i j5 d.b _ bn.1 aa aS hm aT nX je nb.1 EU dE bZ iS.1 HC.1.vQ (fun k J=>by have br:=(HC.1.at J).1;have hp:=tE.1;omega)).mono ?_;rintro e b9 ⟨rfl,c1,hr,f7⟩;rw [jt.1]))
    obtain ⟨Ws,v7⟩:=aa5 (a:=(j5:Int)) aa jt.1;rw [js.1] at v7;have rb:i < (qo s i j5 d.b).tasks.length:=by rw [Ws];exact aa
    have K:=am (And.intro hr ((Fr.below EV.1).trans (f7.less EV.1.size)));clear hr f7 M C;obtain ⟨_,_,_,_,gS,g5,-⟩:=K.1.1.fe (i:=i) rb;have tK:=gS 6 _ rfl;rw [v7] at tK;have tM:=g5 6;clear gS g5;go_wp2;refine fv ?_;obtain ⟨eG,f9⟩:=K.1.1.setInt (B:=w.heap.size) (i:=i) rb 6 (by decide) ((bx:Int)+1) {R (qo s i j5 d.b) i with at_:=(bx:Int)+1} (fun _ _ _ _=>rfl) ⟨rfl,rfl,rfl,rfl⟩;refine ⟨rfl,c1,Value.slice cW s.log.length aw, ?_,K.1.2.trans f9⟩;rw [mO.1,if_pos qZ.1,Rm aa,jt.1,if_pos rfl,CD.1,js.1];exact eG
  by_cases eg:d.kind=2
  ·have cg:(d.kind == 1)=false:=by simp [eg]
   have cO:(d.kind == 2)=true:=by simp [eg]
   obtain ⟨⟨mi,nV⟩,dE,bZ⟩:=qN.1.2.1 eg;obtain ⟨q1,AB⟩:=Int.eq_ofNat_of_zero_le dE;have Py:q1 < 3:=by omega
   have Wt:(0:Int)<=(q1:Int):=by omega
   have Wu:(q1:Int) < ((R s i).aL.length:Int):=by have:=nb.1;omega
   rw [AB] at M;obtain ⟨KF,-,AD,AE,AF⟩:=Kd.ob lz.1 0 (q1:Int) (by omega) (by have:=nb.1;omega);rw [Int.toNat_natCast] at AD AE AF;obtain ⟨q2,AG⟩:∃ x,cC (R s i).aL q1=x:=⟨_,rfl⟩;have Jd:KF= [Value.int .i64 q2]:=by rw [<-AG];exact AD
   subst Jd;have yl:=AE 0 _ rfl;have DK:=AF 0;simp only [show (Kd.int .i64).bD=1 from rfl,Nat.mul_one,Nat.add_zero] at yl DK;have HD:=am AG;clear AD AE AF AG;have pJ:=am AB;have EV:=am M.1.below;have tN:=am eg;have qZ:=am b1;replace M:=am (M.1.cB yl);clear C;have C:=M.1.aw;simp only [ah] at C;clear b1 eg AB dE bZ;have TY:=am yl;clear yl DK;go_upto_region 11 with (first|fail);have Je:=am (M.1.eU.at_ (g:=cL) (by repeat (first|exact .here | exact .kept | apply gF.there)));have wL:=am (show w.heap.size<=cL from M.1.fresh (.b cL _ _) (by repeat (first|exact List.mem_cons_self | apply List.mem_cons_of_mem)));have bn:=am (H.1.grow M.1.below);have w6:=am (bn.1.grow (ei (Below.refl _ _)));have q9:=fb M.1.below (ei (Below.refl W.heap.size W));have tO:=am (Fr.below (own:=own) q9);have w5:=c9 Am q9;have B4:=am (j2 M.1.below XD.1);have Ja:=am (j2 M.1.below uf.1);have Pz:=am (j2 M.1.below TY.1);obtain ⟨-,-,-,-,-,EO,-⟩:=bn.1.fe aa;have JY:=am (EO 10);clear q9 EO M C;refine rP (fun V=>V.heap[b]? = W.heap[b]? /\V.heap[gr]? = W.heap[gr]? /\V.heap[cL]? = W.heap[cL]?) [16,17,18] ⟨rfl,rfl,rfl⟩ (fun dm=> ?_);have bd:=am dm;clear dm;refine vN [0,1,2,3,4,5,6,7,8,9,10,11,12,13,14] [.f ⟨b,i*13+10,none⟩ (.slice e6 (R s i).ai.length dL),.f ⟨b,i*13+3,none⟩ (.slice (some ⟨gr,0,none⟩) (R s i).aL.length bO),.f ⟨gr,q1,none⟩ (.int .i64 q2),.f ⟨cL,1,none⟩ (.int .i64 d.a),.f ⟨cL,2,none⟩ (.int .i64 (q1:Int))] (fun V dB=>⟨(World.cell?_of_block dB.1).trans B4.1,(World.cell?_of_block dB.1).trans Ja.1,(World.cell?_of_block dB.2.1).trans Pz.1,(World.cell?_of_block dB.2.2).trans (bf Je.1 1),(World.cell?_of_block dB.2.2).trans (bf Je.1 2),trivial⟩) bd.1 ?_;iterate 15 (first|refine cc rfl ?_|refine ch rfl ?_|refine cj rfl ?_|refine cE rfl ?_)
   refine bN ?_;refine nU 15 rfl ?_
   go_wp2_with (first
   |(go_at_call 117;refine (S4 e6 dL w0.heap.size (fun k=>own k=11+8*i\/(own k=0/\w.heap.size<=k)) (R s i).ai d.a q2 _ w5.1 je Px.1.vQ (fun k J=>by have br:=(Px.1.at J).1;have hp:=tE.1;omega) mi (by omega) (fun q aF=> .inr ⟨w6.1.dk q aF,Nat.le_trans tO.1.size aF⟩) w6.1.below.size).mono ?_;rintro e qS ⟨v1,rfl,EP,h6⟩;have ER:=am EP;have nY:=am h6;clear EP h6))
   have h4:(Value.slice e6 (R s i).ai.length dL).ownBlock ≠ some b:=fun he=>by have br:own b=11+8*i\/(own b=0/\w.heap.size<=b):=w5.1.1 b he;rw [jc.1] at br;omega
   have ES:(Value.slice e6 (R s i).ai.length dL).ownBlock ≠ some gr:=fun he=>by have br:own gr=11+8*i\/(own gr=0/\w.heap.size<=gr):=w5.1.1 gr he;rw [im.1] at br;omega
   have PA:(Value.slice e6 (R s i).ai.length dL).ownBlock ≠ some cL:=fun he=>by have br:=(fc Am.1 cL he).2.2;have hp:=wL.1;omega
   have fA:qS.heap[b]? = W.heap[b]? :=nY.1.block b (World.block_lt_of_cell? _ _ B4.1) (Ne.symm h4);have ET:qS.heap[gr]? = W.heap[gr]? :=nY.1.block gr (World.block_lt_of_cell? _ _ Pz.1) (Ne.symm ES);have bk:qS.heap[cL]? = W.heap[cL]? :=nY.1.block cL (dK Je.1) (Ne.symm PA)
   obtain ⟨GL,GM,mI,rfl⟩:∃ A n c,v1= .slice A n c:=by
    obtain ⟨A,c,he⟩:=Kd.bt ER.1;exact ⟨A,_,c,he⟩
   have gI:qS.cell? ⟨b,i*13+10,none⟩=some (.slice e6 (R s i).ai.length dL):=(World.cell?_of_block fA).trans B4.1;have ko:qS.frozen? ⟨b,i*13+10,none⟩=false:=(World.frozen?_of_block fA).trans JY.1;have Jb:=am (And.intro fA (And.intro ET bk));have A1:Below w0.heap.size w0 qS:=mA w6.1.below _ w6.1.below.size nY.1 (fun z aX=>(fc w5.1 z aX).2.1);obtain ⟨Lk,hr,f7⟩:=w6.1.Z3 (B:=w.heap.size) aa (show W.drew.cell? _=_ from B4.1) tO.1.size A1 nY.1 ER.1;have iN:=am (And.intro hr (tO.1.trans f7));clear hr f7 fA ET bk h4 ES PA A1;refine nT Jb.1 ?_;(try refine gG ?_);refine qY 16 rfl ?_
   go_wp2_with (first
    | fail)
   try refine gG ?_
   refine qY 17 rfl ?_
   go_wp2_with (first
    | fail)
   try refine gG ?_
   refine qY 18 rfl ?_
   go_wp2_with (first
    | fail)
   try refine gG ?_
   refine zU ?_;go_upto_region 20 with (first|fail);refine Bt (fun mH na=> ?_);have tP:=iN.1;rw [<-na] at tP;have K:=am tP;have rb:i < (b0 s i {R s i with ai:=jH (R s i).ai ⟨d.a,q2⟩}).tasks.length:=by rw [c5];exact aa
   have v7:(R (b0 s i {R s i with ai:=jH (R s i).ai ⟨d.a,q2⟩}) i).at_=(bx:Int):=by rw [cD aa];exact js.1
   clear iN tP na gI ko;obtain ⟨_,_,_,_,gS,g5,-⟩:=K.1.1.fe (i:=i) rb;have tK:=gS 6 _ rfl;rw [v7] at tK;have tM:=g5 6;clear gS g5;go_wp2;refine fv ?_;obtain ⟨eG,f9⟩:=K.1.1.setInt (B:=w.heap.size) (i:=i) rb 6 (by decide) ((bx:Int)+1) {R (b0 s i {R s i with ai:=jH (R s i).ai ⟨d.a,q2⟩}) i with at_:=(bx:Int)+1} (fun _ _ _ _=>rfl) ⟨rfl,rfl,rfl,rfl⟩;refine ⟨rfl,Lk,Value.slice cW s.log.length aw, ?_,K.1.2.trans f9⟩;rw [cD aa,set_set] at eG;rw [mO.1,if_neg qZ.1,if_pos tN.1,pJ.1,Int.toNat_natCast,HD.1];exact eG
  obtain ⟨mi,nV⟩:=qN.1.2.2.1 b1 eg;obtain ⟨j5,ux⟩:=Int.eq_ofNat_of_zero_le mi;have EU:j5 < 3:=by omega
  have Wv:(0:Int)<=(j5:Int):=by omega
  have Ww:(j5:Int) < ((R s i).aL.length:Int):=by have:=nb.1;omega
  rw [ux] at M;obtain ⟨KG,-,AH,AI,KH⟩:=Kd.ob lz.1 0 (j5:Int) (by omega) (by have:=nb.1;omega);rw [Int.toNat_natCast] at AH AI KH;obtain ⟨gG,AJ⟩:∃ x,cC (R s i).aL j5=x:=⟨_,rfl⟩;have fF:KG= [Value.int .i64 gG]:=by rw [<-AJ];exact AH
  subst fF;have ym:=AI 0 _ rfl;have Jf:=KH 0;simp only [show (Kd.int .i64).bD=1 from rfl,Nat.mul_one,Nat.add_zero] at ym Jf;have AK:=am AJ;clear AH AI KH AJ;replace M:=am (M.1.cB ym);clear C;have C:=M.1.aw;simp only [ah] at C;have cg:(d.kind == 1)=false:=by simp [b1]
  have cO:(d.kind == 2)=false:=by simp [eg]
  have qZ:=am b1;have tN:=am eg;have CD:=am ux;have m9:=am M.1.below;have qO:=am ym;have x8:=am Jf;clear b1 eg ux mi nV ym Jf;by_cases eL:d.kind=3
  ·have dh:(d.kind == 3)=true:=by simp [eL]
   have p3:=am eL;clear eL;go_upto_region 13 with (first|fail);refine ot [9] (fun _ h=>h) M.1 ?_;clear M C;intro W M;refine jO [0,1,2,3,4,5,6,7,8] M.1 ?_;have C:=M.1.aw;simp only [ah] at C;iterate 9 (first|refine cc rfl ?_|refine ch rfl ?_|refine cj rfl ?_|refine cE rfl ?_)
   refine bN ?_;have sN:=j2 M.1.below qO.1;have fr:W.frozen? ⟨gr,j5,none⟩=false:=(World.frozen?_of_block (M.1.below.block gr (World.block_lt_of_cell? _ _ qO.1))).trans x8.1;have gE:=am (H.1.grow M.1.below);obtain ⟨g',f4⟩:=gE.1.y5 (B:=w.heap.size) (n':=(R s i).aL.length) (c:=bO) (gr:=gr) aa (j2 M.1.below uf.1) j5 (by have:=nb.1;omega) d.b;have iN:=am (And.intro g' ((Fr.below M.1.below).trans f4));clear g' f4;refine lT 9 rfl ?_
   go_wp2_with (first
    | fail)
   try refine fF ?_
   refine mf ?_;go_upto_region 20 with (first|fail);refine Bt (fun mH na=> ?_);have tP:=iN.1;rw [<-na] at tP;have K:=am tP;have rb:i < (b0 s i {R s i with aL:=(R s i).aL.set j5 d.b}).tasks.length:=by rw [c5];exact aa
   have v7:(R (b0 s i {R s i with aL:=(R s i).aL.set j5 d.b}) i).at_=(bx:Int):=by rw [cD aa];exact js.1
   clear iN tP na sN fr M C;obtain ⟨_,_,_,_,gS,g5,-⟩:=K.1.1.fe (i:=i) rb;have tK:=gS 6 _ rfl;rw [v7] at tK;have tM:=g5 6;clear gS g5;go_wp2;refine fv ?_;obtain ⟨eG,f9⟩:=K.1.1.setInt (B:=w.heap.size) (i:=i) rb 6 (by decide) ((bx:Int)+1) {R (b0 s i {R s i with aL:=(R s i).aL.set j5 d.b}) i with at_:=(bx:Int)+1} (fun _ _ _ _=>rfl) ⟨rfl,rfl,rfl,rfl⟩;refine ⟨rfl,own,Value.slice cW s.log.length aw, ?_,K.1.2.trans f9⟩;rw [cD aa,set_set] at eG;rw [mO.1,if_neg qZ.1,if_neg tN.1,if_neg (by rw [p3.1];simp)];unfold pe;rw [if_pos p3.1,CD.1,Int.toNat_natCast];exact eG
  have dh:(d.kind == 3)=false:=by simp [eL]
  have p3:=am eL;clear eL;by_cases oN:d.kind=4
  ·have fu:(d.kind == 4)=true:=by simp [oN]
   obtain ⟨dE,bZ⟩:=qN.1.2.2.2 oN;have zF:=am oN;obtain ⟨q1,AB⟩:=Int.eq_ofNat_of_zero_le dE;have Py:q1 < 3:=by omega
   have Wt:(0:Int)<=(q1:Int):=by omega
   have Wu:(q1:Int) < ((R s i).aL.length:Int):=by have:=nb.1;omega
   rw [AB] at M;obtain ⟨KF,-,AD,AE,AF⟩:=Kd.ob lz.1 0 (q1:Int) (by omega) (by have:=nb.1;omega);rw [Int.toNat_natCast] at AD AE AF;obtain ⟨q2,AG⟩:∃ x,cC (R s i).aL q1=x:=⟨_,rfl⟩;have Jd:KF= [Value.int .i64 q2]:=by rw [<-AG];exact AD
   subst Jd;have yl:=AE 0 _ rfl;have DK:=AF 0;simp only [show (Kd.int .i64).bD=1 from rfl,Nat.mul_one,Nat.add_zero] at yl DK;have HD:=am AG;clear AD AE AF AG;replace M:=am (M.1.cB yl);clear C;have C:=M.1.aw;simp only [ah] at C;have pJ:=am AB;have Np:=HN.1 j5 EU;have Nq:=HN.1 q1 Py;rw [AK.1] at Np;rw [HD.1] at Nq;have NH:IntKind.i64.wrap (gG+q2)=gG+q2:=by rw [IntKind.wrap_i64];omega
   have adH:wrap64 (gG+q2)=gG+q2:=by unfold wrap64;omega
   obtain ⟨rP,KI⟩:∃ x,(gG+q2) % 100=x:=⟨_,rfl⟩;have adI:(gG+q2).tmod 100=rP:=by rw [Int.tmod_eq_emod_of_nonneg (by omega)];exact KI
   have Wx:=am KI;clear oN dE bZ AB yl DK Np Nq KI;go_upto_region 15 with (first|fail);refine ot [25] (fun _ h=>h) M.1 ?_;clear M C;intro W M;refine jO [0,1,2,3,4,5,6,7,8,9,10,11,12,13,14,15,16,17,18,19,20,21,22,23,24] M.1 ?_;have C:=M.1.aw;simp only [ah] at C;iterate 25 (first|refine cc rfl ?_|refine ch rfl ?_|refine cj rfl ?_|refine cE rfl ?_)
   refine bN ?_;have sN:=j2 M.1.below qO.1;have fr:W.frozen? ⟨gr,j5,none⟩=false:=(World.frozen?_of_block (M.1.below.block gr (World.block_lt_of_cell? _ _ qO.1))).trans x8.1;have gE:=am (H.1.grow M.1.below);obtain ⟨g',f4⟩:=gE.1.y5 (B:=w.heap.size) (n':=(R s i).aL.length) (c:=bO) (gr:=gr) aa (j2 M.1.below uf.1) j5 (by have:=nb.1;omega) rP;have iN:=am (And.intro g' ((Fr.below M.1.below).trans f4));clear g' f4;refine lT 25 rfl ?_
   go_wp2_with (first
    | fail)
   try refine fF ?_
   refine mf ?_;go_upto_region 20 with (first|fail);refine Bt (fun mH na=> ?_);have tP:=iN.1;rw [<-na] at tP;have K:=am tP;have rb:i < (b0 s i {R s i with aL:=(R s i).aL.set j5 rP}).tasks.length:=by rw [c5];exact aa
   have v7:(R (b0 s i {R s i with aL:=(R s i).aL.set j5 rP}) i).at_=(bx:Int):=by rw [cD aa];exact js.1
   clear iN tP na sN fr M C;obtain ⟨_,_,_,_,gS,g5,-⟩:=K.1.1.fe (i:=i) rb;have tK:=gS 6 _ rfl;rw [v7] at tK;have tM:=g5 6;clear gS g5;go_wp2;refine fv ?_;obtain ⟨eG,f9⟩:=K.1.1.setInt (B:=w.heap.size) (i:=i) rb 6 (by decide) ((bx:Int)+1) {R (b0 s i {R s i with aL:=(R s i).aL.set j5 rP}) i with at_:=(bx:Int)+1} (fun _ _ _ _=>rfl) ⟨rfl,rfl,rfl,rfl⟩;refine ⟨rfl,own,Value.slice cW s.log.length aw, ?_,K.1.2.trans f9⟩;rw [cD aa,set_set] at eG;rw [mO.1,if_neg qZ.1,if_neg tN.1,if_neg (by rw [zF.1];simp)];unfold pe;rw [if_neg p3.1,if_pos zF.1,CD.1,pJ.1,Int.toNat_natCast,Int.toNat_natCast,AK.1,HD.1,Wx.1];exact eG
  have sL:d.kind=5:=by have br:=TX.1;have h1:=qZ.1;have ar:=tN.1;have aA:=p3.1;omega
  have fu:(d.kind == 4)=false:=by simp [sL]
  have iH:(d.kind == 5)=true:=by simp [sL]
  have TZ:=am sL;have zF:=am oN;clear oN sL;go_upto_region 17 with (first|fail);refine gL M.1 ?_;clear M C;intro W M;refine dx [0,1,2,3,4,5,6,7,8] M.1 ?_;iterate 9 (first|refine cc rfl ?_|refine ch rfl ?_|refine cj rfl ?_|refine cE rfl ?_)
  refine bN ?_;refine f' ?_;have C:=M.1.aw;simp only [ah] at C;by_cases rQ:gG=0
  ·have Dm:(gG == 0)=true:=by simp [rQ]
   have zX:=am rQ;have kT:=am M.1.below;have gE:=am (H.1.grow M.1.below);clear rQ
   go_wp2_with (first
   |(go_at_call 118;refine (Gs i _ gE.1 aa aS hm aT).mono ?_;rintro e b9 ⟨rfl,c1,hr,f7⟩;obtain ⟨_,_,_,_,gS,g5,-⟩:=hr.fe (i:=i) (by rw [m1];exact aa);have vE:=gS 7 _ rfl;have Kl:=gS 11 _ rfl;have Kt:=g5 11;rw [pT aa] at vE Kl;have iN:=am (And.intro hr ((Fr.below kT.1).trans (f7.less kT.1.size)));clear hr f7 gS g5 M C))
   refine o6 ?_;obtain ⟨eG,f9⟩:=iN.1.1.setInt (B:=w.heap.size) (i:=i) (by rw [m1];exact aa) 11 (by decide) ((R s i).since+1) {R (again s i) i with bw:=(R s i).since+1} (fun _ _ _ _=>rfl) ⟨rfl,rfl,rfl,rfl⟩;refine ⟨rfl,c1,Value.slice cW s.log.length aw, ?_,iN.1.2.trans f9⟩;rw [mO.1,if_neg qZ.1,if_neg tN.1,if_pos ⟨TZ.1,by rw [CD.1,Int.toNat_natCast,AK.1];exact zX.1⟩];exact eG
  ·have Dm:(gG == 0)=false:=by simp [rQ]
   have zX:=am rQ;have gE:=am (H.1.grow M.1.below);have iN:=am (And.intro gE.1 (Fr.below (own:=own) M.1.below));clear rQ;have rb:i < s.tasks.length:=aa;have v7:(R s i).at_=(bx:Int):=js.1;clear C;obtain ⟨_,_,_,_,gS,g5,-⟩:=iN.1.1.fe (i:=i) rb;have tK:=gS 6 _ rfl;rw [v7] at tK;have tM:=g5 6;clear gS g5;go_wp2;refine fv ?_;obtain ⟨eG,f9⟩:=iN.1.1.setInt (B:=w.heap.size) (i:=i) rb 6 (by decide) ((bx:Int)+1) {R (s) i with at_:=(bx:Int)+1} (fun _ _ _ _=>rfl) ⟨rfl,rfl,rfl,rfl⟩;refine ⟨rfl,own,Value.slice cW s.log.length aw, ?_,iN.1.2.trans f9⟩;have HE:pe (R s i).aL d=(R s i).aL:=by unfold pe;rw [if_neg p3.1,if_neg zF.1]
   rw [mO.1,if_neg qZ.1,if_neg tN.1,if_neg (fun c0=>zX.1 (by rw [CD.1,Int.toNat_natCast,AK.1] at c0;exact c0.2)),HE];exact eG
end
def oe (s:Sys) (aY:List Int):Sys:=aY.foldl (fun s k=>off s k.toNat) s
theorem S5 {s:Sys} {aY:List Int} {k:Nat} (h:k < aY.length):oe s (aY.take (k+1))=off (oe s (aY.take k)) (cC aY k).toNat:=by
 unfold oe;rw [List.take_succ_eq_append_getElem h,List.foldl_append];simp [cC,h]
theorem Inv.oe {p:Prog} {N:Nat}:∀ (aY:List Int) {s:Sys},Inv p s N->(∀ x ∈ aY,x.toNat < s.tasks.length)->Inv p (Eq.oe s aY) N/\(Eq.oe s aY).tasks.length=s.tasks.length
 | [],s,h,_=>⟨h,rfl⟩
 | x :: l,s,h,az=>by
  have h1:=h.off (az x List.mem_cons_self);have ak:(Eq.off s x.toNat).tasks.length=s.tasks.length:=CQ;obtain ⟨a,b⟩:=Inv.oe l h1 (fun y aW=>by rw [ak];exact az y (List.mem_cons_of_mem _ aW));exact ⟨a,b.trans ak⟩
theorem SG {p:Prog} {s:Sys} {N i:Nat} (h:Inv p s N):∀ n,n<=s.tasks.length->ph s i n=oe s (lO (n9 s.tasks i) n)
 | 0,_=>rfl
 | n+1,aS=>by
  have fI:=SG (i:=i) h n (by omega);have ow:(R (ph s i n) n).up=(R s n).up:=((YD p N).zf (i:=i) (List.range n) h (fun q aF=>by have:=List.mem_range.1 aF;omega)).body n (by omega) |>.2.1
  rw [Gm,ow];have h1:=(h.task n (by omega)).lV;by_cases hu:(R s n).up=(i:Int)
  ·have J:n9 s.tasks (i:Int) n=true:=by
    have xw:(aD s.tasks n).up=(i:Int):=hu;unfold n9;simp only [Bool.and_eq_true,decide_eq_true_eq];exact ⟨⟨by omega,xw⟩,by omega⟩
   rw [if_pos hu,Iw J,fI];unfold oe;rw [List.foldl_append];rfl
  ·have J:n9 s.tasks (i:Int) n=false:=by
    have xw:¬ (aD s.tasks n).up=(i:Int):=hu;unfold n9;simp [xw]
   rw [if_neg hu,F' J,fI]
theorem R3 {p:Prog} {s:Sys} {N i:Nat} (h:Inv p s N):mR s i=oe s (kids s.tasks i):=SG h _ (Nat.le_refl _)
theorem bI.rd {T:Nat} {w0:World} {g:Nat} {own:Nat->Nat} {bh a8:Value} {p:Prog} {s:Sys} {aG aZ aP:Value} {W:World} (h:bI T w0 g own bh a8 p s aG aZ aP W):cS.K W s [aG,aZ,.int .i64 s.clock,aP]:=by
 obtain ⟨cX,bL,rfl,g9,fz⟩:=Kd.fG h.cells;obtain ⟨dX,cu,rfl,fU,db⟩:=Kd.fG h.tasks;obtain ⟨cU,bO,rfl,gz,dj⟩:=Kd.fG h.log;rw [fH] at fU db ⊢;exact Bo s g9 fz fU (H' db) gz dj
theorem bI.LI {T:Nat} {w0:World} {g:Nat} {own:Nat->Nat} {bh a8:Value} {p:Prog} {s:Sys} {aG aP:Value} {W:World} {b cap n:Nat} (h:bI T w0 g own bh a8 p s aG (.slice (some ⟨b,0,none⟩) n cap) aP W) {i:Nat} (aa:i < s.tasks.length):∃ cU bO gy e1 ev dp e6 dL,(∀ j u,(eK (R s i) (.slice cU (R s i).aL.length bO) (.slice gy (R s i).bE.length e1) (.slice ev (R s i).reads.length dp) (.slice e6 (R s i).ai.length dL))[j]? = some u->W.cell? ⟨b,i*13+j,none⟩=some u)/\(∀ j,W.frozen? ⟨b,i*13+j,none⟩=false)/\eV.K W (R s i) (eK (R s i) (.slice cU (R s i).aL.length bO) (.slice gy (R s i).bE.length e1) (.slice ev (R s i).reads.length dp) (.slice e6 (R s i).ai.length dL)):=by
 obtain ⟨v3,bC,v9,v10,aM,bb,h5⟩:=h.fe aa;obtain ⟨u3,u8,u9,u10,he,hN,vL,me,jv⟩:=hA h5;simp only [eK,List.cons.injEq,true_and] at he;obtain ⟨rfl,rfl,rfl,rfl,-⟩:=he;obtain ⟨cU,bO,rfl⟩:=Kd.bt hN;obtain ⟨gy,e1,rfl⟩:=Kd.bt vL;obtain ⟨ev,dp,rfl⟩:=Kd.bt me;obtain ⟨e6,dL,rfl⟩:=Kd.bt jv;exact ⟨cU,bO,gy,e1,ev,dp,e6,dL,aM,bb,(gg own).oD h5⟩
theorem Rn {dn:List Task} {t x:Int} (h:x ∈ kids dn t):∃ k:Nat,k < dn.length/\t < (k:Int)/\x=(k:Int):=by
 obtain ⟨i,a,-,-,c,d⟩:=CY.1 h;exact ⟨i,a,c,d⟩
section
variable {w0:World} {g:Nat} {own:Nat->Nat} {bh a8:Value} {p:Prog} {s:Sys} {aG aZ aP:Value}
theorem abY {N:Nat} (cz:N<=1048576) {b cap:Nat}:∀ (n:Nat) (i:Nat) (s:Sys) (own:Nat->Nat) (aP:Value) (w:World),bI 81 w0 g own bh a8 p s aG (.slice (some ⟨b,0,none⟩) s.tasks.length cap) aP w->Inv p s N->i < s.tasks.length->s.tasks.length - i<=n->
  Calls Tryz.prog 112 #[.pointer (some ⟨g,0,none⟩),.int .i64 i] w fun e af=>LR 81 w0 g own bh a8 p (off s i) aG (.slice (some ⟨b,0,none⟩) s.tasks.length cap) w e af:=by
 intro n
 induction n with
 | zero=>intro i s own aP w _ _ aa aS;omega
 | succ n fI=>
 intro i s own aP w h hinv aa iQ;have H:=am h;have c8:=am h.rd;have iC:=h.bB;have ij:=am iC;obtain ⟨cX,bL,rfl⟩:=h.kI;obtain ⟨cW,aw,rfl⟩:=h.hV;have aS:s.tasks.length<=1048576:=Nat.le_trans hinv.many cz;have zw:=am fI;have xA:=am ((QS hinv aa).trans (by rw [R3 hinv]));obtain ⟨aY,mN⟩:∃ x,kids s.tasks (i:Int)=x:=⟨_,rfl⟩;have lf:=am mN;have KJ:=am (show (kids s.tasks (i:Int)).length=aY.length by rw [mN]);have EW:=am (show ∀ x ∈ aY,∃ k:Nat,k < s.tasks.length/\(i:Int) < (k:Int)/\x=(k:Int) from fun x az=>Rn (by rw [mN];exact az));have hl:aY.length<=1048576:=by rw [<-mN];exact Nat.le_trans (C' _ _) aS
 have A2:=am hinv;have M:=am ((ba.nil w).known iC);have C:=M.1.aw;simp only [ah] at C;clear h fI iC mN hinv;go_enter Tryz.func112,Tryz.ntmps112
 go_wp2_with (first
 |((with_reducible refine cv ?_);refine fZ rfl rfl M.1 (fun j u aI=>Fb ij.1 aI) ?_)
 |(go_at_call 111;refine (IH s _ _ _ (cS.bH M.1.below c8.1) aS).mono ?_;rintro e W1 ⟨v,rfl,bp,I⟩;obtain ⟨A,c,rfl,-,uv⟩:=Kd.fG bp;rw [lf.1] at bp uv;rw [KJ.1];have rV:=fb M.1.below I;have h3:=am (show (Kd.int .i64).aC 3 W1 w0.heap.size (fun q=>own q=0) (.slice A aY.length c) aY from Kd.ft (Kd.cG (Kd.fW bp) (fun q aF=>H.1.dk q (Nat.le_trans M.1.below.size aF.2.1))) (Nat.le_trans H.1.below.size M.1.below.size));have H1:=am (H.1.grow rV);have pX:=am (Fr.below (own:=own) rV);clear bp uv I rV M C))
 go_loopw [5,14] (fun _ j af=>∃ (k:Nat) (own':Nat->Nat) (iR:Value),k<=aY.length/\j= .int .i64 k/\av (bI 81 w0 g own' bh a8 p (oe s (aY.take k)) (.slice cX s.cells.length bL) (.slice (some ⟨b,0,none⟩) s.tasks.length cap) iR af)/\av (Fr w.heap.size own own' w af)/\av ((Kd.int .i64).aC 3 af w0.heap.size (fun q=>own' q=0) (.slice A aY.length c) aY)) (fun _ j _=>aY.length - (intOf j).toNat)
 case atStart=>exact ⟨0,own,_,Nat.zero_le _,rfl,H1,pX,h3⟩
 case round=>
  clear H1 pX h3;obtain ⟨k,jW,JD,J,rfl,cT,hD,h3⟩:=hrel;obtain ⟨re,eN⟩:=Inv.oe (aY.take k) A2.1 (fun x az=>by obtain ⟨q,a,-,rfl⟩:=EW.1 x (List.mem_of_mem_take az);simpa using a);by_cases aJ:k < aY.length
  ·obtain ⟨fD,pF,j6,yQ⟩:=EW.1 (cC aY k) (by rw [show cC aY k=aY[k] by simp [cC,aJ]];exact List.getElem_mem aJ)
   have fC:=am (S5 (s:=s) aJ);obtain ⟨cA,gP⟩:∃ x:Sys,oe s (aY.take k)=x:=⟨_,rfl⟩;rw [gP] at cT re eN fC;have yR:=am re;have bz:(0:Int)<=(k:Int):=by omega
   have b7:(k:Int) < (aY.length:Int):=by omega
   obtain ⟨cy,mb,az⟩:=Kd.kG (Kd.ie h3.1).2.2 (k:Int) bz b7;cases mb;simp only [Int.toNat_natCast] at az;rw [show rd aY (k:Int)=cC aY k from rfl,yQ] at az;rw [yQ,Int.toNat_natCast] at fC;have iS:=am eN;have adJ:=am yQ;have Lm:fD < cA.tasks.length:=by rw [eN];exact pF
   have adK:i < fD:=by omega
   rw [<-eN] at cT;clear gP re yQ eN
   go_wp2_with (first
   |(go_at_call 112;refine (zw.1 fD cA jW _ _ cT.1 yR.1 Lm (by have:=iS.1;omega)).mono ?_;rintro e b9 ⟨rfl,pa,xx,eG,f9⟩;rw [iS.1] at eG;have KK:=am (Kd.cG (Kd.eI (Kd.fW h3.1) (fun q aF ak=>f9.block q ak aF.1)) (ok':=fun q=>pa q=0) (fun q aF=>f9.lo q aF.2.2.1 aF.1));have wQ:=am eG;have gl:=am (hD.1.trans (f9.less hD.1.size));clear eG f9))
   go_roundw
   case rel=>exact ⟨k+1,pa,xx,by omega,by go_num,⟨by rw [fC.1];exact wQ.1⟩,gl,KK⟩
   case measure=>simp [intOf];omega
  ·obtain rfl:k=aY.length:=by omega
   have jM:¬ (aY.length:Int) < (aY.length:Int):=by omega
   rw [List.take_length] at cT re eN;have KL:av (off s i=nH (oe s aY) i):=⟨by rw [xA.1,lf.1]⟩;obtain ⟨cA,gP⟩:∃ x:Sys,oe s aY=x:=⟨_,rfl⟩;rw [gP] at cT re eN KL;have j6:i < cA.tasks.length:=by rw [eN];exact aa
   have pJ:=am cT.1.bB;obtain ⟨cW,aw,rfl⟩:=cT.1.hV;have yR:=am re;have iS:=am eN;have bz:(0:Int)<=(i:Int):=by omega
   have b7:(i:Int) < (s.tasks.length:Int):=by omega
   obtain ⟨cU,bO,gy,e1,ev,dp,e6,dL,aM,bb,Cs⟩:=cT.1.LI j6;have cJ:=am aM;have EE:=am Cs;obtain ⟨t0,D'⟩:∃ t,R cA i=t:=⟨_,rfl⟩;have AL:=am D';have M:=am (((ba.nil wr).known cT.1.bB).cB (aM 5 _ rfl));rw [D'] at cJ EE M;have C:=M.1.aw;simp only [ah] at C;obtain ⟨nt,fP⟩:∃ nt,isLive t0=nt:=⟨_,rfl⟩;have s3:=am fP;clear aM bb Cs gP re eN fP h3 pJ;have XE:eK t0 (.slice cU t0.aL.length bO) (.slice gy t0.bE.length e1) (.slice ev t0.reads.length dp) (.slice e6 t0.ai.length dL)=eK t0 (.slice cU t0.aL.length bO) (.slice gy t0.bE.length e1) (.slice ev t0.reads.length dp) (.slice e6 t0.ai.length dL):=rfl;clear XE;cases nt
   ·go_wp2_with (first
    |((with_reducible refine cv ?_);refine fZ rfl rfl M.1 (fun j u aI=>cJ.1 j u aI) ?_)
    |(go_at_call 45;refine hd M.1 (Gh _ _ _ (eV.bH M.1.below EE.1)) s3.1 ?_;clear M C;intro W M C;simp only [ah] at C))
    refine o6 ?_;refine ⟨rfl,jW,Value.slice cW cA.log.length aw, ?_,hD.1.trans (Fr.less (Fr.below M.1.below) hD.1.size)⟩
    ·have lk:off s i=cA:=by
      rw [KL.1];unfold nH;rw [AL.1,s3.1];rfl
     rw [lk];exact cT.1.grow M.1.below
   ·go_upto_region 9 with (first
    |((with_reducible refine cv ?_);refine fZ rfl rfl M.1 (fun j u aI=>cJ.1 j u aI) ?_)
    |(go_at_call 45;refine hd M.1 (Gh _ _ _ (eV.bH M.1.below EE.1)) s3.1 ?_;clear M C;intro W M C;simp only [ah] at C))
    have bn:=am (cT.1.grow M.1.below);have bA:=am (hD.1.trans (Fr.less (Fr.below M.1.below) hD.1.size))
    have Ln:av (off s i=ib (if (R (writes i ((R cA i).ai.length+1) cA) i).aE=0 then writes i ((R cA i).ai.length+1) cA else again (writes i ((R cA i).ai.length+1) cA) i) i 4):=⟨by
     rw [KL.1];unfold nH;rw [AL.1,s3.1];rfl⟩
    by_cases bU:t0.aE=0
    ·have ed:(t0.aE == 0)=true:=by simp [bU]
     have jz:=am bU;obtain ⟨_,_,_,_,gS,g5,-⟩:=bn.1.fe j6;have a4:=gS 4 _ rfl;have oq:=g5 4;clear gS g5 bU;go_wp2;refine fv ?_;obtain ⟨eG,f9⟩:=bn.1.setInt (B:=w.heap.size) (i:=i) j6 4 (by decide) 4 {R cA i with a7:=4} (fun _ _ _ _=>rfl) ⟨rfl,rfl,rfl,rfl⟩;refine ⟨rfl,jW,Value.slice cW cA.log.length aw, ?_,bA.1.trans f9⟩;rw [Ln.1,Gn (by rw [AL.1,jz.1];decide),if_pos (by rw [AL.1];exact jz.1)];exact eG
    ·have ed:(t0.aE == 0)=false:=by simp [bU]
     have jz:=am bU;clear bU;by_cases m5:t0.aE=5
     ·have iH:(t0.aE == 5)=true:=by simp [m5]
      have kj:=am m5;clear m5;obtain ⟨P,qP⟩:∃ x,x=(R cA i).ai.length:=⟨_,rfl⟩;have kd:=am qP;clear qP;go_wp2;go_loopw [] (fun af=>∃ (r:Nat) (di:Sys) (own':Nat->Nat) (iR:Value),av (bI 81 w0 g own' bh a8 p di (.slice cX s.cells.length bL) (.slice (some ⟨b,0,none⟩) s.tasks.length cap) iR af)/\av (Fr w.heap.size own own' w af)/\av (Inv p di N/\di.tasks.length=s.tasks.length/\writes i r di=writes i (P+1) cA/\((R di i).aE=0\/(R di i).aE=5)/\((R di i).aE=5->(R di i).ai.length=P/\(P:Int) - (R di i).at_<=r))) (fun af=>FA af b i P)
      case atStart=>exact ⟨P+1,cA,jW,_,bn,bA,⟨yR.1,iS.1,rfl,.inr (by rw [AL.1];exact kj.1),fun _=>⟨kd.1.symm,by have:=(yR.1.task i j6).hE;omega⟩⟩⟩
      case round=>
       obtain ⟨r,di,xB,NM,fo,mE,cd⟩:=hrel;obtain ⟨fl,s4,hwr,KM,aF⟩:=cd.1;clear bn bA cd M C;have et:i < di.tasks.length:=by omega
       have z8:di.tasks.length<=1048576:=by omega
       have z':di.cells.length<=1048576:=Nat.le_trans fl.sz (by decide);obtain ⟨rZ,r0,rfl⟩:=fo.1.hV;obtain ⟨v3,bC,v9,v10,aM,PB,-⟩:=fo.1.fe et;have CR:=aM 5 _ rfl;have zx:=am (aM 6 _ rfl);have zv:=am CR;have a4:=aM 4 _ rfl;have oq:=PB 4;clear aM PB;by_cases br:(R di i).aE=5
       ·have z0:((R di i).aE == 5)=true:=by simp [br]
        have w7:=am br;have yz:=am (aF br);have qO:=am (show 0<=(putAt (R di i).ai (R di i).at_.toNat).cell/\(putAt (R di i).ai (R di i).at_.toNat).cell < di.cells.length by rw [fl.cells];exact ((fl.task i et).ai.at (by have:=(fl.task i et).kQ (.inr br);have:=(fl.task i et).hE;omega)).1);have nw:=am hwr;clear br aF hwr a4 oq KM
        go_wp2_with (first
        |(go_at_call 82;refine (SR i _ fo.1 et z8 z' (Nat.le_trans (fl.ai et) (by decide)) (by have:=fl.room;omega) (fl.task i et).iv (Int.le_trans (fl.aR et) (by decide)) (fl.task i et).hE ((fl.task i et).kQ (.inr w7.1)) qO.1).mono ?_;rintro e b9 ⟨rfl,dr,kR,h1,f1⟩;have bn:=am h1;have bA:=am (mE.1.trans (Fr.less f1 mE.1.size));clear mE h1 f1))
        go_roundw
        case rel=>
         have jN:=(fl.task i et).kQ (.inr w7.1);have a0:=(fl.task i et).hE;have oK:=yz.1;obtain ⟨jL,rfl⟩:∃ x,r=x+1:=⟨r - 1,by omega⟩;refine ⟨jL,write di i,dr,kR,bn,bA,⟨fl.write et w7.1,by rw [wC];exact s4,by rw [<-Ml w7.1];exact nw.1,(by rcases Bs fl et w7.1 with aX | aX;exact .inl aX;exact .inr aX.1),fun br=> ?_⟩⟩;rcases Bs fl et w7.1 with aX | ⟨-,ha,aB⟩
         ·omega
         ·rw [aB,ha]
          exact ⟨oK.1,by omega⟩
        case measure=>
         have jN:=(fl.task i et).kQ (.inr w7.1);have a0:=(fl.task i et).hE;have oK:=yz.1;obtain ⟨_,_,_,_,mP,-⟩:=bn.1.task (i:=i) (by rw [wC];exact et);rw [CW zv.1 zx.1,CW (mP 5 _ rfl) (mP 6 _ rfl),if_pos w7.1];rcases Bs fl et w7.1 with aX | ⟨aX,ha,aB⟩
         ·rw [if_neg (by omega)]
          omega
         ·rw [if_pos aX,ha]
          omega
       ·have z0:((R di i).aE == 5)=false:=by simp [br]
        have JQ:(R di i).aE=0:=by rcases KM with h | h;exact h;exact absurd h br
        have nw:av (writes i ((R cA i).ai.length+1) cA=di):=⟨by rw [<-kd.1,<-hwr,Gn br]⟩;have DD:=am JQ;clear br aF hwr JQ KM;go_wp2;refine fv ?_;obtain ⟨eG,f9⟩:=fo.1.setInt (B:=w.heap.size) (i:=i) et 4 (by decide) 4 {R di i with a7:=4} (fun _ _ _ _=>rfl) ⟨rfl,rfl,rfl,rfl⟩;refine ⟨rfl,xB,Value.slice rZ di.log.length r0, ?_,mE.1.trans f9⟩;rw [Ln.1,nw.1,if_pos DD.1];exact eG
     ·have iH:(t0.aE == 5)=false:=by simp [m5]
      have kj:=am m5;clear m5
      go_wp2_with (first
      |(go_at_call 118;refine (Gs i _ bn.1 j6 (by rw [iS.1];exact aS) (Nat.le_trans yR.1.sz (by decide)) (by rw [(yR.1.task i j6).bE.len];decide)).mono ?_;rintro e b9 ⟨rfl,c1,hr,f7⟩;obtain ⟨_,_,_,_,gS,g5,-⟩:=hr.fe (i:=i) (by rw [m1];exact j6);have a4:=gS 4 _ rfl;have oq:=g5 4;have iN:=am (And.intro hr (bA.1.trans (f7.less bA.1.size)));clear hr f7 gS g5 M C))
      refine fv ?_;obtain ⟨eG,f9⟩:=iN.1.1.setInt (B:=w.heap.size) (i:=i) (by rw [m1];exact j6) 4 (by decide) 4 {R (again cA i) i with a7:=4} (fun _ _ _ _=>rfl) ⟨rfl,rfl,rfl,rfl⟩;refine ⟨rfl,c1,Value.slice cW cA.log.length aw, ?_,iN.1.2.trans f9⟩;rw [Ln.1,Gn (by rw [AL.1];exact kj.1),if_neg (by rw [AL.1];exact jz.1)];exact eG
end
theorem SH {p:Prog} {s:Sys} {N i:Nat} (h:Inv p s N):mw s sr (kids s.tasks i) (kids s.tasks i).length=decide (0 < gu s.tasks i 3):=by
 rw [Bool.eq_iff_iff,decide_eq_true_eq,C4];unfold mw;rw [List.take_length,List.any_eq_true];constructor
 ·rintro ⟨x,az,bb⟩
  obtain ⟨k,a,-,b,-,rfl⟩:=CY.1 az;exact ⟨k,a,b,by simpa [sr] using bb⟩
 ·rintro ⟨k,a,b,c⟩
  refine ⟨(k:Int),CY.2 ⟨k,a,by omega,b, ?_,rfl⟩,by simpa [sr] using c⟩;have h1:=(h.task k a).lV;have e:(R s k).up=(i:Int):=b;omega
theorem bI.DL {w0:World} {g:Nat} {own:Nat->Nat} {bh a8:Value} {p:Prog} {s:Sys} {aG aZ aP:Value} {W:World} (h:bI 81 w0 g own bh a8 p s aG aZ aP W):BV p s g W:=⟨bh,a8,aG,aZ,aP,h.bB,cN.bH h.below h.prog,h.rd⟩
section
variable {w0:World} {g:Nat} {own:Nat->Nat} {bh a8:Value} {p:Prog} {s:Sys} {aG aZ aP:Value}
theorem abq {N:Nat} {b cap:Nat} (i:Nat) (w:World) (h:bI 81 w0 g own bh a8 p s aG (.slice (some ⟨b,0,none⟩) s.tasks.length cap) aP w) (hinv:Inv p s N) (cz:N<=1048576) (aa:i < s.tasks.length):
  Calls Tryz.prog 75 #[.pointer (some ⟨g,0,none⟩),.int .i64 i] w fun e af=>LR 81 w0 g own bh a8 p (pg s i) aG (.slice (some ⟨b,0,none⟩) s.tasks.length cap) w e af:=by
 have H:=am h;have iC:=h.bB;obtain ⟨cX,bL,rfl⟩:=h.kI;obtain ⟨cW,aw,rfl⟩:=h.hV;have aS:s.tasks.length<=1048576:=Nat.le_trans hinv.many cz;have xA:=am (R3 (i:=i) hinv);obtain ⟨aY,mN⟩:∃ x,kids s.tasks (i:Int)=x:=⟨_,rfl⟩;have lf:=am mN;have KJ:=am (show (kids s.tasks (i:Int)).length=aY.length by rw [mN]);have EW:=am (show ∀ x ∈ aY,∃ k:Nat,k < s.tasks.length/\(i:Int) < (k:Int)/\x=(k:Int) from fun x az=>Rn (by rw [mN];exact az));have hl:aY.length<=1048576:=by rw [<-mN];exact Nat.le_trans (C' _ _) aS
 have A2:=am hinv;have lL:=(hinv.task i aa).iv;have o7:(R s i).aR<=1048576:=Int.le_trans (hinv.aR aa) (by decide);have M:=am ((ba.nil w).known iC);have C:=M.1.aw;simp only [ah] at C;have bz:(0:Int)<=(i:Int):=by omega
 have b7:(i:Int) < (s.tasks.length:Int):=by omega
 clear h iC mN hinv;go_enter Tryz.func75,Tryz.ntmps75
 go_upto_region 2 with (first
 |(go_at_call 102;refine (SC p s g _ _ (H.1.DL.below M.1.below) aS).mono ?_;rintro e W ⟨rfl,fA⟩;obtain ⟨rO,uw⟩:∃ x,mw s sr (kids s.tasks (i:Int)) (kids s.tasks (i:Int)).length=x:=⟨_,rfl⟩;obtain ⟨iL,PC⟩:∃ x,mw s isLive (kids s.tasks (i:Int)) (kids s.tasks (i:Int)).length=x:=⟨_,rfl⟩;rw [uw,PC];have vM:=am uw;clear uw PC;replace M:=am (M.1.step fA);clear C;have C:=M.1.aw;simp only [ah] at C;clear fA))
 cases rO
 ·have H1:=am (H.1.grow M.1.below)
  obtain ⟨_,_,_,_,gS,g5,-⟩:=H1.1.fe aa;have a4:=gS 4 _ rfl;have oq:=g5 4;have jN:=gS 1 _ rfl;have fU:=g5 1;clear gS g5;go_wp2;refine o6 ?_;obtain ⟨il,f5⟩:=H1.1.setInt (B:=w.heap.size) (i:=i) aa 4 (by decide) 0 {R s i with a7:=0} (fun _ _ _ _=>rfl) ⟨rfl,rfl,rfl,rfl⟩;obtain ⟨mg,f6⟩:=il.setInt (B:=w.heap.size) (i:=i) (by rw [c5];exact aa) 1 (by decide) ((R s i).aR+1) {R s i with a7:=0,aR:=(R s i).aR+1} (fun _ _ _ _=>by rw [cD aa];rfl) (by rw [cD aa];exact ⟨rfl,rfl,rfl,rfl⟩);rw [set_set] at mg;refine ⟨rfl,own,Value.slice cW s.log.length aw, ?_,(Fr.below M.1.below).trans (f5.trans f6)⟩
  have aq:gu s.tasks (i:Int) 3=0:=by
   have mD:=vM.1;rw [SH A2.1] at mD;have:=of_decide_eq_false mD;omega
  unfold pg;rw [if_pos aq];exact mg
 ·have bn:=am (H.1.grow M.1.below)
  have ij:=am bn.1.bB;have c8:=am bn.1.rd;have T0:=am (Fr.below (own:=own) M.1.below);have HA:=am M.1.below.size;replace M:=am ((ba.nil W).known bn.1.bB);clear C;have C:=M.1.aw;simp only [ah] at C;have py:=H;clear H;have H:=bn;clear bn
  go_wp2_with (first
  |((with_reducible refine cv ?_);refine fZ rfl rfl M.1 (fun j u aI=>Fb ij.1 aI) ?_)
  |(go_at_call 111;refine (IH s _ _ _ c8.1 aS).mono ?_;rintro e W1 ⟨v,rfl,bp,I⟩;obtain ⟨A,c,rfl,-,uv⟩:=Kd.fG bp;rw [lf.1] at bp uv;rw [KJ.1];have rV:=fb M.1.below I;have h3:=am (show (Kd.int .i64).aC 3 W1 w0.heap.size (fun q=>own q=0) (.slice A aY.length c) aY from Kd.ft (Kd.cG (Kd.fW bp) (fun q aF=>H.1.dk q (Nat.le_trans M.1.below.size aF.2.1))) (Nat.le_trans H.1.below.size M.1.below.size));have H1:=am (H.1.grow rV);have pX:=am (Fr.below (own:=own) rV);clear bp uv I rV M C))
  have bA:=am (T0.1.trans (pX.1.less HA.1));clear pX;go_loopw [8,41] (fun _ j af=>∃ (k:Nat) (own':Nat->Nat) (iR:Value),k<=aY.length/\j= .int .i64 k/\av (bI 81 w0 g own' bh a8 p (oe s (aY.take k)) (.slice cX s.cells.length bL) (.slice (some ⟨b,0,none⟩) s.tasks.length cap) iR af)/\av (Fr w.heap.size own own' w af)/\av ((Kd.int .i64).aC 3 af w0.heap.size (fun q=>own' q=0) (.slice A aY.length c) aY)) (fun _ j _=>aY.length - (intOf j).toNat)
  case atStart=>exact ⟨0,own,_,Nat.zero_le _,rfl,H1,bA,h3⟩
  case round=>
   clear H1 bA h3;obtain ⟨k,jW,JD,J,rfl,cT,hD,h3⟩:=hrel;obtain ⟨re,eN⟩:=Inv.oe (aY.take k) A2.1 (fun x az=>by obtain ⟨q,a,-,rfl⟩:=EW.1 x (List.mem_of_mem_take az);simpa using a);by_cases aJ:k < aY.length
   ·obtain ⟨fD,pF,j6,yQ⟩:=EW.1 (cC aY k) (by rw [show cC aY k=aY[k] by simp [cC,aJ]];exact List.getElem_mem aJ)
    have fC:=am (S5 (s:=s) aJ);obtain ⟨cA,gP⟩:∃ x:Sys,oe s (aY.take k)=x:=⟨_,rfl⟩;rw [gP] at cT re eN fC;have yR:=am re;have bY:(0:Int)<=(k:Int):=by omega
    have l5:(k:Int) < (aY.length:Int):=by omega
    obtain ⟨cy,mb,az⟩:=Kd.kG (Kd.ie h3.1).2.2 (k:Int) bY l5;cases mb;simp only [Int.toNat_natCast] at az;rw [show rd aY (k:Int)=cC aY k from rfl,yQ] at az;rw [yQ,Int.toNat_natCast] at fC;have iS:=am eN;have Lm:fD < cA.tasks.length:=by rw [eN];exact pF
    rw [<-eN] at cT;clear gP re yQ eN
    go_wp2_with (first
    |(go_at_call 112;refine (abY cz cA.tasks.length fD cA jW _ _ cT.1 yR.1 Lm (by omega)).mono ?_;rintro e b9 ⟨rfl,pa,xx,eG,f9⟩;rw [iS.1] at eG;have KK:=am (Kd.cG (Kd.eI (Kd.fW h3.1) (fun q aF ak=>f9.block q ak aF.1)) (ok':=fun q=>pa q=0) (fun q aF=>f9.lo q aF.2.2.1 aF.1));have wQ:=am eG;have gl:=am (hD.1.trans (f9.less hD.1.size));clear eG f9))
    go_roundw
    case rel=>exact ⟨k+1,pa,xx,by omega,by go_num,⟨by rw [fC.1];exact wQ.1⟩,gl,KK⟩
    case measure=>simp [intOf];omega
   ·obtain rfl:k=aY.length:=by omega
    have jM:¬ (aY.length:Int) < (aY.length:Int):=by omega
    rw [List.take_length] at cT re eN;obtain ⟨cA,gP⟩:∃ x:Sys,oe s aY=x:=⟨_,rfl⟩;have XF:=am gP;rw [gP] at cT re eN;have j6:i < cA.tasks.length:=by rw [eN];exact aa
    obtain ⟨rZ,r0,rfl⟩:=cT.1.hV;obtain ⟨_,_,_,_,gS,g5,-⟩:=cT.1.fe j6;have a4:=gS 4 _ rfl;have oq:=g5 4;clear gS g5 gP re eN;go_wp2;refine fv ?_;obtain ⟨eG,f9⟩:=cT.1.setInt (B:=w.heap.size) (i:=i) j6 4 (by decide) 3 {R cA i with a7:=3} (fun _ _ _ _=>rfl) ⟨rfl,rfl,rfl,rfl⟩;refine ⟨rfl,jW,Value.slice rZ cA.log.length r0, ?_,hD.1.trans f9⟩
    have aq:¬ gu s.tasks (i:Int) 3=0:=by
     have mD:=vM.1;rw [SH A2.1] at mD;have:=of_decide_eq_true mD;omega
    unfold pg;rw [if_neg aq,xA.1,lf.1,XF.1];exact eG
end
theorem H4 {W:World} {g base:Nat} {xs:List Int} (h:W.heap[g]? = some (.cells (nums .i64 xs).toArray 3 (0,0))) (I:base<=g) (ak:xs.length<=maxLen):(Kd.int .i64).aC 3 W base (fun _=>True) (.slice (some ⟨g,0,none⟩) xs.length xs.length) xs:=by
 refine Kd.Zr ⟨?_,.inr ⟨g,xs.length,_,rfl,I,h,Nat.le_refl _,ak, ?_, ?_⟩⟩ (fun _ _=>trivial)
 ·simp [o5]
 ·simp [nums]
 ·simp only [nums,o5,List.toList_toArray]
  exact List.take_of_length_le (by simp)
def Z6 (body up:Int) (w:World) (e:Ending) (af:World):Prop:=∃ v3 bC,e= .returned (.agg #[.int .i64 body,.int .i64 0,.int .i64 up,v3,.int .i64 0,.int .i64 0,.int .i64 0,.int .i64 0,bC,.slice none 0 0,.slice none 0 0,.int .i64 0,.int .i64 0])/\o9 (g8 body up) w.heap.size af v3 bC (.slice none 0 0) (.slice none 0 0)/\Below w.heap.size w af
theorem ab6 (body up:Int) (w:World):
  Calls Tryz.prog 83 #[.int .i64 body,.int .i64 up] w fun e af=>Z6 body up w e af:=by
 have M:=am (ba.nil w);have C:=M.1.aw;go_enter Tryz.func83,Tryz.ntmps83
 go_wp2_with (first
 |((first|with_reducible refine gB ?_ | with_reducible refine gA ?_);refine cx rfl M.1 ?_;clear M C;intro gt W M C;simp only [ah] at C))
 refine ot [5] (fun _ h=>h) M.1 ?_;clear M C;intro W M;refine jO [0,1] M.1 ?_;iterate 2 (first|refine cc rfl ?_|refine ch rfl ?_|refine cj rfl ?_|refine cE rfl ?_)
 refine bN ?_;have C:=M.1.aw;simp only [ah] at C;refine Hs 2 3 rfl rfl ?ga ?gb
 case' ga=>
  go_wp2_with (first
  |(refine Dq (m:=3) rfl rfl rfl Tryz.underlying23 od M.1 (by decide) ?_;clear M C;intro dj W M C;simp only [ah] at C))
  refine g3 M.1.pop ?_
  try refine fF ?_
  refine ir 3 rfl ?_
  go_wp2_with (first
  |(refine Dq (m:=3) rfl rfl rfl Tryz.underlying23 od M.1 (by decide) ?_;clear M C;intro fy W M C;simp only [ah] at C))
  refine g3 M.1.pop.pop ?_
  try refine fF ?_
  refine jO [4] M.1.pop.pop ?_
  (first|refine cc rfl ?_|refine ch rfl ?_|refine cj rfl ?_|refine cE rfl ?_)
  refine bN ?_;refine lT 5 rfl ?_
  go_wp2_with (first
  |((with_reducible refine da ?_);refine dv rfl rfl rfl M.1 ?_;clear M C;intro W M C;simp only [ah] at C))
  try refine fF ?_
  refine mf ?_
  go_wp2_with (first
   | fail)
  refine bodyPost_ret (sx Tryz.results83 (.cell _ _ _ (0,0) _ rfl (M.1.eU.at_ (by repeat (first|exact .here | exact .kept | apply gF.there))) Tryz.underlying38 rfl (by kernel_rfl) .nil)) rfl ?_;have aA:=H4 (xs:= [0,0,0]) (base:=w.heap.size) (M.1.eU.at_ (g:=dj) (by repeat (first|exact .here | exact .kept | apply gF.there))) (M.1.fresh (.b dj _ _) (by repeat (first|exact List.mem_cons_self | apply List.mem_cons_of_mem))) (by decide);have dU:=H4 (xs:= [0,0,0]) (base:=w.heap.size) (M.1.eU.at_ (g:=fy) (by repeat (first|exact .here | exact .kept | apply gF.there))) (M.1.fresh (.b fy _ _) (by repeat (first|exact List.mem_cons_self | apply List.mem_cons_of_mem))) (by decide)
  have cm:dj ≠ fy:=fun he=>by
   have ha:=(List.pairwise_cons.1 M.1.apart).1 _ List.mem_cons_self;first | exact ha dj he rfl | exact ha dj rfl he | exact ha fy rfl he.symm | exact ha fy he.symm rfl
  exact ⟨_,_,rfl,⟨aA,dU,Kd.ht _ _ _ _ _,Kd.ht _ _ _ _ _,fun k J he=>cm (by simp [Value.ownBlock] at J he;omega),fun k J he=>(by cases he),fun k J he=>(by cases he),fun k J he=>(by cases he),fun k J he=>(by cases he),fun k J he=>(by cases J)⟩,M.1.below⟩
 case' gb=>
  go_wp2_with (first
  |(refine Dq (m:=3) rfl rfl rfl Tryz.underlying23 od M.1 (by decide) ?_;clear M C;intro fy W M C;simp only [ah] at C))
  refine g3 M.1.pop ?_
  try refine fF ?_
  refine ir 2 rfl ?_
  go_wp2_with (first
  |(refine Dq (m:=3) rfl rfl rfl Tryz.underlying23 od M.1 (by decide) ?_;clear M C;intro dj W M C;simp only [ah] at C))
  refine g3 M.1.pop.pop ?_
  try refine fF ?_
  refine jO [4] M.1.pop.pop ?_
  (first|refine cc rfl ?_|refine ch rfl ?_|refine cj rfl ?_|refine cE rfl ?_)
  refine bN ?_;refine lT 5 rfl ?_
  go_wp2_with (first
  |((with_reducible refine da ?_);refine dv rfl rfl rfl M.1 ?_;clear M C;intro W M C;simp only [ah] at C))
  try refine fF ?_
  refine mf ?_
  go_wp2_with (first
   | fail)
  refine bodyPost_ret (sx Tryz.results83 (.cell _ _ _ (0,0) _ rfl (M.1.eU.at_ (by repeat (first|exact .here | exact .kept | apply gF.there))) Tryz.underlying38 rfl (by kernel_rfl) .nil)) rfl ?_;have aA:=H4 (xs:= [0,0,0]) (base:=w.heap.size) (M.1.eU.at_ (g:=dj) (by repeat (first|exact .here | exact .kept | apply gF.there))) (M.1.fresh (.b dj _ _) (by repeat (first|exact List.mem_cons_self | apply List.mem_cons_of_mem))) (by decide);have dU:=H4 (xs:= [0,0,0]) (base:=w.heap.size) (M.1.eU.at_ (g:=fy) (by repeat (first|exact .here | exact .kept | apply gF.there))) (M.1.fresh (.b fy _ _) (by repeat (first|exact List.mem_cons_self | apply List.mem_cons_of_mem))) (by decide)
  have cm:dj ≠ fy:=fun he=>by
   have ha:=(List.pairwise_cons.1 M.1.apart).1 _ List.mem_cons_self;first | exact ha dj he rfl | exact ha dj rfl he | exact ha fy rfl he.symm | exact ha fy he.symm rfl
  exact ⟨_,_,rfl,⟨aA,dU,Kd.ht _ _ _ _ _,Kd.ht _ _ _ _ _,fun k J he=>cm (by simp [Value.ownBlock] at J he;omega),fun k J he=>(by cases he),fun k J he=>(by cases he),fun k J he=>(by cases he),fun k J he=>(by cases he),fun k J he=>(by cases J)⟩,M.1.below⟩
section
variable {T B:Nat} {w0:World} {g:Nat} {own:Nat->Nat} {bh a8:Value} {p:Prog} {s:Sys} {aG aZ aP:Value} {W W1:World}
theorem bI.Z7 {B1:Nat} {t:Task} {L:Nat} {v3 bC v9 v10:Value} (h:bI T w0 g own bh a8 p s aG aZ aP W) (cz:o9 t B1 W v3 bC v9 v10) (aq:∀ k,B1<=k->own k=0) (dt:w0.heap.size<=B1) (NC:B<=B1):
  bI T w0 g (jV own v3 bC v9 v10 L) bh a8 p s aG aZ aP W/\Fr B own (jV own v3 bC v9 v10 L) W W:=by
 have lk:=(Ia (own:=own) (L:=L) cz).2.2.2.2;have oA:∀ k,k < B1->jV own v3 bC v9 v10 L k=own k:=fun k J=>lk k (Classical.byContradiction fun cm=>by have:=(cz.range cm).1;omega)
 have a6:Tag w0 own (jV own v3 bC v9 v10 L) W:=by
  refine ⟨fun k J=>lk k (Classical.byContradiction fun cm=>J (aq k (cz.range cm).1)),fun k J=>(oA k (by omega)).trans (h.jU k J),fun k J=>(lk k (Classical.byContradiction fun cm=>by have:=(cz.range cm).2;omega)).trans (h.dk k J)⟩
 exact ⟨h.rn a6,Fr.tagged W fun k J aX=>(oA k (by omega)).trans aX⟩
end
theorem SS (ek cU gy ev e6:Option Addr) (GG ey lB er iF bO zH e1 Jg dp KN dL gp cV iL ly nn kf bl dI:Nat) (up a7 st at_ since bw from_:Int) (BL rg:Int) (eR eF:Option Addr) (nj ez sI eJ:Nat) (w:World) (eu:bl < lB) (kV:dI < nn) (yN:w.cell? ⟨gp,cV+bl,none⟩=some (.slice (some ⟨iL,ly,none⟩) nn kf)) (ay:∀ j u, [.int .i64 BL,.slice eR nj ez,.slice eF sI eJ,.int .i64 rg][j]? = some u->w.cell? ⟨iL,ly+dI*4+j,none⟩=some u):
  Calls Tryz.prog 76 #[.agg #[.slice ek GG ey,.slice (some ⟨gp,cV,none⟩) lB er],.agg #[.int .i64 (bl:Int),.int .i64 (dI:Int),.int .i64 up,.slice cU iF bO,.int .i64 a7,.int .i64 st,.int .i64 at_,.int .i64 since,.slice gy zH e1,.slice ev Jg dp,.slice e6 KN dL,.int .i64 bw,.int .i64 from_]] w fun e af=>e= .returned (.tuple #[.agg #[.int .i64 BL,.slice eR nj ez,.slice eF sI eJ,.int .i64 rg],.bool true])/\Below w.heap.size w af:=by
 have cl:=am ay;have bz:(0:Int)<=(bl:Int):=by omega
 have b7:(bl:Int) < (lB:Int):=by omega
 have bY:(0:Int)<=(dI:Int):=by omega
 have l5:(dI:Int) < (nn:Int):=by omega
 have ed:((dI:Int) == (nn:Int))=false:=by simp;omega
 have M:=am (ba.nil w);have C:=M.1.aw;replace M:=am (M.1.cB yN);clear C;have C:=M.1.aw;simp only [ah] at C;clear ay yN;go_enter Tryz.func76,Tryz.ntmps76
 go_wp2_with (first
 |((first|with_reducible refine gB ?_ | with_reducible refine gA ?_);refine cx rfl M.1 ?_;clear M C;intro ga W M C;simp only [ah] at C)
 |((with_reducible refine cv ?_);refine dV rfl rfl M.1 ?_)
 |((with_reducible refine da ?_);refine dv rfl rfl rfl M.1 ?_;clear M C;intro W M C;simp only [ah] at C)
 |((with_reducible refine cv ?_);refine fZ rfl rfl M.1 cl.1 ?_))
 refine bodyPost_ret (nK Tryz.results76 _ W ga 55 #[.int .i64 BL,.slice eR nj ez,.slice eF sI eJ,.int .i64 rg] (0,0) _ rfl (M.1.eU.at_ (by repeat (first|exact .here | exact .kept | apply gF.there))) Tryz.underlying55 rfl (by kernel_rfl)) rfl ?_;exact ⟨rfl,M.1.below⟩
theorem SU (ek cU gy ev e6:Option Addr) (GG ey lB er iF bO zH e1 Jg dp KN dL gp cV iL ly nn kf bl dI:Nat) (up a7 st at_ since bw from_:Int) (w:World) (eu:bl < lB) (kV:dI=nn) (k5:Option Addr) (yN:w.cell? ⟨gp,cV+bl,none⟩=some (.slice k5 nn kf)):
  Calls Tryz.prog 76 #[.agg #[.slice ek GG ey,.slice (some ⟨gp,cV,none⟩) lB er],.agg #[.int .i64 (bl:Int),.int .i64 (dI:Int),.int .i64 up,.slice cU iF bO,.int .i64 a7,.int .i64 st,.int .i64 at_,.int .i64 since,.slice gy zH e1,.slice ev Jg dp,.slice e6 KN dL,.int .i64 bw,.int .i64 from_]] w fun e af=>e= .returned (.tuple #[.agg #[.int .i64 0,.slice none 0 0,.slice none 0 0,.int .i64 0],.bool false])/\Below w.heap.size w af:=by
 subst kV;have bz:(0:Int)<=(bl:Int):=by omega
 have b7:(bl:Int) < (lB:Int):=by omega
 have ed:((dI:Int) == (dI:Int))=true:=by simp
 have M:=am (ba.nil w);have C:=M.1.aw;replace M:=am (M.1.cB yN);clear C;have C:=M.1.aw;simp only [ah] at C;clear yN;go_enter Tryz.func76,Tryz.ntmps76
 go_wp2_with (first
 |((first|with_reducible refine gB ?_ | with_reducible refine gA ?_);refine cx rfl M.1 ?_;clear M C;intro ga W M C;simp only [ah] at C)
 |((with_reducible refine cv ?_);refine dV rfl rfl M.1 ?_)
 |((with_reducible refine da ?_);refine dv rfl rfl rfl M.1 ?_;clear M C;intro W M C;simp only [ah] at C))
 refine bodyPost_ret (nK Tryz.results76 _ W ga 55 #[.int .i64 0,.slice none 0 0,.slice none 0 0,.int .i64 0] (0,0) _ rfl (M.1.eU.at_ (by repeat (first|exact .here | exact .kept | apply gF.there))) Tryz.underlying55 rfl (by kernel_rfl)) rfl ?_;exact ⟨rfl,M.1.below⟩
def LJ (b:Nat):Nat->List Value->eM->eM
 | _, [],l=>l
 | o,u :: cs,l=> .f ⟨b,o,none⟩ u :: LJ b (o+1) cs l
theorem Mz {V:World} {b:Nat} {l:eM}:∀ {cs:List Value} {o:Nat},ah V (LJ b o cs l)->∀ j u,cs[j]? = some u->V.cell? ⟨b,o+j,none⟩=some u
 | [],_,_,j,u,h=>by simp at h
 | x :: cs,o,gw,0,u,h=>by
  have:x=u:=by simpa using h
  subst this
  exact gw.1
 | x :: cs,o,gw,j+1,u,h=>by
  have:=Mz (cs:=cs) (o:=o+1) gw.2 j u (by simpa using h)
  rwa [show o+1+j=o+(j+1) by omega] at this
theorem ba.Lo {w W:World} {b:Nat} {l:eM}:∀ (cs:List Value) (o:Nat),ba w W l->(∀ j u,cs[j]? = some u->w.cell? ⟨b,o+j,none⟩=some u)->ba w W (LJ b o cs l)
 | [],_,h,_=>h
 | x :: cs,o,h,ay=>(ba.Lo cs (o+1) h (fun j u aI=>by have:=ay (j+1) u (by simpa using aI);rwa [show o+(j+1)=o+1+j by omega] at this)).cB (by have:=ay 0 x rfl;simpa using this)
def Mj (T:Nat) (w0:World) (g:Nat) (own:Nat->Nat) (bh a8:Value) (p:Prog) (s:Sys) (aG:Value) (w:World) (e:Ending) (af:World):Prop:=e= .returned .nilIface/\∃ own' xi iR,bI T w0 g own' bh a8 p s aG xi iR af/\Fr w.heap.size own own' w af
section
variable {w0:World} {g:Nat} {own:Nat->Nat} {bh a8:Value} {p:Prog} {s:Sys} {aG aZ aP:Value}
theorem SI {N:Nat} (i:Nat) (w:World) (h:bI 81 w0 g own bh a8 p s aG aZ aP w) (hinv:Inv p s N) (cz:N<=1048576) (aX:jI p) (aa:i < s.tasks.length) (eN:∀ k,k < s.cells.length-> -1<=(cellAt s.cells k).lock) (nc:(R s i).aE=1->(R s i).at_<=(actAt (bo p.an (R s i).body.toNat) (R s i).aR.toNat).bP.length) (vb:(R s i).aE=4->(R s i).at_<=(R s i).reads.length) (iw:ready s i=true) (PD:(R s i).a7=1\/(R s i).aR=(bo p.an (R s i).body.toNat).length):
  Calls Tryz.prog 53 #[.pointer (some ⟨g,0,none⟩),.int .i64 i] w fun e af=>Mj 81 w0 g own bh a8 p (step p s i) aG w e af:=by
 have yW:=Gb iw;have CE:=am (show jY s (i:Int)=true by unfold jY;rw [Int.toNat_natCast,iw,Bool.and_true,e0];omega);have t:=hinv.task i aa;have aS:s.tasks.length<=1048576:=Nat.le_trans hinv.many cz;have hm:s.cells.length<=1048576:=Nat.le_trans hinv.sz (by decide);have aT:(R s i).bE.length<=1048576:=by rw [t.bE.len];decide
 have HE:(R s i).aL.length<=1048576:=by rw [t.aL.len];decide
 have nX:(R s i).reads.length<=1048576:=Nat.le_trans (hinv.reads aa) (by decide);have je:(R s i).ai.length<=1048576:=Nat.le_trans (hinv.ai aa) (by decide);have nb:=am t.aL.len;have ox:s.log.length<=1073741824:=by have:=hinv.room;omega
 have lL:=t.iv;have o7:(R s i).aR<=1048576:=Int.le_trans (hinv.aR aa) (by decide);have om:=am t;have iS:=am eN;have Qo:=am nc;have Qp:=am vb;have Qq:=hinv.qy;have XG:=hinv.sn;obtain ⟨bl,eu⟩:=Int.eq_ofNat_of_zero_le t.jF;obtain ⟨dI,kV⟩:=Int.eq_ofNat_of_zero_le t.iv;have mT:bl < p.an.length:=by have:=t.jZ;omega
 obtain ⟨cq,ho⟩:∃ x,x=bo p.an bl:=⟨_,rfl⟩;have rl:=am ho;have pJ:=am eu;have AA:=am kV;have uq:dI<=cq.length:=by have:=t.oW;rw [eu,kV,Int.toNat_natCast,<-ho] at this;omega
 obtain ⟨ek,ey,g0,er,yP,-,-,-,gb⟩:=jk h.prog;simp only [List.cons.injEq,and_true] at yP;obtain ⟨rfl,rfl⟩:=yP;obtain ⟨gp,cV,nW,rfl,kt,hX,en,-⟩:=dd gb ([]:List Act) bl mT (by decide);obtain ⟨k5,kf,rfl,kL,jd⟩:=hX;have c3:=en 0 _ rfl;simp only [show (Kd.slice 55 kAct).bD=1 from rfl,Nat.mul_one,Nat.add_zero] at c3;rw [show p.an.getD bl []=cq from ho.symm] at c3 jd;have ni:=am c3;have sW:=am jd;obtain ⟨b,cap,rfl,cY,jb⟩:=h.iV (by omega);obtain ⟨cX,bL,rfl⟩:=h.kI;obtain ⟨cW,aw,rfl⟩:=h.hV;obtain ⟨cU,bO,gy,e1,ev,dp,e6,dL,aM,bb,Cs⟩:=h.LI aa;have v':=aM 4 _ rfl;simp only [eK] at aM;rw [eu,kV] at aM;have H:=am h;have M:=am ((ba.cB ((ba.nil w).Lo [.int .i64 (bl:Int),.int .i64 (dI:Int),.int .i64 (R s i).up,.slice cU (R s i).aL.length bO,.int .i64 (R s i).a7,.int .i64 (R s i).aE,.int .i64 (R s i).at_,.int .i64 (R s i).since,.slice gy (R s i).bE.length e1,.slice ev (R s i).reads.length dp,.slice e6 (R s i).ai.length dL,.int .i64 (R s i).bw,.int .i64 (R s i).from_] (i*13) aM) v').known h.bB);have C:=M.1.aw;simp only [ah] at C;clear t eN nc vb eu kV ho gb kt en kL jd c3 h aM bb Cs v' cY;have bz:(0:Int)<=(i:Int):=by omega
 have b7:(i:Int) < (s.tasks.length:Int):=by omega
 clear iw;go_enter Tryz.func53,Tryz.ntmps53;by_cases lF:(R s i).a7=1
 ·have cg:((R s i).a7 == 1)=true:=by simp [lF]
  have Ct:=am lF;clear lF
  go_wp2_with (first
  |(go_at_call 63;refine hd M.1 (IG p s g (i:Int) _ (H.1.DL.below M.1.below) hinv aS) CE.1 ?_;clear M C;intro W M C;simp only [ah] at C)
  |(go_at_call 75;refine (abq i _ (H.1.grow M.1.below) hinv cz aa).mono ?_;rintro e b9 ⟨rfl,pa,xx,eG,f9⟩))
  refine bodyPost_ret (results_tmp rfl _ _ _) rfl ?_;refine ⟨rfl,pa,Value.slice (some ⟨b,0,none⟩) s.tasks.length cap,xx, ?_,(Fr.below M.1.below).trans (f9.less M.1.below.size)⟩;unfold step;rw [if_pos Ct.1];exact eG
 have la:(R s i).a7=0:=by rcases yW.1 with h | h;exact h;exact absurd h lF
 have cg:((R s i).a7 == 1)=false:=by simp [lF]
 have Ct:=am lF;have vB:=am la;clear lF la yW
 go_upto_region 7 with (first
 |(go_at_call 63;refine hd M.1 (IG p s g (i:Int) _ (H.1.DL.below M.1.below) hinv aS) CE.1 ?_;clear M C;intro W M C;simp only [ah] at C))
 have ll:dI=cq.length:=by
  rcases PD with h | h
  ·exact absurd h Ct.1
  ·rw [pJ.1,AA.1,Int.toNat_natCast,<-rl.1] at h
   omega
 clear PD;have Lp:=am ll;clear ll;refine ot [] (fun _ h=>h) M.1 ?_;clear M C;intro W M;refine jO [0,1,2,3,4,5,6] M.1 ?_;iterate 3 (first|refine cc rfl ?_|refine ch rfl ?_|refine cj rfl ?_|refine cE rfl ?_)
 refine w4 (cs:= [.slice ek p.cells.length ey,.slice (some ⟨gp,cV,none⟩) p.an.length er]) rfl rfl (fun V dB=>Mt (by simpa using dB.1 0) (by simpa using dB.1 1)) ?_;iterate 2 (first|refine cc rfl ?_|refine ch rfl ?_|refine cj rfl ?_|refine cE rfl ?_)
 refine w4 (cs:= [.int .i64 (bl:Int),.int .i64 (dI:Int),.int .i64 (R s i).up,.slice cU (R s i).aL.length bO,.int .i64 (R s i).a7,.int .i64 (R s i).aE,.int .i64 (R s i).at_,.int .i64 (R s i).since,.slice gy (R s i).bE.length e1,.slice ev (R s i).reads.length dp,.slice e6 (R s i).ai.length dL,.int .i64 (R s i).bw,.int .i64 (R s i).from_]) rfl rfl (fun V dB=>Mz dB.2.2) ?_;refine bN ?_;have C:=M.1.aw;simp only [ah] at C;refine Hs 7 11 rfl rfl ?ga ?gb
 case' ga=>
  go_wp2_with (first
  |(go_at_call 76;refine (SU ek cU gy ev e6 p.cells.length ey p.an.length er (R s i).aL.length bO (R s i).bE.length e1 (R s i).reads.length dp (R s i).ai.length dL gp cV cV cV cq.length kf bl dI (R s i).up (R s i).a7 (R s i).aE (R s i).at_ (R s i).since (R s i).bw (R s i).from_ _ mT Lp.1 k5 (j2 (fb H.1.below M.1.below) ni.1)).mono ?_;rintro e W1 ⟨rfl,fA⟩;replace M:=am (M.1.step fA);clear C;have C:=M.1.aw;simp only [ah] at C;clear fA))
  refine g3 M.1 ?_
  try refine fF ?_
  refine jO [8,9,10] M.1 ?_;iterate 3 (first|refine cc rfl ?_|refine ch rfl ?_|refine cj rfl ?_|refine cE rfl ?_)
  refine bN ?_;refine ir 11 rfl ?_
  go_wp2_with (first
  |((first|with_reducible refine gB ?_ | with_reducible refine gA ?_);refine cx rfl M.1 ?_;clear M C;intro ga W M C;simp only [ah] at C))
  refine g3 M.1.pop ?_
  try refine fF ?_
  refine ir 12 rfl ?_
  go_wp2_with (first
  |((with_reducible refine da ?_);refine dv rfl rfl rfl M.1 ?_;clear M C;intro W M C;simp only [ah] at C))
  refine g3 M.1.pop ?_
  try refine fF ?_
  refine ir 13 rfl ?_
  go_wp2_with (first
   | fail)
  refine g3 M.1.pop ?_
  try refine fF ?_
  refine mf ?_
 case' gb=>
  go_wp2_with (first
  |((first|with_reducible refine gB ?_ | with_reducible refine gA ?_);refine cx rfl M.1 ?_;clear M C;intro ga W M C;simp only [ah] at C))
  refine g3 M.1.pop ?_
  try refine fF ?_
  refine ir 7 rfl ?_
  go_wp2_with (first
  |(go_at_call 76;refine (SU ek cU gy ev e6 p.cells.length ey p.an.length er (R s i).aL.length bO (R s i).bE.length e1 (R s i).reads.length dp (R s i).ai.length dL gp cV cV cV cq.length kf bl dI (R s i).up (R s i).a7 (R s i).aE (R s i).at_ (R s i).since (R s i).bw (R s i).from_ _ mT Lp.1 k5 (j2 (fb H.1.below M.1.below) ni.1)).mono ?_;rintro e W1 ⟨rfl,fA⟩;replace M:=am (M.1.step fA);clear C;have C:=M.1.aw;simp only [ah] at C;clear fA))
  refine g3 M.1.pop ?_
  try refine fF ?_
  refine jO [8,9,10] M.1.pop ?_;iterate 3 (first|refine cc rfl ?_|refine ch rfl ?_|refine cj rfl ?_|refine cE rfl ?_)
  refine bN ?_
  try refine fF ?_
  refine ir 12 rfl ?_
  go_wp2_with (first
  |((with_reducible refine da ?_);refine dv rfl rfl rfl M.1 ?_;clear M C;intro W M C;simp only [ah] at C))
  refine g3 M.1.pop ?_
  try refine fF ?_
  refine ir 13 rfl ?_
  go_wp2_with (first
   | fail)
  refine g3 M.1.pop ?_
  try refine fF ?_
  refine mf ?_
 all_goals
   have H1:=am (H.1.grow M.1.below);obtain ⟨_,_,_,_,gS,g5,-⟩:=H1.1.fe aa;have a4:=gS 4 _ rfl;have oq:=g5 4;clear gS g5
   go_wp2_with (first
    | fail)
   refine bodyPost_ret (results_tmp rfl _ _ _) rfl ?_;obtain ⟨eG,f9⟩:=H1.1.setInt (B:=w.heap.size) (i:=i) aa 4 (by decide) 2 {R s i with a7:=2} (fun _ _ _ _=>rfl) ⟨rfl,rfl,rfl,rfl⟩;refine ⟨rfl,own,Value.slice (some ⟨b,0,none⟩) s.tasks.length cap,Value.slice cW s.log.length aw, ?_,(Fr.below M.1.below).trans f9⟩;unfold step;rw [if_neg Ct.1,if_pos (by rw [pJ.1,AA.1,Int.toNat_natCast,<-rl.1];have:=Lp.1;omega)];exact eG
end
end Go.Proofs.YteajdhhmkjblnaaGreatDoor.Eq
