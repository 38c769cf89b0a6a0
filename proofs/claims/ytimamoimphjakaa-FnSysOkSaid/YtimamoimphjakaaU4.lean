import Derived.Test.YtimamoimphjakaaU3
set_option maxHeartbeats 8000000
set_option maxRecDepth 100000
set_option linter.unusedVariables false
set_option linter.unusedSimpArgs false
namespace Go.Proofs.Ytimamoimphjakaa.Eq
open Go.RowKit Go.Proofs.YtimamoimphjakaaW.PrintWords Go.Proofs.YtimamoimphjakaaW.PrintLast Go.Proofs.YtimamoimphjakaaW.PrintMore
inductive En
 | b (g:Nat) (cs:Array Value) (t:TypeId)
 | kp (g:Nat) (cs:Array Value) (t:TypeId)
 | f (ad:Addr) (v:Value)
abbrev Bx:=List En
def Nix (_:World):Prop:=True
def Lies (W:World):Bx->Prop
 | []=>True
 | .b g cs t :: l=>W.heap[g]? = some (.cells cs t (0,0))/\Lies W l
 | .kp g cs t :: l=>W.heap[g]? = some (.cells cs t (0,0))/\Lies W l
 | .f ad v :: l=>W.cell? ad=some v/\Lies W l
def Cl (W:World):Bx->Prop
 | []=>Nix W
 | .b g cs _ :: l=>(∀ i,W.cell? ⟨g,i,none⟩=cs[i]?)/\Cl W l
 | .kp g cs _ :: l=>(∀ i,W.cell? ⟨g,i,none⟩=cs[i]?)/\Cl W l
 | .f ad v :: l=>W.cell? ad=some v/\Cl W l
def En.ok (w:World):En->Prop
 | .b g _ _=>w.heap.size<=g
 | .kp g _ _=>g < w.heap.size
 | .f ad _=>ad.block < w.heap.size
def En.key:En->Nat->Prop
 | .b g _ _,k=>k=g
 | _,_=>False
def Apart (a b:En):Prop:=∀ k,a.key k->¬ b.key k
structure Own (w W:World) (l:Bx):Prop where
 below:Below w.heap.size w W
 lies:Lies W l
 fresh:∀ e ∈ l,e.ok w
 apart:l.Pairwise Apart
inductive At:Bx->Nat->Array Value->TypeId->Prop
 | here {g cs t l}:At (.b g cs t :: l) g cs t
 | kept {g cs t l}:At (.kp g cs t :: l) g cs t
 | there {g cs t l e}:At l g cs t->At (e :: l) g cs t
inductive Upd:Bx->Nat->Array Value->Array Value->TypeId->Bx->Prop
 | here {g cs cs' t l}:Upd (.b g cs t :: l) g cs cs' t (.b g cs' t :: l)
 | there {g cs cs' t l l' e}:Upd l g cs cs' t l'->Upd (e :: l) g cs cs' t (e :: l')
theorem Lies.cl {W:World}:∀ {l:Bx},Lies W l->Cl W l
 | [],_=>trivial
 | .b _ _ _ :: _,h=>⟨fun i=>zc8 h.1 i,h.2.cl⟩
 | .kp _ _ _ :: _,h=>⟨fun i=>zc8 h.1 i,h.2.cl⟩
 | .f _ _ :: _,h=>⟨h.1,h.2.cl⟩
theorem Own.cl {w W:World} {l:Bx} (h:Own w W l):Cl W l:=h.lies.cl
theorem Own.nil (w:World):Own w w []:=⟨Below.refl _ _,trivial,fun e h=>(by cases h),List.Pairwise.nil⟩
theorem Own.far {w W:World} {l:Bx} (h:Own w W l) {ad:Addr} {v:Value} (hc:w.cell? ad=some v):Own w W (.f ad v :: l):=
 ⟨h.below,⟨pw_cell_below h.below hc,h.lies⟩,fun e he=>by
  rcases List.mem_cons.1 he with rfl | he
  ·exact World.block_lt_of_cell? _ _ hc
  ·exact h.fresh e he,List.Pairwise.cons (fun e he k hk=>by cases hk) h.apart⟩
theorem Lies.below {W W':World} (hb:Below W.heap.size W W'):∀ {l:Bx},Lies W l->Lies W' l
 | [],_=>trivial
 | .b _ _ _ :: _,h=>⟨zb8 h.1 hb,h.2.below hb⟩
 | .kp _ _ _ :: _,h=>⟨zb8 h.1 hb,h.2.below hb⟩
 | .f _ _ :: _,h=>⟨pw_cell_below hb h.1,h.2.below hb⟩
theorem Lies.grown {w W W':World} {g:Nat} (hg:W.grownBy W' (some g)) (hw:w.heap.size<=g) (hW:w.heap.size<=W.heap.size):∀ {l:Bx},Lies W l->(∀ e ∈ l,e.ok w)->(∀ e ∈ l,¬ e.key g)->Lies W' l
 | [],_,_,_=>trivial
 | .b _ _ _ :: _,h,hf,hn=>⟨blk_grown h.1 hg (fun he=>hn _ List.mem_cons_self (by injection he with he;exact he.symm)),Lies.grown hg hw hW h.2 (fun e he=>hf e (List.mem_cons_of_mem _ he)) (fun e he=>hn e (List.mem_cons_of_mem _ he))⟩
 | .kp k _ _ :: _,h,hf,hn=>by
  have hlt:k < w.heap.size:=hf _ List.mem_cons_self
  exact ⟨blk_grown h.1 hg (fun he=>by injection he with he;omega),Lies.grown hg hw hW h.2 (fun e he=>hf e (List.mem_cons_of_mem _ he)) (fun e he=>hn e (List.mem_cons_of_mem _ he))⟩
 | .f ad _ :: _,h,hf,hn=>by
  have hlt:ad.block < w.heap.size:=hf _ List.mem_cons_self;exact ⟨(hg.cell h.1 (fun he=>by injection he with he;omega)),Lies.grown hg hw hW h.2 (fun e he=>hf e (List.mem_cons_of_mem _ he)) (fun e he=>hn e (List.mem_cons_of_mem _ he))⟩
theorem Lies.at_ {W:World} {g:Nat} {cs:Array Value} {t:TypeId}:∀ {l:Bx},Lies W l->At l g cs t->W.heap[g]? = some (.cells cs t (0,0))
 | _,h,.here=>h.1
 | _,h,.kept=>h.1
 | .b _ _ _ :: _,h,.there h'=>Lies.at_ h.2 h'
 | .kp _ _ _ :: _,h,.there h'=>Lies.at_ h.2 h'
 | .f _ _ :: _,h,.there h'=>Lies.at_ h.2 h'
theorem Lies.lt {W:World} {k:Nat}:∀ {l:Bx},Lies W l->∀ e ∈ l,e.key k->k < W.heap.size
 | .b _ _ _ :: _,h,e,he,hk=>by
  rcases List.mem_cons.1 he with rfl | he
  ·cases hk;exact blk_lt h.1
  ·exact Lies.lt h.2 e he hk
 | .kp _ _ _ :: _,h,e,he,hk=>by
  rcases List.mem_cons.1 he with rfl | he
  ·cases hk
  ·exact Lies.lt h.2 e he hk
 | .f _ _ :: _,h,e,he,hk=>by
  rcases List.mem_cons.1 he with rfl | he
  ·cases hk
  ·exact Lies.lt h.2 e he hk
theorem Own.step {w W W':World} {l:Bx} (h:Own w W l) (hb:Below W.heap.size W W'):Own w W' l:=⟨below_step h.below hb,h.lies.below hb,h.fresh,h.apart⟩
theorem Own.push {w W W':World} {l:Bx} (h:Own w W l) (hb:Below W.heap.size W W') {cs:Array Value} {t:TypeId} (hg:W'.heap[W.heap.size]? = some (.cells cs t (0,0))):Own w W' (.b W.heap.size cs t :: l):=
 ⟨below_step h.below hb,⟨hg,h.lies.below hb⟩,fun e he=>by
  rcases List.mem_cons.1 he with rfl | he
  ·exact h.below.size
  ·exact h.fresh e he,List.Pairwise.cons (fun e he k hk hk2=>by cases hk;exact Nat.lt_irrefl _ (h.lies.lt e he hk2)) h.apart⟩
theorem Upd.at_ {g:Nat} {cs cs':Array Value} {t:TypeId}:∀ {l l':Bx},Upd l g cs cs' t l'->At l g cs t
 | _,_,.here=> .here
 | _,_,.there h=> .there h.at_
theorem Upd.in_ {g:Nat} {cs cs':Array Value} {t:TypeId}:∀ {l l':Bx},Upd l g cs cs' t l'-> .b g cs t ∈ l
 | _,_,.here=>List.mem_cons_self
 | _,_,.there h=>List.mem_cons_of_mem _ h.in_
theorem Upd.mem {w:World} {g:Nat} {cs cs':Array Value} {t:TypeId}:∀ {l l':Bx},Upd l g cs cs' t l'->∀ e ∈ l',∃ e' ∈ l,(∀ k,e.key k->e'.key k)/\(e'.ok w->e.ok w)
 | _,_,.here,e,he=>by
  rcases List.mem_cons.1 he with rfl | he
  ·exact ⟨_,List.mem_cons_self,fun _ h=>h,fun h=>h⟩
  ·exact ⟨e,List.mem_cons_of_mem _ he,fun _ h=>h,fun h=>h⟩
 | _,_,.there h,e,he=>by
  rcases List.mem_cons.1 he with rfl | he
  ·exact ⟨_,List.mem_cons_self,fun _ h=>h,fun h=>h⟩
  ·obtain ⟨e',h1,h2⟩:=h.mem e he
   exact ⟨e',List.mem_cons_of_mem _ h1,h2⟩
theorem Upd.lies {w W W':World} {g:Nat} {cs cs':Array Value} {t:TypeId} (hg:W.grownBy W' (some g)) (hw:w.heap.size<=g) (hW:w.heap.size<=W.heap.size) (hc:W'.heap[g]? = some (.cells cs' t (0,0))):∀ {l l':Bx},Upd l g cs cs' t l'->Lies W l->(∀ e ∈ l,e.ok w)->l.Pairwise Apart->Lies W' l'
 | _,_,.here,h,hf,hp=>⟨hc,h.2.grown hg hw hW (fun e he=>hf e (List.mem_cons_of_mem _ he)) (fun e he hk=>(List.pairwise_cons.1 hp).1 e he g rfl hk)⟩
 | .b _ _ _ :: _,_,.there h',h,hf,hp=>⟨blk_grown h.1 hg (fun he=>(List.pairwise_cons.1 hp).1 _ h'.in_ g (by injection he with he;exact he.symm) rfl),h'.lies hg hw hW hc h.2 (fun e he=>hf e (List.mem_cons_of_mem _ he)) (List.pairwise_cons.1 hp).2⟩
 | .kp k _ _ :: _,_,.there h',h,hf,hp=>by
  have hlt:k < w.heap.size:=hf _ List.mem_cons_self
  exact ⟨blk_grown h.1 hg (fun he=>by injection he with he;omega),h'.lies hg hw hW hc h.2 (fun e he=>hf e (List.mem_cons_of_mem _ he)) (List.pairwise_cons.1 hp).2⟩
 | .f ad _ :: _,_,.there h',h,hf,hp=>by
  have hlt:ad.block < w.heap.size:=hf _ List.mem_cons_self;exact ⟨(hg.cell h.1 (fun he=>by injection he with he;omega)),h'.lies hg hw hW hc h.2 (fun e he=>hf e (List.mem_cons_of_mem _ he)) (List.pairwise_cons.1 hp).2⟩
theorem Upd.apart {g:Nat} {cs cs':Array Value} {t:TypeId} (w:World):∀ {l l':Bx},Upd l g cs cs' t l'->l.Pairwise Apart->l'.Pairwise Apart
 | _,_,.here,hp=>List.pairwise_cons.2 ⟨fun e he k hk=>(List.pairwise_cons.1 hp).1 e he k hk,(List.pairwise_cons.1 hp).2⟩
 | _,_,.there h',hp=>List.pairwise_cons.2 ⟨fun e he k hk hk2=>by obtain ⟨e',h1,h2,-⟩:=h'.mem (w:=w) e he;exact (List.pairwise_cons.1 hp).1 e' h1 k hk (h2 k hk2),h'.apart w (List.pairwise_cons.1 hp).2⟩
theorem Own.upd {w W W':World} {l l':Bx} {g:Nat} {cs cs':Array Value} {t:TypeId} (h:Own w W l) (hg:W.grownBy W' (some g)) (hc:W'.heap[g]? = some (.cells cs' t (0,0))) (hu:Upd l g cs cs' t l'):Own w W' l':=
 have hw:w.heap.size<=g:=h.fresh _ hu.in_
 ⟨pw_below_grown h.below _ h.below.size hg (fun z hz=>by cases hz;exact hw),hu.lies hg hw h.below.size hc h.lies h.fresh h.apart,fun e he=>by obtain ⟨e',h1,-,h2⟩:=hu.mem (w:=w) e he;exact h2 (h.fresh e' h1),hu.apart w h.apart⟩
theorem Own.pop {w W:World} {e:En} {l:Bx} (h:Own w W (e :: l)):Own w W l:=
 ⟨h.below,by cases e <;> exact h.lies.2,fun e he=>h.fresh e (List.mem_cons_of_mem _ he),(List.pairwise_cons.1 h.apart).2⟩
def En.old:En->En
 | .b g cs t=> .kp g cs t
 | .kp g cs t=> .kp g cs t
 | .f ad v=> .f ad v
theorem Lies.old {W:World}:∀ {l:Bx},Lies W l->Lies W (l.map En.old)
 | [],_=>trivial
 | .b _ _ _ :: _,h=>⟨h.1,h.2.old⟩
 | .kp _ _ _ :: _,h=>⟨h.1,h.2.old⟩
 | .f _ _ :: _,h=>⟨h.1,h.2.old⟩
theorem Lies.old_ok {W:World}:∀ {l:Bx},Lies W l->∀ e ∈ l.map En.old,e.ok W
 | .b _ _ _ :: _,h,e,he=>by
  rcases List.mem_cons.1 he with rfl | he
  ·exact blk_lt h.1
  ·exact Lies.old_ok h.2 e he
 | .kp _ _ _ :: _,h,e,he=>by
  rcases List.mem_cons.1 he with rfl | he
  ·exact blk_lt h.1
  ·exact Lies.old_ok h.2 e he
 | .f _ _ :: _,h,e,he=>by
  rcases List.mem_cons.1 he with rfl | he
  ·exact World.block_lt_of_cell? _ _ h.1
  ·exact Lies.old_ok h.2 e he
theorem old_key (e:En) (k:Nat):¬ e.old.key k:=by cases e <;> exact fun h=>h
theorem Own.rebase {w W:World} {l:Bx} (h:Own w W l):Own W W (l.map En.old):=
 ⟨Below.refl _ _,h.lies.old,h.lies.old_ok,List.pairwise_iff_forall_sublist.2 fun {a b} hs k hk=>by
  have hm:a ∈ l.map En.old:=hs.subset List.mem_cons_self;obtain ⟨e,-,rfl⟩:=List.mem_map.1 hm;exact absurd hk (old_key e k)⟩
theorem Own.named {w W:World} {l:Bx} (h:Aside0 (Own w W l)):∃ L,Aside0 (l=L)/\Aside0 (Own w W L):=⟨l,⟨rfl⟩,h⟩
theorem Own.namedT {w W:World} {e:En} {l:Bx} (h:Aside0 (Own w W (e :: l))):∃ L,Aside0 (l=L)/\Aside0 (Own w W (e :: L)):=⟨l,⟨rfl⟩,h⟩
theorem Own.namedX {w W:World} {e b:En} {l:Bx} (h:Aside0 (Own w W (e :: b :: l))):∃ E L,Aside0 (e=E)/\Aside0 (l=L)/\Aside0 (Own w W (E :: b :: L)):=⟨e,l,⟨rfl⟩,⟨rfl⟩,h⟩
theorem Own.drew {w W:World} {l:Bx} (h:Own w W l):Own w W.drew l:=h.step (below_drew (Below.refl _ _))
def isBox:Op->Bool
 | .alloc _=>true
 | .box _ _=>true
 | _=>false
section
variable {P:Program} {ops:Array Oper} {rest:List Oper} {o:Oper} {a:Go.Act} {Q:Exit->Go.Act->World->Prop} {w W:World} {l:Bx}
theorem gB {t:TypeId} {x:Operand} {N:Tmp} {ty:TypeId} {ps:String} {af:Array Edge} (h:wpList P ops Q ({dst:=some N,op:=.box t x,type:=ty,pos:=ps,after:=af,guard:=none} :: rest) a W):wpList P ops Q ({dst:=some N,op:=.box t x,type:=ty,pos:=ps,after:=af,guard:=none} :: rest) a W:=h
theorem gA {t:TypeId} {N:Tmp} {ty:TypeId} {ps:String} {af:Array Edge} (h:wpList P ops Q ({dst:=some N,op:=.alloc t,type:=ty,pos:=ps,after:=af,guard:=none} :: rest) a W):wpList P ops Q ({dst:=some N,op:=.alloc t,type:=ty,pos:=ps,after:=af,guard:=none} :: rest) a W:=h
theorem gL {t:TypeId} {x:Operand} {N:Tmp} {ty:TypeId} {ps:String} {af:Array Edge} (h:wpList P ops Q ({dst:=some N,op:=.load t x,type:=ty,pos:=ps,after:=af,guard:=none} :: rest) a W):wpList P ops Q ({dst:=some N,op:=.load t x,type:=ty,pos:=ps,after:=af,guard:=none} :: rest) a W:=h
theorem gS {t:TypeId} {p x:Operand} {ty:TypeId} {ps:String} {af:Array Edge} (h:wpList P ops Q ({dst:=none,op:=.store t p x,type:=ty,pos:=ps,after:=af,guard:=none} :: rest) a W):wpList P ops Q ({dst:=none,op:=.store t p x,type:=ty,pos:=ps,after:=af,guard:=none} :: rest) a W:=h
theorem oB {cs:Array Value} {t:TypeId} {N:Tmp} (hb:isBox o.op=true) (M:Own w W l) (h:∀ g W',Aside0 (Own w W' (.b g cs t :: l))->Cl W' (.b g cs t :: l)->wpList P ops Q rest (a.put (some N) (.pointer (some ⟨g,0,none⟩))) W')
  (hd:o.dst=some N:=by rfl) (hgd:o.guard=none:=by rfl)
  (hrun:(execOp a.eval o).run P W= .ok (.value (.pointer (some ⟨W.heap.size,0,none⟩))) (W.alloc (.cells cs t (0,0))):=by go_simp <;> rfl):wpList P ops Q (o :: rest) a W:=
 Kd.event_run hgd hrun (by rw [hd];exact h _ _ ⟨M.push (below_alloc (Below.refl _ _) _) (blk_new W _)⟩ (M.push (below_alloc (Below.refl _ _) _) (blk_new W _)).cl)
theorem oL {t:TypeId} {x:Operand} {g:Nat} {cs:Array Value} {N:Tmp} (ho:o.op= .load t x) (hx:a.eval x= .pointer (some ⟨g,0,none⟩)) (M:Own w W l) (h:wpList P ops Q rest (a.put (some N) (.agg cs)) W)
  (hin:At l g cs t:=by repeat (first|exact .here | exact .kept | apply At.there)) (hd:o.dst=some N:=by rfl) (hgd:o.guard=none:=by rfl)
  (hu:(match P.underlying t with | some d=>d.isRow && ((P.info? t).map (·.size) == some cs.size)|none=>false)=true:=by kernel_rfl):wpList P ops Q (o :: rest) a W:=by
 cases hp:P.underlying t with
 | none=>rw [hp] at hu;cases hu
 | some d=>
  rw [hp] at hu;simp only [Bool.and_eq_true,beq_iff_eq] at hu;refine load_block (cs:=cs.toList) hgd t x ho d hx (by simpa using M.lies.at_ hin) hp hu.1 (by simpa using hu.2) ?_;rw [hd];simpa using h
theorem oS {t:TypeId} {p x:Operand} {g:Nat} {cs cs':Array Value} {l':Bx} (ho:o.op= .store t p x) (hp:a.eval p= .pointer (some ⟨g,0,none⟩)) (hx:a.eval x= .agg cs') (M:Own w W l)
  (h:∀ W',Aside0 (Own w W' l')->Cl W' l'->wpList P ops Q rest a W') (hin:Upd l g cs cs' t l':=by repeat (first|exact .here | apply Upd.there)) (hs:((cs'.size == cs.size) && ((P.info? t).map (·.size) == some cs'.size) && cs'.all (·.oneCell'))=true:=by kernel_rfl)
  (hN:o.dst=none:=by rfl) (hgd:o.guard=none:=by rfl):wpList P ops Q (o :: rest) a W:=by
 simp only [Bool.and_eq_true,beq_iff_eq,Array.all_eq_true_iff_forall_mem] at hs;refine store_block (cs:=cs'.toList) hgd hN t p x ho hp (by simpa using hx) (M.lies.at_ hin.at_) (by simpa using hs.1.1) (by simpa using hs.1.2) (fun v hv=>hs.2 v (by simpa using hv)) ?_;intro w1 h1 hg;have hm:=M.upd hg (by simpa using h1) hin;exact h _ ⟨hm⟩ hm.cl
theorem oF0 {t e:TypeId} {p x:Operand} {g j:Nat} {v:Value} {cs:Array Value} {l':Bx} (ho:o.op= .store t p x) (hp:a.eval p= .pointer (some ⟨g,j,none⟩)) (hx:a.eval x=v) (M:Own w W l) (hin:Upd l g cs (cs.setIfInBounds j v) e l')
  (h:∀ W',Aside0 (Own w W' l')->Cl W' l'->wpList P ops Q rest a W') (hj:j < cs.size) (hi:(P.info? t).map (·.size)=some 1) (hv:v.cells= #[v]) (h1:v.oneCell'=true) (hN:o.dst=none) (hgd:o.guard=none):wpList P ops Q (o :: rest) a W:=by
 have hh:=M.lies.at_ hin.at_;refine wpList_plain hgd fun K hK=> ?_
 obtain ⟨info,hinfo,hsz⟩:=Option.map_eq_some_iff.1 hi;unfold Oper.wp execOp
 have hrun:(Instr.storeAt t (.pointer (some ⟨g,j,none⟩)) v).run P W= .ok () (W.setCell ⟨g,j,none⟩ v):=by
  have:=run_storeCells_cells (P:=P) g j [v] 0 W (fun k hk=>by
   have:k=0:=by simpa using hk
   subst this;simp [zc8 hh j,Array.getElem?_eq_getElem hj]) (fun k hk=>by
   have:k=0:=by simpa using hk
   subst this;exact blk_frozen hh j) (fun q hq=>by rw [List.mem_singleton.1 hq];exact h1)
  simp only [Nat.add_zero] at this;simp [Instr.storeAt,Instr.sureAddr,storeVar,sizeOf,typeInfo,hinfo,hsz,hv,this,World.setCells]
 simp only [ho,hp,hx,Sem.run_bind,hrun,Result.andThen_ok,Sem.run_pure,Oper.upon_skip];rw [hN];obtain ⟨s1,s2,s3,s4⟩:=setCells_same g [v] j W;have hg:W.grownBy (W.setCell ⟨g,j,none⟩ v) (some g):=⟨s1,s2,s3,Nat.le_of_eq s4.symm,fun i hi hne=>Below.heap_setCell W ⟨g,j,none⟩ v i (fun he=>hne (by rw [he]))⟩;have hm:=M.upd hg (blk_set hh j v) hin;exact hK _ _ (h _ ⟨hm⟩ hm.cl)
theorem nums_set (hs:List Int) (j:Nat) (v:Int):(nums .i64 hs).toArray.setIfInBounds j (.int .i64 v)=(nums .i64 (hs.set j v)).toArray:=by
 rw [List.setIfInBounds_toArray];unfold nums;rw [List.map_set]
theorem nums_get {hs:List Int} {j:Nat} (h:j < hs.length):(nums .i64 hs).toArray[j]? = some (.int .i64 (hs.getD j 0)):=by
 rw [List.getElem?_toArray];unfold nums;simp [h]
theorem oM {t e:TypeId} {x y:Operand} {N:Tmp} {m:Nat} (ho:o.op= .makeSlice t x y) (hx:a.eval x= .int .i64 (m:Int)) (hy:a.eval y= .int .i64 (m:Int)) (ht:P.underlying t=some (.slice e)) (hinfo:(P.info? e).map (fun i=>(i.zero,i.size,i.bytes))=some (some (.int .i64 0),1,8)) (M:Own w W l) (hm:m<=1048576)
  (h:∀ g W',Aside0 (Own w W' (.b g (nums .i64 (List.replicate m 0)).toArray e :: l))->Cl W' (.b g (nums .i64 (List.replicate m 0)).toArray e :: l)->wpList P ops Q rest (a.put (some N) (.slice (some ⟨g,0,none⟩) m m)) W')
  (hd:o.dst=some N:=by rfl) (hgd:o.guard=none:=by rfl):wpList P ops Q (o :: rest) a W:=by
 have hl:madeCells #[Value.int .i64 0] m=(nums .i64 (List.replicate m 0)).toArray:=by
  apply Array.toList_inj.1;apply List.ext_getElem
  ·simp [nums,madeCells]
  ·intro i h1 h2
   simp [nums,madeCells,Nat.mod_one]
 have hr:=print_make t e .i64 8 ht hinfo (by decide) m (by omega) W;rw [hl] at hr;have hm2:=M.push (cs:=(nums .i64 (List.replicate m 0)).toArray) (t:=e) (below_alloc (Below.refl _ _) (.cells (nums .i64 (List.replicate m 0)).toArray e)) (blk_new W _);refine Kd.event_run hgd (v:=.slice (some ⟨W.heap.size,0,none⟩) m m) (w1:=W.alloc (.cells (nums .i64 (List.replicate m 0)).toArray e)) ?_ (by rw [hd];exact h _ _ ⟨hm2⟩ hm2.cl);unfold execOp;simp only [ho,hx,hy,Sem.run_bind,hr,Result.andThen_ok,Sem.run_pure]
theorem oI {t e:TypeId} {p x:Operand} {g j:Nat} {v:Int} {hs:List Int} {l':Bx} (ho:o.op= .store t p x) (hp:a.eval p= .pointer (some ⟨g,j,none⟩)) (hx:a.eval x= .int .i64 v) (M:Own w W l) (hin:Upd l g (nums .i64 hs).toArray (nums .i64 (hs.set j v)).toArray e l') (hj:j < hs.length)
  (h:∀ W',Aside0 (Own w W' l')->Cl W' l'->wpList P ops Q rest a W') (hs:(P.info? t).map (·.size)=some 1:=by kernel_rfl)
  (hN:o.dst=none:=by rfl) (hgd:o.guard=none:=by rfl):wpList P ops Q (o :: rest) a W:=
 oF0 ho hp hx M (by rw [nums_set];exact hin) h (by simpa [nums] using hj) hs rfl rfl hN hgd
theorem oR {t:TypeId} {x:Operand} {b off:Nat} {cs:List Value} {N:Tmp} (ho:o.op= .load t x) (hx:a.eval x= .pointer (some ⟨b,off,none⟩)) (M:Own w W l) (hc:∀ j u,cs[j]? = some u->w.cell? ⟨b,off+j,none⟩=some u) (h:wpList P ops Q rest (a.put (some N) (.agg cs.toArray)) W)
  (hd:o.dst=some N:=by rfl) (hgd:o.guard=none:=by rfl)
  (hu:(match P.underlying t with | some d=>d.isRow && ((P.info? t).map (·.size) == some cs.length)|none=>false)=true:=by kernel_rfl):wpList P ops Q (o :: rest) a W:=by
 cases hp:P.underlying t with
 | none=>rw [hp] at hu;cases hu
 | some d=>
  rw [hp] at hu;simp only [Bool.and_eq_true,beq_iff_eq] at hu;refine wpList_load_mid hgd t x ho b off hx cs d (fun j u hj=>pw_cell_below M.below (hc j u hj)) hp hu.1 hu.2 ?_;rw [hd];exact h
end
theorem oC {P:Program} {f:FuncId} {args:Array Value} {w W:World} {l:Bx} {r:Ending} {Q:Ending->World->Prop} (M:Own w W l) (hc:Calls P f args W fun e W'=>e=r/\Below W.heap.size W W') (h:∀ W',Aside0 (Own w W' l)->Cl W' l->Q r W'):Calls P f args W Q:=
 hc.mono fun e W' ⟨he,hb⟩=>by subst he;exact h _ ⟨M.step hb⟩ (M.step hb).cl
theorem oE {P:Program} {f:FuncId} {args:Array Value} {W:World} {r:Ending} {Q:Ending->World->Prop} (hc:Calls P f args W fun e W'=>e=r/\W=W') (h:Q r W):Calls P f args W Q:=
 hc.mono fun e W' ⟨he,hb⟩=>by subst he;subst hb;exact h
theorem oEb {P:Program} {f:FuncId} {args:Array Value} {W:World} {x b:Bool} {Q:Ending->World->Prop} (hc:Calls P f args W fun e W'=>e= .returned (.bool x)/\W=W') (hx:x=b) (h:Q (.returned (.bool b)) W):Calls P f args W Q:=
 by subst hx;exact oE hc h
theorem oCb {P:Program} {f:FuncId} {args:Array Value} {w W:World} {l:Bx} {x b:Bool} {Q:Ending->World->Prop} (M:Own w W l) (hc:Calls P f args W fun e W'=>e= .returned (.bool x)/\Below W.heap.size W W') (hx:x=b) (h:∀ W',Aside0 (Own w W' l)->Cl W' l->Q (.returned (.bool b)) W'):Calls P f args W Q:=
 by subst hx;exact oC M hc h
def dG (P:Program) (ops:Array Oper) (Q:Exit->Go.Act->World->Prop) (w:World) (l:Bx) (n:Nat) (is:List Nat) (a:Go.Act) (W:World):Prop:=
 wpAnyLast P .any ops Q (fun V=>Own w V l) [] (n - is.length) (setAll (Array.replicate n false) is) a W
theorem setAll_app:∀ (is js:List Nat) (x:Array Bool),setAll x (is ++ js)=setAll (setAll x is) js
 | [],_,_=>rfl
 | i :: is,js,x=>setAll_app is js _
section
variable {P:Program} {ops:Array Oper} {o:Oper} {a:Go.Act} {Q:Exit->Go.Act->World->Prop} {w W:World} {l:Bx} {n:Nat}
theorem dS {id:Nat} (M:Own w W l) (h:∀ W',Aside0 (Own w W' l)->dG P ops Q w l n [] a W') (hm:P.follows .mixedOrders=true:=by kernel_rfl) (hn:ops.size=n:=by rfl):(Code.region id ops true).wp P Q a W:=
 start_ (S:=fun V=>Own w V l) (ds:= []) _ hm hn rfl M.drew (fun hh=>h _ ⟨hh⟩)
theorem dN {js:List Nat} (is:List Nat) (M:Own w W l) (h:stillS P ops (fun V=>Cl V l) is (fun a'=>dG P ops Q w l n (js ++ is) a' W) a)
  (hc:(batchB .any ops [] (setAll (Array.replicate n false) js) is && (n - js.length == n - (js ++ is).length+is.length))=true:=by kernel_rfl)
  (hQ:∀ N v c a w,Q (.panic c) (Go.Act.put a N v) w->Q (.panic c) a w:=by (intro N _ _ _ _ h;cases N <;> exact h)):dG P ops Q w l n js a W:=by
 simp only [Bool.and_eq_true,beq_iff_eq] at hc;unfold dG;rw [hc.2];refine batch_go (S:=fun V=>Own w V l) hQ M is _ a hc.1 rfl ?_
 have key:∀ (is:List Nat) (K K':Go.Act->Prop) (a:Go.Act),(∀ a,K a->K' a)->stillS P ops (fun V=>Cl V l) is K a->stillS P ops (fun V=>Own w V l) is K' a:=by
  intro is
  induction is with
  | nil=>exact fun K K' a hk h=>hk _ h
  | cons i is ih=>
   rintro K K' a hk ⟨oi,v,h1,h2,h3⟩;exact ⟨oi,v,h1,h2.imp (fun h=>⟨h.1,fun V hV=>h.2 V hV.cl⟩) id,ih _ _ _ hk h3⟩
 exact key _ _ _ _ (fun a' h=>by unfold dG at h;rw [setAll_app] at h;exact h) h
theorem wanted_none {o:Oper} {y:Nat->Option Bool} (h:o.guard=none):Region.wanted o y=true:=by simp [Region.wanted,h]
theorem wanted_some {o:Oper} {y:Nat->Option Bool} {j:Nat} {b b':Bool} (h:o.guard=some (j,b)) (hy:y j=some b'):Region.wanted o y=(b' == b):=by cases b <;> cases b' <;> simp [Region.wanted,h,hy]
theorem sP {i:Nat} {is:List Nat} {K:Go.Act->Prop} {N:Option Tmp} {op:Op} {ty:TypeId} {ps:String} {af:Array Edge} {gd:Option (Nat × Bool)} {a':Go.Act} {v:Value} (hi:ops[i]? = some {dst:=N,op:=op,type:=ty,pos:=ps,after:=af,guard:=gd}) (h:stillS P ops (fun V=>Cl V l) is K a') (hg:gd=none:=by rfl)
  (hr:∀ V,Cl V l->(execOp a.eval {dst:=N,op:=op,type:=ty,pos:=ps,after:=af,guard:=gd}).run P V= .ok (.value v) V:=by intro V C;simp only [Cl] at C;go_simp;with_reducible rfl)
  (ha:a.put N v=a':=by simp only [Act.put,sA,sZ,sS,i64_w];rfl):stillS P ops (fun V=>Cl V l) (i :: is) K a:=
 ⟨_,v,hi,Or.inl ⟨wanted_none hg,hr⟩,ha ▸ h⟩
theorem sG {i:Nat} {is:List Nat} {K:Go.Act->Prop} {N:Option Tmp} {op:Op} {ty:TypeId} {ps:String} {af:Array Edge} {gd:Option (Nat × Bool)} {a':Go.Act} {v:Value} {j:Nat} {b b':Bool} (hi:ops[i]? = some {dst:=N,op:=op,type:=ty,pos:=ps,after:=af,guard:=gd}) (h:stillS P ops (fun V=>Cl V l) is K a') (hg:gd=some (j,b):=by rfl) (hy:yielded ops a.tmps j=some b':=by rfl) (hb:b'=b:=by rfl)
  (hr:∀ V,Cl V l->(execOp a.eval {dst:=N,op:=op,type:=ty,pos:=ps,after:=af,guard:=gd}).run P V= .ok (.value v) V:=by intro V C;simp only [Cl] at C;go_simp;with_reducible rfl)
  (ha:a.put N v=a':=by simp only [Act.put,sA,sZ,sS,i64_w];rfl):stillS P ops (fun V=>Cl V l) (i :: is) K a:=
 ⟨_,v,hi,Or.inl ⟨by rw [wanted_some hg hy,hb,beq_self_eq_true],hr⟩,ha ▸ h⟩
theorem sU {i:Nat} {is:List Nat} {K:Go.Act->Prop} {N:Option Tmp} {op:Op} {ty:TypeId} {ps:String} {af:Array Edge} {gd:Option (Nat × Bool)} {a':Go.Act} {j:Nat} {b b':Bool} (hi:ops[i]? = some {dst:=N,op:=op,type:=ty,pos:=ps,after:=af,guard:=gd}) (h:stillS P ops (fun V=>Cl V l) is K a') (hg:gd=some (j,b):=by rfl) (hy:yielded ops a.tmps j=some b':=by rfl) (hb:b'= !b:=by rfl)
  (ha:a.put N undef=a':=by simp only [Act.put,sA,sZ,sS];rfl):stillS P ops (fun V=>Cl V l) (i :: is) K a:=
 ⟨_,undef,hi,Or.inr ⟨by rw [wanted_some hg hy,hb];cases b <;> rfl,rfl⟩,ha ▸ h⟩
theorem sN {i:Nat} {is:List Nat} {K:Go.Act->Prop} {N:Option Tmp} {op:Op} {ty:TypeId} {ps:String} {af:Array Edge} {gd:Option (Nat × Bool)} {a':Go.Act} {j:Nat} {b:Bool} (hi:ops[i]? = some {dst:=N,op:=op,type:=ty,pos:=ps,after:=af,guard:=gd}) (h:stillS P ops (fun V=>Cl V l) is K a') (hg:gd=some (j,b):=by rfl) (hy:yielded ops a.tmps j=none:=by rfl)
  (ha:a.put N undef=a':=by simp only [Act.put,sA,sZ,sS];rfl):stillS P ops (fun V=>Cl V l) (i :: is) K a:=
 ⟨_,undef,hi,Or.inr ⟨by simp [Region.wanted,hg,hy],rfl⟩,ha ▸ h⟩
theorem Cl.at_ {W:World} {g:Nat} {cs:Array Value} {t:TypeId}:∀ {l:Bx},Cl W l->At l g cs t->∀ i,W.cell? ⟨g,i,none⟩=cs[i]?
 | _,h,.here=>h.1
 | _,h,.kept=>h.1
 | .b _ _ _ :: _,h,.there h'=>Cl.at_ h.2 h'
 | .kp _ _ _ :: _,h,.there h'=>Cl.at_ h.2 h'
 | .f _ _ :: _,h,.there h'=>Cl.at_ h.2 h'
theorem sL {i:Nat} {is:List Nat} {K:Go.Act->Prop} {N:Option Tmp} {t:TypeId} {x:Operand} {ty:TypeId} {ps:String} {af:Array Edge} {a':Go.Act} {g:Nat} {cs:Array Value} (hi:ops[i]? = some {dst:=N,op:=.load t x,type:=ty,pos:=ps,after:=af,guard:=none}) (hx:a.eval x= .pointer (some ⟨g,0,none⟩)) (h:stillS P ops (fun V=>Cl V l) is K a')
  (hin:At l g cs t:=by repeat (first|exact .here | exact .kept | apply At.there)) (hu:(match P.underlying t with | some d=>d.isRow && ((P.info? t).map (·.size) == some cs.size)|none=>false)=true:=by kernel_rfl)
  (ha:a.put N (.agg cs)=a':=by simp only [Act.put,sA,sZ,sS];rfl):stillS P ops (fun V=>Cl V l) (i :: is) K a:=by
 cases hp:P.underlying t with
 | none=>rw [hp] at hu;cases hu
 | some d=>
  rw [hp] at hu;simp only [Bool.and_eq_true,beq_iff_eq] at hu;refine ⟨_,.agg cs,hi, ?_,ha ▸ h⟩;have:=yieldsIf_load_mid (ops:=ops) (S:=fun V=>Cl V l) (op:={dst:=N,op:=.load t x,type:=ty,pos:=ps,after:=af,guard:=none}) (a:=a) (wanted_none rfl) t x rfl g 0 hx cs.toList d (fun V hV j u hj=>by rw [Nat.zero_add,Cl.at_ hV hin j];simpa using hj) hp hu.1 (by simpa using hu.2);simpa using this
theorem sLg {i:Nat} {is:List Nat} {K:Go.Act->Prop} {N:Option Tmp} {t:TypeId} {x:Operand} {ty:TypeId} {ps:String} {af:Array Edge} {a':Go.Act} {g:Nat} {cs:Array Value} {j:Nat} {b b':Bool} (hi:ops[i]? = some {dst:=N,op:=.load t x,type:=ty,pos:=ps,after:=af,guard:=some (j,b)}) (hx:a.eval x= .pointer (some ⟨g,0,none⟩)) (h:stillS P ops (fun V=>Cl V l) is K a')
  (hy:yielded ops a.tmps j=some b':=by rfl) (hb:b'=b:=by rfl) (hin:At l g cs t:=by repeat (first|exact .here | exact .kept | apply At.there)) (hu:(match P.underlying t with | some d=>d.isRow && ((P.info? t).map (·.size) == some cs.size)|none=>false)=true:=by kernel_rfl)
  (ha:a.put N (.agg cs)=a':=by simp only [Act.put,sA,sZ,sS];rfl):stillS P ops (fun V=>Cl V l) (i :: is) K a:=by
 cases hp:P.underlying t with
 | none=>rw [hp] at hu;cases hu
 | some d=>
  rw [hp] at hu;simp only [Bool.and_eq_true,beq_iff_eq] at hu;refine ⟨_,.agg cs,hi, ?_,ha ▸ h⟩;have:=yieldsIf_load_mid (ops:=ops) (S:=fun V=>Cl V l) (op:={dst:=N,op:=.load t x,type:=ty,pos:=ps,after:=af,guard:=some (j,b)}) (a:=a) (by rw [wanted_some rfl hy,hb,beq_self_eq_true]) t x rfl g 0 hx cs.toList d (fun V hV j u hj=>by rw [Nat.zero_add,Cl.at_ hV hin j];simpa using hj) hp hu.1 (by simpa using hu.2);simpa using this
theorem dC {js:List Nat} (i:Nat) {N:Option Tmp} {f:FuncId} {ar:Array Operand} {ts:Array TypeId} {args:Array Value} {ty:TypeId} {ps:String} {af:Array Edge} {gd:Option (Nat × Bool)} (hi:ops[i]? = some {dst:=N,op:=.call {callee:=.value (.func f),args:=ar,argTypes:=ts},type:=ty,pos:=ps,after:=af,guard:=gd})
  (h:Calls P f args W fun e W'=>∃ v,e= .returned v/\Aside0 (Own w W' l)/\dG P ops Q w l n (js ++ [i]) (a.put N v) W')
  (hw:Region.wanted {dst:=N,op:=.call {callee:=.value (.func f),args:=ar,argTypes:=ts},type:=ty,pos:=ps,after:=af,guard:=gd} (yielded ops a.tmps)=true:=by rfl)
  (hargs:ar.map a.eval=args:=by (try simp only [List.map_toArray,List.map_cons,List.map_nil]);first | done | rfl)
  (hc:((Region.ready .any ops (setAll (Array.replicate n false) js) == [i]) && (n - js.length == n - (js ++ [i]).length+1) && (match P.funcs[f]? with | some fn=> !(fn.name == "runtime.NumGoroutine") && fn.body.isSome | none=>false))=true:=by kernel_rfl):dG P ops Q w l n js a W:=by
 simp only [Bool.and_eq_true,beq_iff_eq] at hc;unfold dG;rw [hc.1.2]
 cases hf:P.funcs[f]? with
 | none=>rw [hf] at hc;cases hc.2
 | some fn=>
  rw [hf] at hc;simp only [Bool.and_eq_true,Bool.not_eq_true'] at hc;refine one_ (N:=N) ((setAll (Array.replicate n false) js).setIfInBounds i true) hi rfl (by simp [readyB,hc.1.1]) (by simp) (fun K hK=> ?_);refine goes_ (fn:=fn) hf hc.2.1 hc.2.2 args hw rfl rfl hargs ?_;refine h.mono ?_;rintro e W' ⟨v,rfl,hm,hd⟩;refine ⟨v,rfl, ?_⟩;refine hK.out _ _ hm.out (fun _=> ?_);unfold dG at hd;rw [setAll_app] at hd;exact hd
theorem dU {js:List Nat} (i:Nat) {N:Option Tmp} {op:Op} {ty:TypeId} {ps:String} {af:Array Edge} {gd:Option (Nat × Bool)} (hi:ops[i]? = some {dst:=N,op:=op,type:=ty,pos:=ps,after:=af,guard:=gd}) (hw:Region.wanted {dst:=N,op:=op,type:=ty,pos:=ps,after:=af,guard:=gd} (yielded ops a.tmps)=false) (M:Own w W l)
  (h:dG P ops Q w l n (js ++ [i]) (a.put N undef) W)
  (hc:((Region.ready .any ops (setAll (Array.replicate n false) js) == [i]) && (n - js.length == n - (js ++ [i]).length+1))=true:=by kernel_rfl):dG P ops Q w l n js a W:=by
 simp only [Bool.and_eq_true,beq_iff_eq] at hc;unfold dG;rw [hc.2];refine one_ (N:=N) ((setAll (Array.replicate n false) js).setIfInBounds i true) hi rfl (by simp [readyB,hc.1]) (by simp) (fun K hK=> ?_);rw [if_neg (by rw [hw];exact Bool.false_ne_true)];refine hK.out _ _ M (fun _=> ?_);unfold dG at h;rw [setAll_app] at h;exact h
theorem dD {js:List Nat} (h:Q .normal a W) (hr:(Region.ready .any ops (setAll (Array.replicate n false) js) == [])=true:=by kernel_rfl):dG P ops Q w l n js a W:=done_ hr h
theorem dA {js:List Nat} {a':Go.Act} (h:dG P ops Q w l n js a' W) (ha:a=a':=by simp only [Act.put,sA,sZ,sS,i64_w];rfl):dG P ops Q w l n js a W:=by
 subst ha;exact h
end
theorem put_cells {w:World} {A:Option Addr} {xs:List Put} (h:kPut.C w A xs.length xs):∃ b o,(0 < xs.length->A=some ⟨b,o,none⟩)/\∀ k,k < xs.length->w.cell? ⟨b,o+k*2,none⟩=some (.int .i64 (putAt xs k).cell)/\w.cell? ⟨b,o+k*2+1,none⟩=some (.int .i64 (putAt xs k).num):=by
 by_cases h0:0 < xs.length
 ·obtain ⟨b,o,cs,rfl,-⟩:=C_field h zPut 0 h0 (by decide)
  refine ⟨b,o,fun _=>rfl,fun k hk=> ?_⟩;obtain ⟨b',o',cs,he,hcl,hK,hcc,-⟩:=C_field h zPut k hk (by decide);cases he;have e:=kPut_open hK;subst e;have p0:=hcc 0 _ rfl;have p1:=hcc 1 _ rfl;simp only [show kPut.sz=2 from rfl,Nat.add_zero] at p0 p1;exact ⟨p0,p1⟩
 ·exact ⟨0,0,fun h=>absurd h h0,fun k hk=>by omega⟩
theorem l12List_calls (A:Option Addr) (c:Nat) (xs:List Put) (cells:Int) (w:World) (hx:kPut.C w A xs.length xs) (hn:xs.length<=1048576) (h0:0<=cells) (h1:cells<=1048576):
  Calls Try.prog 92 #[.slice A xs.length c,.int .i64 cells] w fun e w'=>e= .returned (.bool (listOk xs cells))/\Below w.heap.size w w':=by
 obtain ⟨b,o,hA,hcell⟩:=put_cells hx;have HC:=am hcell;have M:=am (Own.nil w);have C:=M.out.cl;clear hx hcell;go_enter Try.func92,Try.ntmps92;go_wp2;go_loopw [5] (fun j w'=>∃ k:Nat,k<=xs.length/\j= .int .i64 k/\Aside0 (∀ i,i < k->(inB (putAt xs i).cell 0 (cells - 1) && inB (putAt xs i).num 0 99 && (decide (i=0) || decide ((putAt xs (i - 1)).cell < (putAt xs i).cell)))=true)/\Aside0 (Own w w' [])) (fun j _=>xs.length - (intOf j).toNat)
 case atStart=>exact ⟨0,Nat.zero_le _,rfl,⟨fun i hi=>by omega⟩,M⟩
 case round=>
  obtain ⟨k,hk,rfl,HJ,M2⟩:=hrel;clear M C;have M:=M2;clear M2;by_cases hlt:k < xs.length
  ·obtain rfl:=hA (by omega)
   have q0:(0:Int)<=(k:Int):=by omega
   have q1:(k:Int) < (xs.length:Int):=by omega
   obtain ⟨x,hxx⟩:∃ x,x=putAt xs k:=⟨_,rfl⟩;have p0:=(HC.out k hlt).1;have p1:=(HC.out k hlt).2;rw [<-hxx] at p0 p1;have HXX:=am hxx;have w1:wrap64 (cells - 1)=cells - 1:=by unfold wrap64;omega
   obtain ⟨b1,y1⟩:∃ b,inB x.cell 0 (cells - 1)=b:=⟨_,rfl⟩;obtain ⟨b2,y2⟩:∃ b,inB x.num 0 99=b:=⟨_,rfl⟩;have H1:=am y1;have H2:=am y2;have Y1:Aside0 ((decide (0<=x.cell) && decide (x.cell<=wrap64 (cells - 1)))=b1):=⟨by rw [w1];exact y1⟩;have Y2:Aside0 ((decide (0<=x.num) && decide (x.num<=99))=b2):=⟨y2⟩;replace M:=am ((M.out.far p0).far p1);have C:=M.out.cl;simp only [Cl] at C;clear hxx y1 y2 p0 p1;go_wp2;cases b1
   case false=>
    refine dS M.out ?_;clear M C;intro W M;refine dN [0,1,2,3,4,5,6] M.out ?_;iterate 7 (first|refine sP rfl ?_ | refine sG rfl ?_ | refine sU rfl ?_ | refine sN rfl ?_)
    refine stillS_nil ?_;refine dC 7 rfl ?_;refine oEb (l6In_calls _ _ _ _) Y1.out ?_;refine ⟨_,rfl,M,dA ?_⟩;refine dN [8,9,10,11,12,13,14] M.out ?_;iterate 7 (first|refine sP rfl ?_ | refine sG rfl ?_ | refine sU rfl ?_ | refine sN rfl ?_)
    refine stillS_nil ?_;refine dU 15 rfl rfl M.out (dA ?_);refine dN [16,17,18,19,20,21,22,23,24,25,26,27,28,29,30,31,32,33,34,35] M.out ?_;iterate 20 (first|refine sP rfl ?_ | refine sG rfl ?_ | refine sU rfl ?_ | refine sN rfl ?_)
    refine stillS_nil ?_;refine dD ?_;have C:=M.out.cl;simp only [Cl] at C;go_wp2;go_ret;rw [show listOk xs cells=false from allB_no hlt (by rw [<-HXX.out,H1.out,Bool.false_and,Bool.false_and])];exact ⟨rfl,M.out.below⟩
   cases b2
   case false=>
    refine dS M.out ?_;clear M C;intro W M;refine dN [0,1,2,3,4,5,6] M.out ?_;iterate 7 (first|refine sP rfl ?_ | refine sG rfl ?_ | refine sU rfl ?_ | refine sN rfl ?_)
    refine stillS_nil ?_;refine dC 7 rfl ?_;refine oEb (l6In_calls _ _ _ _) Y1.out ?_;refine ⟨_,rfl,M,dA ?_⟩;refine dN [8,9,10,11,12,13,14] M.out ?_;iterate 7 (first|refine sP rfl ?_ | refine sG rfl ?_ | refine sU rfl ?_ | refine sN rfl ?_)
    refine stillS_nil ?_;refine dC 15 rfl ?_;refine oEb (l6In_calls _ _ _ _) Y2.out ?_;refine ⟨_,rfl,M,dA ?_⟩;refine dN [16,17,18,19,20,21,22,23,24,25,26,27,28,29,30,31,32,33,34,35] M.out ?_;iterate 20 (first|refine sP rfl ?_ | refine sG rfl ?_ | refine sU rfl ?_ | refine sN rfl ?_)
    refine stillS_nil ?_;refine dD ?_;have C:=M.out.cl;simp only [Cl] at C;go_wp2;go_ret;rw [show listOk xs cells=false from allB_no hlt (by rw [<-HXX.out,H2.out,Bool.and_false,Bool.false_and])];exact ⟨rfl,M.out.below⟩
   by_cases hk0:k=0
   ·have y0:decide ((0:Int) < (k:Int))=false:=decide_eq_false (by omega)
    have y0':decide (0 < k)=false:=decide_eq_false (by omega);have HK0:=am hk0;clear hk0;refine dS M.out ?_;clear M C;intro W M;refine dN [0,1,2,3,4,5,6] M.out ?_;iterate 7 (first|refine sP rfl ?_ | refine sG rfl ?_ | refine sU rfl ?_ | refine sN rfl ?_)
    refine stillS_nil ?_;refine dC 7 rfl ?_;refine oEb (l6In_calls _ _ _ _) Y1.out ?_;refine ⟨_,rfl,M,dA ?_⟩;refine dN [8,9,10,11,12,13,14] M.out ?_;iterate 7 (first|refine sP rfl ?_ | refine sG rfl ?_ | refine sU rfl ?_ | refine sN rfl ?_)
    refine stillS_nil ?_;refine dC 15 rfl ?_;refine oEb (l6In_calls _ _ _ _) Y2.out ?_;refine ⟨_,rfl,M,dA ?_⟩;refine dN [16,17,18,19,20,21,22,23,24,25,26,27,28,29,30,31,32,33,34,35] M.out ?_;iterate 20 (first|refine sP rfl ?_ | refine sG rfl ?_ | refine sU rfl ?_ | refine sN rfl ?_)
    refine stillS_nil ?_;refine dD ?_;have C:=M.out.cl;simp only [Cl] at C;go_wp2;go_roundw
    case rel=>exact ⟨k+1,by omega,by go_num,⟨fun i hi=>by rcases Nat.lt_or_ge i k with h | h;exact HJ.out i h;obtain rfl:i=k:=(by omega);rw [<-HXX.out,H1.out,H2.out,decide_eq_true HK0.out,Bool.true_or];rfl⟩,⟨M.out.pop.pop⟩⟩
    case measure=>simp [intOf];omega
   ·have y0:decide ((0:Int) < (k:Int))=true:=decide_eq_true (by omega)
    have y0':decide (0 < k)=true:=decide_eq_true (by omega);obtain ⟨xp,hxp⟩:∃ x,x=putAt xs (k - 1):=⟨_,rfl⟩;have p0:=(HC.out (k - 1) (by omega)).1;rw [<-hxp] at p0;have HXP:=am hxp;have s0:(0:Int)<=(k:Int) - 1:=by omega
    have s1:(k:Int) - 1 < (xs.length:Int):=by omega
    have s2:((k:Int) - 1).toNat=k - 1:=by omega
    have s3:(1:Int)<=(k:Int):=by omega
    have s4:1<=k:=by omega
    have w2:wrap64 ((k:Int) - 1)=(k:Int) - 1:=by unfold wrap64;omega
    replace M:=am (M.out.far p0);clear C;have C:=M.out.cl;simp only [Cl] at C;clear p0 hxp;obtain ⟨b3,y3⟩:∃ b,decide (x.cell<=xp.cell)=b:=⟨_,rfl⟩;have Y3:=am y3;cases b3
    ·refine dS M.out ?_
     clear M C;intro W M;refine dN [0,1,2,3,4,5,6] M.out ?_;iterate 7 (first|refine sP rfl ?_ | refine sG rfl ?_ | refine sU rfl ?_ | refine sN rfl ?_)
     refine stillS_nil ?_;refine dC 7 rfl ?_;refine oEb (l6In_calls _ _ _ _) Y1.out ?_;refine ⟨_,rfl,M,dA ?_⟩;refine dN [8,9,10,11,12,13,14] M.out ?_;iterate 7 (first|refine sP rfl ?_ | refine sG rfl ?_ | refine sU rfl ?_ | refine sN rfl ?_)
     refine stillS_nil ?_;refine dC 15 rfl ?_;refine oEb (l6In_calls _ _ _ _) Y2.out ?_;refine ⟨_,rfl,M,dA ?_⟩;refine dN [16,17,18,19,20,21,22,23,24,25,26,27,28,29,30,31,32,33,34,35] M.out ?_;iterate 20 (first|refine sP rfl ?_ | refine sG rfl ?_ | refine sU rfl ?_ | refine sN rfl ?_)
     refine stillS_nil ?_;refine dD ?_;have C:=M.out.cl;simp only [Cl] at C;go_wp2;go_roundw
     case rel=>exact ⟨k+1,by omega,by go_num,⟨fun i hi=>by rcases Nat.lt_or_ge i k with h | h;exact HJ.out i h;obtain rfl:i=k:=(by omega);rw [<-HXX.out,H1.out,H2.out,<-HXP.out,decide_eq_true (show xp.cell < x.cell from Int.not_le.1 (of_decide_eq_false Y3.out)),Bool.or_true];rfl⟩,⟨M.out.pop.pop.pop⟩⟩
     case measure=>simp [intOf];omega
    ·refine dS M.out ?_
     clear M C;intro W M;refine dN [0,1,2,3,4,5,6] M.out ?_;iterate 7 (first|refine sP rfl ?_ | refine sG rfl ?_ | refine sU rfl ?_ | refine sN rfl ?_)
     refine stillS_nil ?_;refine dC 7 rfl ?_;refine oEb (l6In_calls _ _ _ _) Y1.out ?_;refine ⟨_,rfl,M,dA ?_⟩;refine dN [8,9,10,11,12,13,14] M.out ?_;iterate 7 (first|refine sP rfl ?_ | refine sG rfl ?_ | refine sU rfl ?_ | refine sN rfl ?_)
     refine stillS_nil ?_;refine dC 15 rfl ?_;refine oEb (l6In_calls _ _ _ _) Y2.out ?_;refine ⟨_,rfl,M,dA ?_⟩;refine dN [16,17,18,19,20,21,22,23,24,25,26,27,28,29,30,31,32,33,34,35] M.out ?_;iterate 20 (first|refine sP rfl ?_ | refine sG rfl ?_ | refine sU rfl ?_ | refine sN rfl ?_)
     refine stillS_nil ?_;refine dD ?_;have C:=M.out.cl;simp only [Cl] at C;go_wp2;go_ret;rw [show listOk xs cells=false from allB_no hlt (by rw [<-HXX.out,<-HXP.out,decide_eq_false hk0,decide_eq_false (show ¬ xp.cell < x.cell from Int.not_lt.2 (of_decide_eq_true Y3.out)),Bool.false_or,Bool.and_false])];exact ⟨rfl,M.out.below⟩
  ·obtain rfl:k=xs.length:=by omega
   have q1:¬ (xs.length:Int) < (xs.length:Int):=by omega
   go_wp2;go_ret;rw [show listOk xs cells=true from allB_iff.2 HJ.out];exact ⟨rfl,M.out.below⟩
theorem l2Nums_calls (A:Option Addr) (c:Nat) (ks:List Int) (size:Int) (w:World) (hx:(Kd.int .i64).C w A ks.length ks) (hn:ks.length<=1048576):
  Calls Try.prog 91 #[.slice A ks.length c,.int .i64 size] w fun e w'=>e= .returned (.bool (numsOk ks size))/\w=w':=by
 have HX:=am hx;clear hx;go_enter Try.func91,Try.ntmps91;go_wp2;go_loopw [5] (fun j w'=>∃ k:Nat,k<=ks.length/\j= .int .i64 k/\Aside0 (∀ i,i < k->inB (numAt ks i) 0 99=true)/\w=w') (fun j _=>ks.length - (intOf j).toNat)
 case atStart=>exact ⟨0,Nat.zero_le _,rfl,⟨fun i hi=>by omega⟩,rfl⟩
 case round=>
  obtain ⟨k,hk,rfl,HJ,rfl⟩:=hrel;by_cases hlt:k < ks.length
  ·have q0:(0:Int)<=(k:Int):=by omega
   have q1:(k:Int) < (ks.length:Int):=by omega
   obtain ⟨ad,rfl,gx⟩:=Kd.at_int HX.out (k:Int) q0 q1;simp only [Int.toNat_natCast] at gx;obtain ⟨x,hxx⟩:∃ x,x=numAt ks k:=⟨_,rfl⟩;rw [show rd ks (k:Int)=x from hxx.symm] at gx;have HXX:=am hxx;clear hxx
   cases hb:inB x 0 99 with
   | true=>
    have HI:Aside0 ((decide ((0:Int)<=x) && decide (x<=99))=true):=⟨hb⟩;clear hb;go_wp2_with (first|(go_at_call 50;refine (l6In_calls _ _ _ _).mono ?_;(first|rw [HI.out]);rintro e w9 ⟨rfl,rfl⟩))
    go_roundw
    case rel=>exact ⟨k+1,by omega,by go_num,⟨fun i hi=>by rcases Nat.lt_or_ge i k with h | h;exact HJ.out i h;obtain rfl:i=k:=(by omega);rw [<-HXX.out];exact HI.out⟩,trivial⟩
    case measure=>simp [intOf];omega
   | false=>
    have HI:Aside0 ((decide ((0:Int)<=x) && decide (x<=99))=false):=⟨hb⟩;clear hb;go_wp2_with (first|(go_at_call 50;refine (l6In_calls _ _ _ _).mono ?_;(first|rw [HI.out]);rintro e w9 ⟨rfl,rfl⟩))
    go_ret
    have hr:numsOk ks size=false:=by
     unfold numsOk;rw [allB_no hlt (by rw [<-HXX.out];exact HI.out),Bool.false_and]
    rw [hr];exact ⟨rfl,rfl⟩
  ·obtain rfl:k=ks.length:=by omega
   go_wp2;go_ret
   have hr:numsOk ks size=((ks.length:Int) == size):=by
    unfold numsOk;rw [allB_iff.2 HJ.out,Bool.true_and];rw [Bool.eq_iff_iff];simp
   rw [hr];exact ⟨rfl,rfl⟩
theorem l12Holds_calls (t:Task) (cs:List Value) (cell:Int) (w:World) (hx:kTask.K w t cs) (hpn:t.puts.length<=1048576):
  Calls Try.prog 96 #[.agg cs.toArray,.int .i64 cell] w fun e w'=>e= .returned (.bool (holds t cell))/\Below w.heap.size w w':=by
 obtain ⟨B3,d3,B8,d8,B9,d9,B10,d10,rfl,-,-,-,-,-,-,-,g10⟩:=kTask_open hx;have C10:=am g10;clear hx g10;go_enter Try.func96,Try.ntmps96
 cases hfd:findP t.puts cell with
 | none=>
  have HF:=am hfd;have HFD:Aside0 (placeOf (findP t.puts cell)= -1):=⟨by rw [hfd];rfl⟩;clear hfd
  go_wp2_with (first
  |((with_reducible refine gate_dst (N:=2) rfl ?_);refine box_event rfl (N:=2) rfl (t:=38) (by go_simp<;>rfl) ?_;intro gt hg w2 hbox hb;have BT:=am hbox;have HB:=am hb;have BTc:=zc8 BT.out;clear hbox hb hg)
  |(go_at_call 126;refine (l11Find_calls B10 d10 t.puts cell _ (Kd.C_below C10.out HB.out) hpn).mono ?_;rw [HFD.out];rintro e w9 ⟨rfl,rfl⟩))
  go_ret
  have hr:holds t cell=false:=by
   unfold holds;rw [HF.out]
  rw [hr]
  exact ⟨rfl,HB.out⟩
 | some kp=>
  have HO:Aside0 (holds t cell=if t.stage=2 then decide ((kp:Int) < t.at_) else if t.stage=3\/t.stage=4 then true else if t.stage=5 then decide (t.at_<=(kp:Int)) else false):=⟨by unfold holds;rw [hfd]⟩;have HFD:Aside0 (placeOf (findP t.puts cell)=(kp:Int)):=⟨by rw [hfd];rfl⟩;clear hfd;by_cases s2:t.stage=2
  ·have y2:(t.stage == 2)=true:=by simp [s2]
   have S2:=am s2;clear s2
   go_wp2_with (first
   |((with_reducible refine gate_dst (N:=2) rfl ?_);refine box_event rfl (N:=2) rfl (t:=38) (by go_simp<;>rfl) ?_;intro gt hg w2 hbox hb;have BT:=am hbox;have HB:=am hb;have BTc:=zc8 BT.out;clear hbox hb hg)
   |(go_at_call 126;refine (l11Find_calls B10 d10 t.puts cell _ (Kd.C_below C10.out HB.out) hpn).mono ?_;rw [HFD.out];rintro e w9 ⟨rfl,rfl⟩))
   go_ret
   have hr:holds t cell=decide ((kp:Int) < t.at_):=by
    rw [HO.out];rw [if_pos S2.out]
   rw [hr];exact ⟨rfl,HB.out⟩
  ·have y2:(t.stage == 2)=false:=by simp [s2]
   have S2:=am s2;clear s2;by_cases s3:t.stage=3
   ·have y3:(t.stage == 3)=true:=by simp [s3]
    have S3:=am s3;clear s3
    go_wp2_with (first
    |((with_reducible refine gate_dst (N:=2) rfl ?_);refine box_event rfl (N:=2) rfl (t:=38) (by go_simp<;>rfl) ?_;intro gt hg w2 hbox hb;have BT:=am hbox;have HB:=am hb;have BTc:=zc8 BT.out;clear hbox hb hg)
    |(go_at_call 126;refine (l11Find_calls B10 d10 t.puts cell _ (Kd.C_below C10.out HB.out) hpn).mono ?_;rw [HFD.out];rintro e w9 ⟨rfl,rfl⟩))
    go_ret
    have hr:holds t cell=true:=by
     rw [HO.out];rw [if_neg S2.out,if_pos (.inl S3.out)]
    rw [hr];exact ⟨rfl,HB.out⟩
   ·have y3:(t.stage == 3)=false:=by simp [s3]
    have S3:=am s3;clear s3;by_cases s4:t.stage=4
    ·have y4:(t.stage == 4)=true:=by simp [s4]
     have S4:=am s4;clear s4
     go_wp2_with (first
     |((with_reducible refine gate_dst (N:=2) rfl ?_);refine box_event rfl (N:=2) rfl (t:=38) (by go_simp<;>rfl) ?_;intro gt hg w2 hbox hb;have BT:=am hbox;have HB:=am hb;have BTc:=zc8 BT.out;clear hbox hb hg)
     |(go_at_call 126;refine (l11Find_calls B10 d10 t.puts cell _ (Kd.C_below C10.out HB.out) hpn).mono ?_;rw [HFD.out];rintro e w9 ⟨rfl,rfl⟩))
     go_ret
     have hr:holds t cell=true:=by
      rw [HO.out];rw [if_neg S2.out,if_pos (.inr S4.out)]
     rw [hr];exact ⟨rfl,HB.out⟩
    ·have y4:(t.stage == 4)=false:=by simp [s4]
     have S4:=am s4;clear s4;by_cases s5:t.stage=5
     ·have y5:(t.stage == 5)=true:=by simp [s5]
      have S5:=am s5;clear s5
      go_wp2_with (first
      |((with_reducible refine gate_dst (N:=2) rfl ?_);refine box_event rfl (N:=2) rfl (t:=38) (by go_simp<;>rfl) ?_;intro gt hg w2 hbox hb;have BT:=am hbox;have HB:=am hb;have BTc:=zc8 BT.out;clear hbox hb hg)
      |(go_at_call 126;refine (l11Find_calls B10 d10 t.puts cell _ (Kd.C_below C10.out HB.out) hpn).mono ?_;rw [HFD.out];rintro e w9 ⟨rfl,rfl⟩))
      go_ret
      have hr:holds t cell=decide (t.at_<=(kp:Int)):=by
       rw [HO.out];rw [if_neg S2.out,if_neg (fun h=>h.elim S3.out S4.out),if_pos S5.out]
      rw [hr];exact ⟨rfl,HB.out⟩
     ·have y5:(t.stage == 5)=false:=by simp [s5]
      have S5:=am s5;clear s5
      go_wp2_with (first
      |((with_reducible refine gate_dst (N:=2) rfl ?_);refine box_event rfl (N:=2) rfl (t:=38) (by go_simp<;>rfl) ?_;intro gt hg w2 hbox hb;have BT:=am hbox;have HB:=am hb;have BTc:=zc8 BT.out;clear hbox hb hg)
      |(go_at_call 126;refine (l11Find_calls B10 d10 t.puts cell _ (Kd.C_below C10.out HB.out) hpn).mono ?_;rw [HFD.out];rintro e w9 ⟨rfl,rfl⟩))
      go_ret
      have hr:holds t cell=false:=by
       rw [HO.out];rw [if_neg S2.out,if_neg (fun h=>h.elim S3.out S4.out),if_neg S5.out]
      rw [hr];exact ⟨rfl,HB.out⟩
theorem l12At_calls (t:Task) (cs:List Value) (deeds:Int) (w:World) (hx:kTask.K w t cs) (hrn:t.reads.length<=1048576) (hpn:t.puts.length<=1048576):
  Calls Try.prog 124 #[.agg cs.toArray,.int .i64 deeds] w fun e w'=>e= .returned (.bool (stOk t deeds))/\Below w.heap.size w w':=by
 obtain ⟨B3,d3,B8,d8,B9,d9,B10,d10,rfl,-⟩:=kTask_open hx;clear hx;go_enter Try.func124,Try.ntmps124;by_cases s0:t.stage=0
 ·have y0:(t.stage == 0)=true:=by simp [s0]
  have S0:=am s0;clear s0;by_cases za:t.at_=0
  ·have y_za:(t.at_ == 0)=true:=by simp [za]
   have Zza:=am za;clear za
   go_wp2_with (first
   |((with_reducible refine gate_dst (N:=2) rfl ?_);refine box_event rfl (N:=2) rfl (t:=38) (by go_simp<;>rfl) ?_;intro gt hg w2 hbox hb;have BT:=am hbox;have HB:=am hb;have BTc:=zc8 BT.out;clear hbox hb hg))
   go_ret
   have hr:stOk t deeds=((t.reads.length:Int)+(t.puts.length:Int) == 0):=by
    unfold stOk;rw [if_pos S0.out];rw [decide_eq_true Zza.out,Bool.true_and,Bool.eq_iff_iff,decide_eq_true_eq,beq_iff_eq];omega
   rw [hr];exact ⟨rfl,HB.out⟩
  ·have y_za:(t.at_ == 0)=false:=by simp [za]
   have Zza:=am za;clear za
   go_wp2_with (first
   |((with_reducible refine gate_dst (N:=2) rfl ?_);refine box_event rfl (N:=2) rfl (t:=38) (by go_simp<;>rfl) ?_;intro gt hg w2 hbox hb;have BT:=am hbox;have HB:=am hb;have BTc:=zc8 BT.out;clear hbox hb hg))
   go_ret
   have hr:stOk t deeds=false:=by
    unfold stOk;rw [if_pos S0.out];rw [decide_eq_false Zza.out,Bool.false_and]
   rw [hr];exact ⟨rfl,HB.out⟩
 ·have y0:(t.stage == 0)=false:=by simp [s0]
  have S0:=am s0;clear s0;by_cases s1:t.stage=1
  ·have y1:(t.stage == 1)=true:=by simp [s1]
   have S1:=am s1;clear s1;obtain ⟨bHI,hbHI⟩:∃ b,inB t.at_ 0 deeds=b:=⟨_,rfl⟩;have HI:Aside0 ((decide ((0:Int)<=t.at_) && decide (t.at_<=deeds))=bHI):=⟨hbHI⟩;clear hbHI
   go_wp2_with (first
   |((with_reducible refine gate_dst (N:=2) rfl ?_);refine box_event rfl (N:=2) rfl (t:=38) (by go_simp<;>rfl) ?_;intro gt hg w2 hbox hb;have BT:=am hbox;have HB:=am hb;have BTc:=zc8 BT.out;clear hbox hb hg)
   |(go_at_call 50;refine (l6In_calls _ _ _ _).mono ?_;(first|rw [HI.out]);rintro e w9 ⟨rfl,rfl⟩))
   go_ret
   have hr:stOk t deeds=bHI:=by
    unfold stOk;rw [if_neg S0.out,if_pos S1.out];exact HI.out
   rw [hr];exact ⟨rfl,HB.out⟩
  ·have y1:(t.stage == 1)=false:=by simp [s1]
   have S1:=am s1;clear s1;by_cases s3:t.stage=3
   ·have y3:(t.stage == 3)=true:=by simp [s3]
    have S3:=am s3;clear s3;by_cases za:t.at_=0
    ·have y_za:(t.at_ == 0)=true:=by simp [za]
     have Zza:=am za;clear za
     go_wp2_with (first
     |((with_reducible refine gate_dst (N:=2) rfl ?_);refine box_event rfl (N:=2) rfl (t:=38) (by go_simp<;>rfl) ?_;intro gt hg w2 hbox hb;have BT:=am hbox;have HB:=am hb;have BTc:=zc8 BT.out;clear hbox hb hg))
     go_ret
     have hr:stOk t deeds=decide (0 < t.puts.length):=by
      unfold stOk;rw [if_neg S0.out,if_neg S1.out,if_pos S3.out];rw [decide_eq_true Zza.out,Bool.true_and]
     rw [hr];exact ⟨rfl,HB.out⟩
    ·have y_za:(t.at_ == 0)=false:=by simp [za]
     have Zza:=am za;clear za
     go_wp2_with (first
     |((with_reducible refine gate_dst (N:=2) rfl ?_);refine box_event rfl (N:=2) rfl (t:=38) (by go_simp<;>rfl) ?_;intro gt hg w2 hbox hb;have BT:=am hbox;have HB:=am hb;have BTc:=zc8 BT.out;clear hbox hb hg))
     go_ret
     have hr:stOk t deeds=false:=by
      unfold stOk;rw [if_neg S0.out,if_neg S1.out,if_pos S3.out];rw [decide_eq_false Zza.out,Bool.false_and]
     rw [hr];exact ⟨rfl,HB.out⟩
   ·have y3:(t.stage == 3)=false:=by simp [s3]
    have S3:=am s3;clear s3;by_cases s4:t.stage=4
    ·have y4:(t.stage == 4)=true:=by simp [s4]
     have S4:=am s4;clear s4;obtain ⟨bHI,hbHI⟩:∃ b,inB t.at_ 0 (t.reads.length:Int)=b:=⟨_,rfl⟩;have HI:Aside0 ((decide ((0:Int)<=t.at_) && decide (t.at_<=(t.reads.length:Int)))=bHI):=⟨hbHI⟩;clear hbHI
     cases bHI with
     | false=>
      go_wp2_with (first
      |((with_reducible refine gate_dst (N:=2) rfl ?_);refine box_event rfl (N:=2) rfl (t:=38) (by go_simp<;>rfl) ?_;intro gt hg w2 hbox hb;have BT:=am hbox;have HB:=am hb;have BTc:=zc8 BT.out;clear hbox hb hg)
      |(go_at_call 50;refine (l6In_calls _ _ _ _).mono ?_;(first|rw [HI.out]);rintro e w9 ⟨rfl,rfl⟩))
      go_ret
      have hr:stOk t deeds=false:=by
       unfold stOk;rw [if_neg S0.out,if_neg S1.out,if_neg S3.out,if_pos S4.out];rw [show inB t.at_ 0 (t.reads.length:Int)=false from HI.out,Bool.false_and]
      rw [hr]
      exact ⟨rfl,HB.out⟩
     | true=>
      go_wp2_with (first
      |((with_reducible refine gate_dst (N:=2) rfl ?_);refine box_event rfl (N:=2) rfl (t:=38) (by go_simp<;>rfl) ?_;intro gt hg w2 hbox hb;have BT:=am hbox;have HB:=am hb;have BTc:=zc8 BT.out;clear hbox hb hg)
      |(go_at_call 50;refine (l6In_calls _ _ _ _).mono ?_;(first|rw [HI.out]);rintro e w9 ⟨rfl,rfl⟩))
      go_ret
      have hr:stOk t deeds=decide (0 < t.puts.length):=by
       unfold stOk;rw [if_neg S0.out,if_neg S1.out,if_neg S3.out,if_pos S4.out];rw [show inB t.at_ 0 (t.reads.length:Int)=true from HI.out,Bool.true_and]
      rw [hr];exact ⟨rfl,HB.out⟩
    ·have y4:(t.stage == 4)=false:=by simp [s4]
     have S4:=am s4;clear s4;obtain ⟨bHI,hbHI⟩:∃ b,inB t.at_ 0 ((t.puts.length:Int) - 1)=b:=⟨_,rfl⟩;have HI:Aside0 ((decide ((0:Int)<=t.at_) && decide (t.at_<=((t.puts.length:Int) - 1)))=bHI):=⟨hbHI⟩;clear hbHI
     go_wp2_with (first
     |((with_reducible refine gate_dst (N:=2) rfl ?_);refine box_event rfl (N:=2) rfl (t:=38) (by go_simp<;>rfl) ?_;intro gt hg w2 hbox hb;have BT:=am hbox;have HB:=am hb;have BTc:=zc8 BT.out;clear hbox hb hg)
     |(go_at_call 50;refine (l6In_calls _ _ _ _).mono ?_;(first|rw [HI.out]);rintro e w9 ⟨rfl,rfl⟩))
     go_ret
     have hr:stOk t deeds=bHI:=by
      unfold stOk;rw [if_neg S0.out,if_neg S1.out,if_neg S3.out,if_neg S4.out];exact HI.out
     rw [hr];exact ⟨rfl,HB.out⟩
theorem l12Times_calls (t:Task) (s:Sys) (cs ss:List Value) (w:World) (hx:kTask.K w t cs) (hs:kSys.K w s ss) (hc0:0<=s.clock) (hc1:s.clock<=200) (hl:s.log.length<=1048576):
  Calls Try.prog 93 #[.agg cs.toArray,.agg ss.toArray] w fun e w'=>e= .returned (.bool (timesOk t s))/\Below w.heap.size w w':=by
 obtain ⟨B3,d3,B8,d8,B9,d9,B10,d10,rfl,-⟩:=kTask_open hx;obtain ⟨A0,c0,A1,c1,A3,c3,rfl,-⟩:=kSys_open hs;clear hx hs;go_enter Try.func93,Try.ntmps93;obtain ⟨bH1,hbH1⟩:∃ b,inB t.since 0 s.clock=b:=⟨_,rfl⟩;have H1:Aside0 ((decide ((0:Int)<=t.since) && decide (t.since<=s.clock))=bH1):=⟨hbH1⟩;clear hbH1
 cases hx1:bH1 with
 | false=>
  subst hx1
  go_wp2_with (first
  |((with_reducible refine gate_dst (N:=2) rfl ?_);refine box_event rfl (N:=2) rfl (t:=38) (by go_simp<;>rfl) ?_;intro gt hg w2 hbox hb;have BT:=am hbox;have HB:=am hb;have BTc:=zc8 BT.out;clear hbox hb hg)
  |((with_reducible refine gate_dst (N:=3) rfl ?_);refine box_event rfl (N:=3) rfl (t:=27) (by go_simp<;>rfl) ?_;intro gs hg w3 hbox hb;have BS:=am hbox;replace HB:=am (below_step HB.out hb);replace BT:=am (zb8 BT.out hb);clear BTc hbox hb hg;have BTc:=zc8 BT.out;have BSc:=zc8 BS.out)
  |(go_at_call 50;refine (l6In_calls _ _ _ _).mono ?_;(first|rw [H1.out]);rintro e w9 ⟨rfl,rfl⟩))
  go_ret
  have hr:timesOk t s=false:=by
   unfold timesOk;rw [show inB t.since 0 s.clock=false from H1.out,Bool.false_and,Bool.false_and]
  rw [hr]
  exact ⟨rfl,HB.out⟩
 | true=>
  subst hx1;have hs01:=inB_iff.1 (show inB t.since 0 s.clock=true from H1.out);have hsA:=hs01.1;have hsB:=hs01.2;clear hs01;obtain ⟨bH2,hbH2⟩:∃ b,inB t.from_ 0 (s.log.length:Int)=b:=⟨_,rfl⟩;have H2:Aside0 ((decide ((0:Int)<=t.from_) && decide (t.from_<=(s.log.length:Int)))=bH2):=⟨hbH2⟩;clear hbH2
  cases hx2:bH2 with
  | false=>
   subst hx2
   go_wp2_with (first
   |((with_reducible refine gate_dst (N:=2) rfl ?_);refine box_event rfl (N:=2) rfl (t:=38) (by go_simp<;>rfl) ?_;intro gt hg w2 hbox hb;have BT:=am hbox;have HB:=am hb;have BTc:=zc8 BT.out;clear hbox hb hg)
   |((with_reducible refine gate_dst (N:=3) rfl ?_);refine box_event rfl (N:=3) rfl (t:=27) (by go_simp<;>rfl) ?_;intro gs hg w3 hbox hb;have BS:=am hbox;replace HB:=am (below_step HB.out hb);replace BT:=am (zb8 BT.out hb);clear BTc hbox hb hg;have BTc:=zc8 BT.out;have BSc:=zc8 BS.out)
   |(go_at_call 50;refine (l6In_calls _ _ _ _).mono ?_;(first|rw [H1.out] | rw [H2.out]);rintro e w9 ⟨rfl,rfl⟩))
   go_ret
   have hr:timesOk t s=false:=by
    unfold timesOk;rw [show inB t.from_ 0 (s.log.length:Int)=false from H2.out,Bool.and_false,Bool.false_and]
   rw [hr]
   exact ⟨rfl,HB.out⟩
  | true=>
   subst hx2;by_cases s0:t.stage=0
   ·have y0:(t.stage == 0)=true:=by simp [s0]
    have S0:=am s0;clear s0;obtain ⟨bHI,hbHI⟩:∃ b,inB t.when_ 0 (s.clock+1)=b:=⟨_,rfl⟩;have HI:Aside0 ((decide ((0:Int)<=t.when_) && decide (t.when_<=(s.clock+1)))=bHI):=⟨hbHI⟩;clear hbHI
    go_wp2_with (first
    |((with_reducible refine gate_dst (N:=2) rfl ?_);refine box_event rfl (N:=2) rfl (t:=38) (by go_simp<;>rfl) ?_;intro gt hg w2 hbox hb;have BT:=am hbox;have HB:=am hb;have BTc:=zc8 BT.out;clear hbox hb hg)
    |((with_reducible refine gate_dst (N:=3) rfl ?_);refine box_event rfl (N:=3) rfl (t:=27) (by go_simp<;>rfl) ?_;intro gs hg w3 hbox hb;have BS:=am hbox;replace HB:=am (below_step HB.out hb);replace BT:=am (zb8 BT.out hb);clear BTc hbox hb hg;have BTc:=zc8 BT.out;have BSc:=zc8 BS.out)
    |(go_at_call 50;refine (l6In_calls _ _ _ _).mono ?_;(first|rw [H1.out] | rw [H2.out] | rw [HI.out]);rintro e w9 ⟨rfl,rfl⟩))
    go_ret
    have hr:timesOk t s=bHI:=by
     unfold timesOk;rw [show inB t.since 0 s.clock=true from H1.out,show inB t.from_ 0 (s.log.length:Int)=true from H2.out,Bool.true_and,Bool.true_and];rw [if_pos S0.out];exact HI.out
    rw [hr];exact ⟨rfl,HB.out⟩
   ·have y0:(t.stage == 0)=false:=by simp [s0]
    have S0:=am s0;clear s0;by_cases s4:t.stage=4
    ·have y4:(t.stage == 4)=true:=by simp [s4]
     have S4:=am s4;clear s4;obtain ⟨bHI,hbHI⟩:∃ b,inB t.when_ (t.since+1) s.clock=b:=⟨_,rfl⟩;have HI:Aside0 ((decide (((t.since+1):Int)<=t.when_) && decide (t.when_<=s.clock))=bHI):=⟨hbHI⟩;clear hbHI
     go_wp2_with (first
     |((with_reducible refine gate_dst (N:=2) rfl ?_);refine box_event rfl (N:=2) rfl (t:=38) (by go_simp<;>rfl) ?_;intro gt hg w2 hbox hb;have BT:=am hbox;have HB:=am hb;have BTc:=zc8 BT.out;clear hbox hb hg)
     |((with_reducible refine gate_dst (N:=3) rfl ?_);refine box_event rfl (N:=3) rfl (t:=27) (by go_simp<;>rfl) ?_;intro gs hg w3 hbox hb;have BS:=am hbox;replace HB:=am (below_step HB.out hb);replace BT:=am (zb8 BT.out hb);clear BTc hbox hb hg;have BTc:=zc8 BT.out;have BSc:=zc8 BS.out)
     |(go_at_call 50;refine (l6In_calls _ _ _ _).mono ?_;(first|rw [H1.out] | rw [H2.out] | rw [HI.out]);rintro e w9 ⟨rfl,rfl⟩))
     go_ret
     have hr:timesOk t s=bHI:=by
      unfold timesOk;rw [show inB t.since 0 s.clock=true from H1.out,show inB t.from_ 0 (s.log.length:Int)=true from H2.out,Bool.true_and,Bool.true_and];rw [if_neg S0.out,if_pos (.inl S4.out)];exact HI.out
     rw [hr];exact ⟨rfl,HB.out⟩
    ·have y4:(t.stage == 4)=false:=by simp [s4]
     have S4:=am s4;clear s4;by_cases s5:t.stage=5
     ·have y5:(t.stage == 5)=true:=by simp [s5]
      have S5:=am s5;clear s5;obtain ⟨bHI,hbHI⟩:∃ b,inB t.when_ (t.since+1) s.clock=b:=⟨_,rfl⟩;have HI:Aside0 ((decide (((t.since+1):Int)<=t.when_) && decide (t.when_<=s.clock))=bHI):=⟨hbHI⟩;clear hbHI
      go_wp2_with (first
      |((with_reducible refine gate_dst (N:=2) rfl ?_);refine box_event rfl (N:=2) rfl (t:=38) (by go_simp<;>rfl) ?_;intro gt hg w2 hbox hb;have BT:=am hbox;have HB:=am hb;have BTc:=zc8 BT.out;clear hbox hb hg)
      |((with_reducible refine gate_dst (N:=3) rfl ?_);refine box_event rfl (N:=3) rfl (t:=27) (by go_simp<;>rfl) ?_;intro gs hg w3 hbox hb;have BS:=am hbox;replace HB:=am (below_step HB.out hb);replace BT:=am (zb8 BT.out hb);clear BTc hbox hb hg;have BTc:=zc8 BT.out;have BSc:=zc8 BS.out)
      |(go_at_call 50;refine (l6In_calls _ _ _ _).mono ?_;(first|rw [H1.out] | rw [H2.out] | rw [HI.out]);rintro e w9 ⟨rfl,rfl⟩))
      go_ret
      have hr:timesOk t s=bHI:=by
       unfold timesOk;rw [show inB t.since 0 s.clock=true from H1.out,show inB t.from_ 0 (s.log.length:Int)=true from H2.out,Bool.true_and,Bool.true_and];rw [if_neg S0.out,if_pos (.inr S5.out)];exact HI.out
      rw [hr];exact ⟨rfl,HB.out⟩
     ·have y5:(t.stage == 5)=false:=by simp [s5]
      have S5:=am s5;clear s5;have HI:=H1
      go_wp2_with (first
      |((with_reducible refine gate_dst (N:=2) rfl ?_);refine box_event rfl (N:=2) rfl (t:=38) (by go_simp<;>rfl) ?_;intro gt hg w2 hbox hb;have BT:=am hbox;have HB:=am hb;have BTc:=zc8 BT.out;clear hbox hb hg)
      |((with_reducible refine gate_dst (N:=3) rfl ?_);refine box_event rfl (N:=3) rfl (t:=27) (by go_simp<;>rfl) ?_;intro gs hg w3 hbox hb;have BS:=am hbox;replace HB:=am (below_step HB.out hb);replace BT:=am (zb8 BT.out hb);clear BTc hbox hb hg;have BTc:=zc8 BT.out;have BSc:=zc8 BS.out)
      |(go_at_call 50;refine (l6In_calls _ _ _ _).mono ?_;(first|rw [H1.out] | rw [H2.out] | rw [HI.out]);rintro e w9 ⟨rfl,rfl⟩))
      go_ret
      have hr:timesOk t s=(t.when_ == 0):=by
       unfold timesOk;rw [show inB t.since 0 s.clock=true from H1.out,show inB t.from_ 0 (s.log.length:Int)=true from H2.out,Bool.true_and,Bool.true_and];rw [if_neg S0.out,if_neg (fun h=>h.elim S4.out S5.out),Bool.eq_iff_iff,decide_eq_true_eq,beq_iff_eq]
      rw [hr];exact ⟨rfl,HB.out⟩
theorem l12Up_calls (s:Sys) (ss:List Value) (i:Nat) (w:World) (hs:kSys.K w s ss) (hi:i < s.tasks.length) (hn:s.tasks.length<=1048576):
  Calls Try.prog 94 #[.agg ss.toArray,.int .i64 i] w fun e w'=>e= .returned (.bool (upsOk s i))/\Below w.heap.size w w':=by
 obtain ⟨A0,c0,A1,c1,A3,c3,rfl,-,-,-,g1,-⟩:=kSys_open hs;have G1:=am g1;obtain ⟨b,o,cs,rfl,hcl,hK,hcc,-⟩:=C_field g1 zTask i hi (by decide);obtain ⟨t,ht⟩:∃ x,x=taskAt s.tasks i:=⟨_,rfl⟩;rw [show s.tasks.getD i zTask=t from ht.symm] at hK;obtain ⟨B3,d3,B8,d8,B9,d9,B10,d10,rfl,-⟩:=kTask_open hK;have HCC:=am hcc;have q0:(0:Int)<=(i:Int):=by omega
 have q1:(i:Int) < (s.tasks.length:Int):=by omega
 have HU:Aside0 (upsOk s i=if i=0 then decide (t.up= -1) else inB t.up 0 (i - 1) && (!isLive t || decide ((taskAt s.tasks t.up.toNat).way=1))):=⟨by rw [ht];rfl⟩;clear hs g1 hcl hK hcc ht;go_enter Try.func94,Try.ntmps94;by_cases h0:i=0
 ·have y0:((i:Int) == 0)=true:=by simp [h0]
  have y0':(i == 0)=true:=by simp [h0]
  have H0:=am h0;clear h0
  go_wp2_with (first
  |((with_reducible refine gate_dst (N:=2) rfl ?_);refine box_event rfl (N:=2) rfl (t:=27) (by go_simp<;>rfl) ?_;intro gs hg w2 hbox hb;have BS:=am hbox;have HB:=am hb;have BSc:=zc8 BS.out;clear hbox hb hg)
  |((with_reducible refine gate_dst (N:=11) rfl ?_);refine wpList_load_mid rfl 38 (.tmp 10) rfl b (o+i*13) rfl _ _ (fun j u hu=>cellB HB.out (HCC.out j u hu)) Try.underlying38 rfl (by kernel_rfl) ?_)|((with_reducible refine gate_dst (N:=5) rfl ?_);refine box_event rfl (N:=5) rfl (t:=38) (by go_simp<;>rfl) ?_;intro gt hg wt hbox hb;have BT0:=am hbox;have GT:=am hg;have HBT:=am hb;clear hbox hb hg)|((with_reducible refine gate_store (t:=38) (p:=5) rfl ?_);refine store_block rfl rfl 38 (.tmp 5) (.tmp 11) rfl rfl rfl BT0.out rfl (by kernel_rfl) (aB rfl) ?_;intro wn hbox hg;have BT:=am hbox;have hbx:=pw_below_grown HBT.out _ HBT.out.size hg (fun z hz=>by cases hz;exact Nat.le_of_eq GT.out.symm);replace BS:=am (zb8 BS.out hbx);replace HB:=am (below_step HB.out hbx);clear BSc BT0 HBT hbx hbox hg;have BSc:=zc8 BS.out;have BTc:=zc8 BT.out))
  go_ret
  have hr:upsOk s i=(t.up == -1):=by
   rw [HU.out];rw [if_pos H0.out,Bool.eq_iff_iff,decide_eq_true_eq,beq_iff_eq]
  rw [hr];exact ⟨rfl,HB.out⟩
 ·have y0:((i:Int) == 0)=false:=by simp [h0]
  have y0':(i == 0)=false:=by simp [h0]
  have H0:=am h0;clear h0
  cases hb1:inB t.up 0 ((i:Int) - 1) with
  | false=>
   have H1:Aside0 ((decide ((0:Int)<=t.up) && decide (t.up<=(i:Int) - 1))=false):=⟨hb1⟩;clear hb1
   go_wp2_with (first
   |((with_reducible refine gate_dst (N:=2) rfl ?_);refine box_event rfl (N:=2) rfl (t:=27) (by go_simp<;>rfl) ?_;intro gs hg w2 hbox hb;have BS:=am hbox;have HB:=am hb;have BSc:=zc8 BS.out;clear hbox hb hg)
   |((with_reducible refine gate_dst (N:=11) rfl ?_);refine wpList_load_mid rfl 38 (.tmp 10) rfl b (o+i*13) rfl _ _ (fun j u hu=>cellB HB.out (HCC.out j u hu)) Try.underlying38 rfl (by kernel_rfl) ?_)|((with_reducible refine gate_dst (N:=5) rfl ?_);refine box_event rfl (N:=5) rfl (t:=38) (by go_simp<;>rfl) ?_;intro gt hg wt hbox hb;have BT0:=am hbox;have GT:=am hg;have HBT:=am hb;clear hbox hb hg)|((with_reducible refine gate_store (t:=38) (p:=5) rfl ?_);refine store_block rfl rfl 38 (.tmp 5) (.tmp 11) rfl rfl rfl BT0.out rfl (by kernel_rfl) (aB rfl) ?_;intro wn hbox hg;have BT:=am hbox;have hbx:=pw_below_grown HBT.out _ HBT.out.size hg (fun z hz=>by cases hz;exact Nat.le_of_eq GT.out.symm);replace BS:=am (zb8 BS.out hbx);replace HB:=am (below_step HB.out hbx);clear BSc BT0 HBT hbx hbox hg;have BSc:=zc8 BS.out;have BTc:=zc8 BT.out)
   |(go_at_call 50;refine (l6In_calls _ _ _ _).mono ?_;(first|rw [H1.out]);rintro e w9 ⟨rfl,rfl⟩))
   go_ret
   have hr:upsOk s i=false:=by
    rw [HU.out];rw [if_neg H0.out,show inB t.up 0 ((i:Int) - 1)=false from H1.out,Bool.false_and]
   rw [hr]
   exact ⟨rfl,HB.out⟩
  | true=>
   have H1:Aside0 ((decide ((0:Int)<=t.up) && decide (t.up<=(i:Int) - 1))=true):=⟨hb1⟩;have hu:=inB_iff.1 hb1;clear hb1;obtain ⟨u,hu0⟩:=Int.eq_ofNat_of_zero_le hu.1;have hul:u < s.tasks.length:=by omega
   have r0:(0:Int)<=t.up:=hu.1;have r1:t.up < (s.tasks.length:Int):=by omega
   have r4:t.up.toNat=u:=by omega
   obtain ⟨b',o',cs',he,hcl,hK,hcc,-⟩:=C_field G1.out zTask u hul (by decide);cases he;obtain ⟨wy,hwy⟩:∃ x,x=(taskAt s.tasks u).way:=⟨_,rfl⟩;rw [show s.tasks.getD u zTask=taskAt s.tasks u from rfl] at hK;obtain ⟨E3,f3,E8,f8,E9,f9,E10,f10,rfl,-⟩:=kTask_open hK;have pw:=hcc 4 _ rfl;simp only [show kTask.sz=13 from rfl] at pw;rw [<-hwy] at pw;have PW:=am pw;have HWY:=am hwy;clear hcl hK hcc pw hwy hu hu0;by_cases w0:t.way=0
   ·have z0:(t.way == 0)=true:=by simp [w0]
    have W0:=am w0;clear w0
    go_wp2_with (first
    |((with_reducible refine gate_dst (N:=2) rfl ?_);refine box_event rfl (N:=2) rfl (t:=27) (by go_simp<;>rfl) ?_;intro gs hg w2 hbox hb;have BS:=am hbox;have HB:=am hb;have BSc:=zc8 BS.out;clear hbox hb hg)
    |((with_reducible refine gate_dst (N:=11) rfl ?_);refine wpList_load_mid rfl 38 (.tmp 10) rfl b (o+i*13) rfl _ _ (fun j u hu=>cellB HB.out (HCC.out j u hu)) Try.underlying38 rfl (by kernel_rfl) ?_)|((with_reducible refine gate_dst (N:=5) rfl ?_);refine box_event rfl (N:=5) rfl (t:=38) (by go_simp<;>rfl) ?_;intro gt hg wt hbox hb;have BT0:=am hbox;have GT:=am hg;have HBT:=am hb;clear hbox hb hg)|((with_reducible refine gate_store (t:=38) (p:=5) rfl ?_);refine store_block rfl rfl 38 (.tmp 5) (.tmp 11) rfl rfl rfl BT0.out rfl (by kernel_rfl) (aB rfl) ?_;intro wn hbox hg;have BT:=am hbox;have hbx:=pw_below_grown HBT.out _ HBT.out.size hg (fun z hz=>by cases hz;exact Nat.le_of_eq GT.out.symm);replace BS:=am (zb8 BS.out hbx);replace HB:=am (below_step HB.out hbx);clear BSc BT0 HBT hbx hbox hg;have BSc:=zc8 BS.out;have BTc:=zc8 BT.out;have pww:=cellB HB.out PW.out)
    |(go_at_call 50;refine (l6In_calls _ _ _ _).mono ?_;(first|rw [H1.out]);rintro e w9 ⟨rfl,rfl⟩))
    go_ret
    have hr:upsOk s i=(wy == 1):=by
     rw [HU.out];rw [if_neg H0.out,show inB t.up 0 ((i:Int) - 1)=true from H1.out,r4,<-HWY.out,show isLive t=true by simp [isLive,W0.out]];rw [Bool.true_and,Bool.not_true,Bool.false_or,Bool.eq_iff_iff,decide_eq_true_eq,beq_iff_eq]
    rw [hr];exact ⟨rfl,HB.out⟩
   ·have z0:(t.way == 0)=false:=by simp [w0]
    by_cases w1:t.way=1
    ·have z1:(t.way == 1)=true:=by simp [w1]
     have W1:=am w1;clear w0 w1
     go_wp2_with (first
     |((with_reducible refine gate_dst (N:=2) rfl ?_);refine box_event rfl (N:=2) rfl (t:=27) (by go_simp<;>rfl) ?_;intro gs hg w2 hbox hb;have BS:=am hbox;have HB:=am hb;have BSc:=zc8 BS.out;clear hbox hb hg)
     |((with_reducible refine gate_dst (N:=11) rfl ?_);refine wpList_load_mid rfl 38 (.tmp 10) rfl b (o+i*13) rfl _ _ (fun j u hu=>cellB HB.out (HCC.out j u hu)) Try.underlying38 rfl (by kernel_rfl) ?_)|((with_reducible refine gate_dst (N:=5) rfl ?_);refine box_event rfl (N:=5) rfl (t:=38) (by go_simp<;>rfl) ?_;intro gt hg wt hbox hb;have BT0:=am hbox;have GT:=am hg;have HBT:=am hb;clear hbox hb hg)|((with_reducible refine gate_store (t:=38) (p:=5) rfl ?_);refine store_block rfl rfl 38 (.tmp 5) (.tmp 11) rfl rfl rfl BT0.out rfl (by kernel_rfl) (aB rfl) ?_;intro wn hbox hg;have BT:=am hbox;have hbx:=pw_below_grown HBT.out _ HBT.out.size hg (fun z hz=>by cases hz;exact Nat.le_of_eq GT.out.symm);replace BS:=am (zb8 BS.out hbx);replace HB:=am (below_step HB.out hbx);clear BSc BT0 HBT hbx hbox hg;have BSc:=zc8 BS.out;have BTc:=zc8 BT.out;have pww:=cellB HB.out PW.out)
     |(go_at_call 50;refine (l6In_calls _ _ _ _).mono ?_;(first|rw [H1.out]);rintro e w9 ⟨rfl,rfl⟩))
     go_ret
     have hr:upsOk s i=(wy == 1):=by
      rw [HU.out];rw [if_neg H0.out,show inB t.up 0 ((i:Int) - 1)=true from H1.out,r4,<-HWY.out,show isLive t=true by simp [isLive,W1.out]];rw [Bool.true_and,Bool.not_true,Bool.false_or,Bool.eq_iff_iff,decide_eq_true_eq,beq_iff_eq]
     rw [hr];exact ⟨rfl,HB.out⟩
    ·have z1:(t.way == 1)=false:=by simp [w1]
     have WN:Aside0 (isLive t=false):=⟨by simp [isLive,w0,w1]⟩;clear w0 w1
     go_wp2_with (first
     |((with_reducible refine gate_dst (N:=2) rfl ?_);refine box_event rfl (N:=2) rfl (t:=27) (by go_simp<;>rfl) ?_;intro gs hg w2 hbox hb;have BS:=am hbox;have HB:=am hb;have BSc:=zc8 BS.out;clear hbox hb hg)
     |((with_reducible refine gate_dst (N:=11) rfl ?_);refine wpList_load_mid rfl 38 (.tmp 10) rfl b (o+i*13) rfl _ _ (fun j u hu=>cellB HB.out (HCC.out j u hu)) Try.underlying38 rfl (by kernel_rfl) ?_)|((with_reducible refine gate_dst (N:=5) rfl ?_);refine box_event rfl (N:=5) rfl (t:=38) (by go_simp<;>rfl) ?_;intro gt hg wt hbox hb;have BT0:=am hbox;have GT:=am hg;have HBT:=am hb;clear hbox hb hg)|((with_reducible refine gate_store (t:=38) (p:=5) rfl ?_);refine store_block rfl rfl 38 (.tmp 5) (.tmp 11) rfl rfl rfl BT0.out rfl (by kernel_rfl) (aB rfl) ?_;intro wn hbox hg;have BT:=am hbox;have hbx:=pw_below_grown HBT.out _ HBT.out.size hg (fun z hz=>by cases hz;exact Nat.le_of_eq GT.out.symm);replace BS:=am (zb8 BS.out hbx);replace HB:=am (below_step HB.out hbx);clear BSc BT0 HBT hbx hbox hg;have BSc:=zc8 BS.out;have BTc:=zc8 BT.out;have pww:=cellB HB.out PW.out)
     |(go_at_call 50;refine (l6In_calls _ _ _ _).mono ?_;(first|rw [H1.out]);rintro e w9 ⟨rfl,rfl⟩))
     go_ret
     have hr:upsOk s i=true:=by
      rw [HU.out];rw [if_neg H0.out,show inB t.up 0 ((i:Int) - 1)=true from H1.out,WN.out];rfl
     rw [hr];exact ⟨rfl,HB.out⟩
theorem l12Cells_calls (s:Sys) (ss:List Value) (w:World) (hs:kSys.K w s ss) (hm:s.cells.length<=1048576) (hn:s.tasks.length<=1048576) (hz:∀ i,i < s.tasks.length->(taskAt s.tasks i).puts.length<=1048576):
  Calls Try.prog 58 #[.agg ss.toArray] w fun e w'=>e= .returned (.bool (cellsOk s))/\Below w.heap.size w w':=by
 obtain ⟨A0,c0,A1,c1,A3,c3,rfl,-,g0,-,g1,-⟩:=kSys_open hs;have G0:=am g0;have G1:=am g1;have HZ:=am hz;clear hs g0 g1 hz;go_enter Try.func58,Try.ntmps58
 go_wp2_with (first
 |((with_reducible refine gate_dst (N:=1) rfl ?_);refine box_event rfl (N:=1) rfl (t:=27) (by go_simp<;>rfl) ?_;intro gs hg w2 hbox hb;have BS:=am hbox;have HB:=am hb;have BSc:=zc8 BS.out;clear hbox hb hg))
 go_loopw [3] (fun j w'=>∃ k:Nat,k<=s.cells.length/\j= .int .i64 k/\Aside0 (∀ i,i < k->(inB (cellAt s.cells i).num 0 99 && inB (cellAt s.cells i).time 0 s.clock && inB (cellAt s.cells i).lock (-1) (s.tasks.length - 1) && allB s.tasks.length fun k=>decide (holds (taskAt s.tasks k) i=decide ((cellAt s.cells i).lock=k)))=true)/\Aside0 (w'.heap[gs]? = some (.cells #[.slice A0 s.cells.length c0,.slice A1 s.tasks.length c1,.int .i64 s.clock,.slice A3 s.log.length c3] 27 (0,0)))/\Aside0 (Below w.heap.size w w')) (fun j _=>s.cells.length - (intOf j).toNat)
 case atStart=>exact ⟨0,Nat.zero_le _,rfl,⟨fun i hi=>by omega⟩,BS,HB⟩
 case round=>
  clear BS HB BSc;obtain ⟨k,hk,rfl,HJ,BS,HB⟩:=hrel;have BSc:=zc8 BS.out;by_cases hlt:k < s.cells.length
  ·obtain ⟨bc,oc,cs,rfl,hcl,hK,hcc,-⟩:=C_field G0.out zCell k hlt (by decide)
   obtain ⟨c,hcx⟩:∃ x,x=cellAt s.cells k:=⟨_,rfl⟩;rw [show s.cells.getD k zCell=c from hcx.symm] at hK;have e:=kCell_open hK;subst e;have HC:=am hcc;have CX:=am hcx;have q0:(0:Int)<=(k:Int):=by omega
   have q1:(k:Int) < (s.cells.length:Int):=by omega
   clear hcl hK hcc hcx;obtain ⟨bH1,hbH1⟩:∃ b,inB c.num 0 99=b:=⟨_,rfl⟩;have H1:Aside0 ((decide ((0:Int)<=c.num) && decide (c.num<=99))=bH1):=⟨hbH1⟩;clear hbH1;obtain ⟨bH2,hbH2⟩:∃ b,inB c.time 0 s.clock=b:=⟨_,rfl⟩;have H2:Aside0 ((decide ((0:Int)<=c.time) && decide (c.time<=s.clock))=bH2):=⟨hbH2⟩;clear hbH2;obtain ⟨bH3,hbH3⟩:∃ b,inB c.lock (-1) ((s.tasks.length:Int) - 1)=b:=⟨_,rfl⟩;have H3:Aside0 ((decide ((-1:Int)<=c.lock) && decide (c.lock<=(s.tasks.length:Int) - 1))=bH3):=⟨hbH3⟩;clear hbH3
   cases bH1 with
   | false=>
    go_wp2_with (first
    |((with_reducible refine gate_dst (N:=17) rfl ?_);refine wpList_load_mid rfl 53 (.tmp 16) rfl bc (oc+k*3) rfl _ _ (fun j u hu=>cellB HB.out (HC.out j u hu)) Try.underlying53 rfl (by kernel_rfl) ?_)|((with_reducible refine gate_dst (N:=4) rfl ?_);refine box_event rfl (N:=4) rfl (t:=53) (by go_simp<;>rfl) ?_;intro gc hg wt hbox hb;have BC0:=am hbox;have GC:=am hg;have HBT:=am hb;clear hbox hb hg)|((with_reducible refine gate_store (t:=53) (p:=4) rfl ?_);refine store_block rfl rfl 53 (.tmp 4) (.tmp 17) rfl rfl rfl BC0.out rfl (by kernel_rfl) (aB rfl) ?_;intro wn hbox hg;have BC:=am hbox;have hbx:=pw_below_grown HBT.out _ HBT.out.size hg (fun z hz=>by cases hz;exact Nat.le_of_eq GC.out.symm);replace BS:=am (zb8 BS.out hbx);replace HB:=am (below_step HB.out hbx);clear BSc BC0 HBT hbx hbox hg;have BSc:=zc8 BS.out;have BCc:=zc8 BC.out)
    |(go_at_call 50;refine (l6In_calls _ _ _ _).mono ?_;(first|rw [H1.out] | rw [H2.out] | rw [H3.out]);rintro e w9 ⟨rfl,rfl⟩))
    go_ret
    have hr:cellsOk s=false:=by
     unfold cellsOk;exact allB_no hlt (by rw [<-CX.out];simp only [];rw [show inB c.num 0 99=false from H1.out,Bool.false_and,Bool.false_and,Bool.false_and])
    rw [hr]
    exact ⟨rfl,HB.out⟩
   | true=>
    cases bH2 with
    | false=>
     go_wp2_with (first
     |((with_reducible refine gate_dst (N:=17) rfl ?_);refine wpList_load_mid rfl 53 (.tmp 16) rfl bc (oc+k*3) rfl _ _ (fun j u hu=>cellB HB.out (HC.out j u hu)) Try.underlying53 rfl (by kernel_rfl) ?_)|((with_reducible refine gate_dst (N:=4) rfl ?_);refine box_event rfl (N:=4) rfl (t:=53) (by go_simp<;>rfl) ?_;intro gc hg wt hbox hb;have BC0:=am hbox;have GC:=am hg;have HBT:=am hb;clear hbox hb hg)|((with_reducible refine gate_store (t:=53) (p:=4) rfl ?_);refine store_block rfl rfl 53 (.tmp 4) (.tmp 17) rfl rfl rfl BC0.out rfl (by kernel_rfl) (aB rfl) ?_;intro wn hbox hg;have BC:=am hbox;have hbx:=pw_below_grown HBT.out _ HBT.out.size hg (fun z hz=>by cases hz;exact Nat.le_of_eq GC.out.symm);replace BS:=am (zb8 BS.out hbx);replace HB:=am (below_step HB.out hbx);clear BSc BC0 HBT hbx hbox hg;have BSc:=zc8 BS.out;have BCc:=zc8 BC.out)
     |(go_at_call 50;refine (l6In_calls _ _ _ _).mono ?_;(first|rw [H1.out] | rw [H2.out] | rw [H3.out]);rintro e w9 ⟨rfl,rfl⟩))
     go_ret
     have hr:cellsOk s=false:=by
      unfold cellsOk;exact allB_no hlt (by rw [<-CX.out];simp only [];rw [show inB c.time 0 s.clock=false from H2.out,Bool.and_false,Bool.false_and,Bool.false_and])
     rw [hr]
     exact ⟨rfl,HB.out⟩
    | true=>
     cases bH3 with
     | false=>
      go_wp2_with (first
      |((with_reducible refine gate_dst (N:=17) rfl ?_);refine wpList_load_mid rfl 53 (.tmp 16) rfl bc (oc+k*3) rfl _ _ (fun j u hu=>cellB HB.out (HC.out j u hu)) Try.underlying53 rfl (by kernel_rfl) ?_)|((with_reducible refine gate_dst (N:=4) rfl ?_);refine box_event rfl (N:=4) rfl (t:=53) (by go_simp<;>rfl) ?_;intro gc hg wt hbox hb;have BC0:=am hbox;have GC:=am hg;have HBT:=am hb;clear hbox hb hg)|((with_reducible refine gate_store (t:=53) (p:=4) rfl ?_);refine store_block rfl rfl 53 (.tmp 4) (.tmp 17) rfl rfl rfl BC0.out rfl (by kernel_rfl) (aB rfl) ?_;intro wn hbox hg;have BC:=am hbox;have hbx:=pw_below_grown HBT.out _ HBT.out.size hg (fun z hz=>by cases hz;exact Nat.le_of_eq GC.out.symm);replace BS:=am (zb8 BS.out hbx);replace HB:=am (below_step HB.out hbx);clear BSc BC0 HBT hbx hbox hg;have BSc:=zc8 BS.out;have BCc:=zc8 BC.out)
      |(go_at_call 50;refine (l6In_calls _ _ _ _).mono ?_;(first|rw [H1.out] | rw [H2.out] | rw [H3.out]);rintro e w9 ⟨rfl,rfl⟩))
      go_ret
      have hr:cellsOk s=false:=by
       unfold cellsOk;exact allB_no hlt (by rw [<-CX.out];simp only [];rw [show inB c.lock (-1) ((s.tasks.length:Int) - 1)=false from H3.out,Bool.and_false,Bool.false_and])
      rw [hr]
      exact ⟨rfl,HB.out⟩
     | true=>
      go_wp2_with (first
      |((with_reducible refine gate_dst (N:=17) rfl ?_);refine wpList_load_mid rfl 53 (.tmp 16) rfl bc (oc+k*3) rfl _ _ (fun j u hu=>cellB HB.out (HC.out j u hu)) Try.underlying53 rfl (by kernel_rfl) ?_)|((with_reducible refine gate_dst (N:=4) rfl ?_);refine box_event rfl (N:=4) rfl (t:=53) (by go_simp<;>rfl) ?_;intro gc hg wt hbox hb;have BC0:=am hbox;have GC:=am hg;have HBT:=am hb;clear hbox hb hg)|((with_reducible refine gate_store (t:=53) (p:=4) rfl ?_);refine store_block rfl rfl 53 (.tmp 4) (.tmp 17) rfl rfl rfl BC0.out rfl (by kernel_rfl) (aB rfl) ?_;intro wn hbox hg;have BC:=am hbox;have hbx:=pw_below_grown HBT.out _ HBT.out.size hg (fun z hz=>by cases hz;exact Nat.le_of_eq GC.out.symm);replace BS:=am (zb8 BS.out hbx);replace HB:=am (below_step HB.out hbx);clear BSc BC0 HBT hbx hbox hg;have BSc:=zc8 BS.out;have BCc:=zc8 BC.out)
      |(go_at_call 50;refine (l6In_calls _ _ _ _).mono ?_;(first|rw [H1.out] | rw [H2.out] | rw [H3.out]);rintro e w9 ⟨rfl,rfl⟩))
      go_loopw [5] (fun j w'=>∃ m:Nat,m<=s.tasks.length/\j= .int .i64 m/\Aside0 (∀ i,i < m->decide (holds (taskAt s.tasks i) k=decide (c.lock=i))=true)/\Aside0 (w'.heap[gs]? = some (.cells #[.slice (some ⟨bc,oc,none⟩) s.cells.length c0,.slice A1 s.tasks.length c1,.int .i64 s.clock,.slice A3 s.log.length c3] 27 (0,0)))/\Aside0 (w'.heap[gc]? = some (.cells #[.int .i64 c.num,.int .i64 c.time,.int .i64 c.lock] 53 (0,0)))/\Aside0 (Below w.heap.size w w')) (fun j _=>s.tasks.length - (intOf j).toNat)
      case atStart=>exact ⟨0,Nat.zero_le _,rfl,⟨fun i hi=>by omega⟩,BS,BC,HB⟩
      case round=>
       clear BS BC HB BSc BCc;obtain ⟨m,hm',rfl,HM,BS,BC,HB⟩:=hrel;have BSc:=zc8 BS.out;have BCc:=zc8 BC.out;by_cases hmt:m < s.tasks.length
       ·obtain ⟨b,o,cs,rfl,hcl,hK,hcc,-⟩:=C_field G1.out zTask m hmt (by decide)
        have HPN:=am (HZ.out m hmt);obtain ⟨t,htx⟩:∃ x,x=taskAt s.tasks m:=⟨_,rfl⟩;rw [<-htx] at HPN;rw [show s.tasks.getD m zTask=t from htx.symm] at hK;have HK:=am hK;have TX:=am htx;obtain ⟨B3,d3,B8,d8,B9,d9,B10,d10,rfl,-⟩:=kTask_open hK;have HT:=am hcc;have r0:(0:Int)<=(m:Int):=by omega
        have r1:(m:Int) < (s.tasks.length:Int):=by omega
        clear hcl hK hcc htx
        cases hbh:holds t (k:Int) with
        | true=>
         have HH:=am hbh;clear hbh;by_cases hl:c.lock=(m:Int)
         ·have yl:(c.lock == (m:Int))=true:=by simp [hl]
          have HL:Aside0 (decide (c.lock=(m:Int))=true):=⟨decide_eq_true hl⟩;clear hl;go_wp2;refine st9 (n:=12) (S:=fun W=>W.heap[gs]? = some (.cells #[.slice (some ⟨bc,oc,none⟩) s.cells.length c0,.slice (some ⟨b,o,none⟩) s.tasks.length c1,.int .i64 s.clock,.slice A3 s.log.length c3] 27 (0,0))/\W.heap[gc]? = some (.cells #[.int .i64 c.num,.int .i64 c.time,.int .i64 c.lock] 53 (0,0))/\∀ j u, [.int .i64 t.body,.int .i64 t.pc,.int .i64 t.up,.slice B3 t.regs.length d3,.int .i64 t.way,.int .i64 t.stage,.int .i64 t.at_,.int .i64 t.since,.slice B8 t.old.length d8,.slice B9 t.reads.length d9,.slice B10 t.puts.length d10,.int .i64 t.when_,.int .i64 t.from_][j]? = some u->W.cell? ⟨b,o+m*13+j,none⟩=some u) (ds:= []) (by kernel_rfl) rfl ⟨blk_drew BS.out,blk_drew BC.out,fun j u hu=>(show wr.cell? ⟨b,o+m*13+j,none⟩=_ from cellB HB.out (HT.out j u hu))⟩ (fun hHeld=> ?_);have hb:=below_drew (Below.refl wr.heap.size wr);generalize wr.drew=w7 at hb hHeld ⊢;have HB7:=am (below_step HB.out hb);clear hb HB BS BC BSc BCc;refine ba9 (fuel:=2) (n:=10) [0,1,2,3,4,5,7,8,9,10] (by kernel_rfl) (fun N _ _ _ _ h=>by cases N <;> exact h) hHeld ?_
          iterate 10 (
           refine stillS_step (v:= ?_) (a':= ?_) rfl (Or.inl ⟨by rfl, ?_⟩) ?_ ?_;rotate_left
           ·rintro W ⟨s0,s2,s3⟩
            have t0:=zc8 s0;have t2:=zc8 s2;have u0:=s3 0 _ rfl;have u1:=s3 1 _ rfl;have u2:=s3 2 _ rfl;have u3:=s3 3 _ rfl;have u4:=s3 4 _ rfl;have u5:=s3 5 _ rfl;have u6:=s3 6 _ rfl;have u7:=s3 7 _ rfl;have u8:=s3 8 _ rfl;have u9:=s3 9 _ rfl;have u10:=s3 10 _ rfl;have u11:=s3 11 _ rfl;have u12:=s3 12 _ rfl;rw [Nat.add_zero] at u0;clear s0 s2 s3;go_simp;with_reducible rfl
           rotate_left
           ·simp only [Act.put,sA,sZ,sS,i64_w]
            rfl)
          refine stillS_nil ?_;refine on9 (i:=6) (N:=some 53) rfl rfl (by kernel_rfl) (by decide) (fun K hK=> ?_);refine goes_ Try.func96 (by kernel_rfl) rfl #[.agg #[.int .i64 t.body,.int .i64 t.pc,.int .i64 t.up,.slice B3 t.regs.length d3,.int .i64 t.way,.int .i64 t.stage,.int .i64 t.at_,.int .i64 t.since,.slice B8 t.old.length d8,.slice B9 t.reads.length d9,.slice B10 t.puts.length d10,.int .i64 t.when_,.int .i64 t.from_],.int .i64 k] (by rfl) rfl rfl (by (try simp only [List.map_toArray,List.map_cons,List.map_nil]);first | done | rfl) ?_;refine (l12Holds_calls t _ (k:Int) _ (kTask.K_below HB7.out HK.out) HPN.out).mono ?_;rw [HH.out];rintro e wn ⟨rfl,hb⟩;refine ⟨_,rfl, ?_⟩;refine hK.out _ _ ⟨zb8 hHeld.1 hb,zb8 hHeld.2.1 hb,fun j u hu=>cellB hb (hHeld.2.2 j u hu)⟩ (fun hHeld=> ?_);clear hK K;refine norm_ (a':= ?_) ?_ ?_;rotate_left
          ·show Act.put _ (some 53) _=_
           simp only [Act.put,sA,sZ,sS,i64_w];rfl
          have HB:=am (below_step HB7.out hb);refine ba9 (fuel:=0) (n:=1) [11] (by kernel_rfl) (fun N _ _ _ _ h=>by cases N <;> exact h) hHeld ?_
          iterate 1 (
           refine stillS_step (v:= ?_) (a':= ?_) rfl (Or.inl ⟨by rfl, ?_⟩) ?_ ?_;rotate_left
           ·intro W hW
            go_simp
            with_reducible rfl
           rotate_left
           ·simp only [Act.put,sA,sZ,sS,i64_w]
            rfl)
          refine stillS_nil ?_;have BS:=am hHeld.1;have BC:=am hHeld.2.1;clear hHeld HB7 hb;have BSc:=zc8 BS.out;have BCc:=zc8 BC.out;refine done_ (by kernel_rfl) ?_;go_wp2;go_roundw
          case rel=>exact ⟨m+1,by omega,by go_num,⟨fun i hi=>by rcases Nat.lt_or_ge i m with h | h;exact HM.out i h;obtain rfl:i=m:=(by omega);rw [<-TX.out,HH.out,HL.out];rfl⟩,BS,BC,HB⟩
          case measure=>simp [intOf];omega
         ·have yl:(c.lock == (m:Int))=false:=by simp [hl]
          have HL:Aside0 (decide (c.lock=(m:Int))=false):=⟨decide_eq_false hl⟩;clear hl;go_wp2;refine st9 (n:=12) (S:=fun W=>W.heap[gs]? = some (.cells #[.slice (some ⟨bc,oc,none⟩) s.cells.length c0,.slice (some ⟨b,o,none⟩) s.tasks.length c1,.int .i64 s.clock,.slice A3 s.log.length c3] 27 (0,0))/\W.heap[gc]? = some (.cells #[.int .i64 c.num,.int .i64 c.time,.int .i64 c.lock] 53 (0,0))/\∀ j u, [.int .i64 t.body,.int .i64 t.pc,.int .i64 t.up,.slice B3 t.regs.length d3,.int .i64 t.way,.int .i64 t.stage,.int .i64 t.at_,.int .i64 t.since,.slice B8 t.old.length d8,.slice B9 t.reads.length d9,.slice B10 t.puts.length d10,.int .i64 t.when_,.int .i64 t.from_][j]? = some u->W.cell? ⟨b,o+m*13+j,none⟩=some u) (ds:= []) (by kernel_rfl) rfl ⟨blk_drew BS.out,blk_drew BC.out,fun j u hu=>(show wr.cell? ⟨b,o+m*13+j,none⟩=_ from cellB HB.out (HT.out j u hu))⟩ (fun hHeld=> ?_);have hb:=below_drew (Below.refl wr.heap.size wr);generalize wr.drew=w7 at hb hHeld ⊢;have HB7:=am (below_step HB.out hb);clear hb HB BS BC BSc BCc;refine ba9 (fuel:=2) (n:=10) [0,1,2,3,4,5,7,8,9,10] (by kernel_rfl) (fun N _ _ _ _ h=>by cases N <;> exact h) hHeld ?_
          iterate 10 (
           refine stillS_step (v:= ?_) (a':= ?_) rfl (Or.inl ⟨by rfl, ?_⟩) ?_ ?_;rotate_left
           ·rintro W ⟨s0,s2,s3⟩
            have t0:=zc8 s0;have t2:=zc8 s2;have u0:=s3 0 _ rfl;have u1:=s3 1 _ rfl;have u2:=s3 2 _ rfl;have u3:=s3 3 _ rfl;have u4:=s3 4 _ rfl;have u5:=s3 5 _ rfl;have u6:=s3 6 _ rfl;have u7:=s3 7 _ rfl;have u8:=s3 8 _ rfl;have u9:=s3 9 _ rfl;have u10:=s3 10 _ rfl;have u11:=s3 11 _ rfl;have u12:=s3 12 _ rfl;rw [Nat.add_zero] at u0;clear s0 s2 s3;go_simp;with_reducible rfl
           rotate_left
           ·simp only [Act.put,sA,sZ,sS,i64_w]
            rfl)
          refine stillS_nil ?_;refine on9 (i:=6) (N:=some 53) rfl rfl (by kernel_rfl) (by decide) (fun K hK=> ?_);refine goes_ Try.func96 (by kernel_rfl) rfl #[.agg #[.int .i64 t.body,.int .i64 t.pc,.int .i64 t.up,.slice B3 t.regs.length d3,.int .i64 t.way,.int .i64 t.stage,.int .i64 t.at_,.int .i64 t.since,.slice B8 t.old.length d8,.slice B9 t.reads.length d9,.slice B10 t.puts.length d10,.int .i64 t.when_,.int .i64 t.from_],.int .i64 k] (by rfl) rfl rfl (by (try simp only [List.map_toArray,List.map_cons,List.map_nil]);first | done | rfl) ?_;refine (l12Holds_calls t _ (k:Int) _ (kTask.K_below HB7.out HK.out) HPN.out).mono ?_;rw [HH.out];rintro e wn ⟨rfl,hb⟩;refine ⟨_,rfl, ?_⟩;refine hK.out _ _ ⟨zb8 hHeld.1 hb,zb8 hHeld.2.1 hb,fun j u hu=>cellB hb (hHeld.2.2 j u hu)⟩ (fun hHeld=> ?_);clear hK K;refine norm_ (a':= ?_) ?_ ?_;rotate_left
          ·show Act.put _ (some 53) _=_
           simp only [Act.put,sA,sZ,sS,i64_w];rfl
          have HB:=am (below_step HB7.out hb);refine ba9 (fuel:=0) (n:=1) [11] (by kernel_rfl) (fun N _ _ _ _ h=>by cases N <;> exact h) hHeld ?_
          iterate 1 (
           refine stillS_step (v:= ?_) (a':= ?_) rfl (Or.inl ⟨by rfl, ?_⟩) ?_ ?_;rotate_left
           ·intro W hW
            go_simp
            with_reducible rfl
           rotate_left
           ·simp only [Act.put,sA,sZ,sS,i64_w]
            rfl)
          refine stillS_nil ?_;have BS:=am hHeld.1;have BC:=am hHeld.2.1;clear hHeld HB7 hb;have BSc:=zc8 BS.out;have BCc:=zc8 BC.out;refine done_ (by kernel_rfl) ?_;go_wp2;go_ret
          have hr:cellsOk s=false:=by
           unfold cellsOk;exact allB_no hlt (by rw [<-CX.out];simp only [];rw [allB_no hmt (by rw [<-TX.out,HH.out,HL.out];rfl),Bool.and_false])
          rw [hr]
          exact ⟨rfl,HB.out⟩
        | false=>
         have HH:=am hbh;clear hbh;by_cases hl:c.lock=(m:Int)
         ·have yl:(c.lock == (m:Int))=true:=by simp [hl]
          have HL:Aside0 (decide (c.lock=(m:Int))=true):=⟨decide_eq_true hl⟩;clear hl;go_wp2;refine st9 (n:=12) (S:=fun W=>W.heap[gs]? = some (.cells #[.slice (some ⟨bc,oc,none⟩) s.cells.length c0,.slice (some ⟨b,o,none⟩) s.tasks.length c1,.int .i64 s.clock,.slice A3 s.log.length c3] 27 (0,0))/\W.heap[gc]? = some (.cells #[.int .i64 c.num,.int .i64 c.time,.int .i64 c.lock] 53 (0,0))/\∀ j u, [.int .i64 t.body,.int .i64 t.pc,.int .i64 t.up,.slice B3 t.regs.length d3,.int .i64 t.way,.int .i64 t.stage,.int .i64 t.at_,.int .i64 t.since,.slice B8 t.old.length d8,.slice B9 t.reads.length d9,.slice B10 t.puts.length d10,.int .i64 t.when_,.int .i64 t.from_][j]? = some u->W.cell? ⟨b,o+m*13+j,none⟩=some u) (ds:= []) (by kernel_rfl) rfl ⟨blk_drew BS.out,blk_drew BC.out,fun j u hu=>(show wr.cell? ⟨b,o+m*13+j,none⟩=_ from cellB HB.out (HT.out j u hu))⟩ (fun hHeld=> ?_);have hb:=below_drew (Below.refl wr.heap.size wr);generalize wr.drew=w7 at hb hHeld ⊢;have HB7:=am (below_step HB.out hb);clear hb HB BS BC BSc BCc;refine ba9 (fuel:=2) (n:=10) [0,1,2,3,4,5,7,8,9,10] (by kernel_rfl) (fun N _ _ _ _ h=>by cases N <;> exact h) hHeld ?_
          iterate 10 (
           refine stillS_step (v:= ?_) (a':= ?_) rfl (Or.inl ⟨by rfl, ?_⟩) ?_ ?_;rotate_left
           ·rintro W ⟨s0,s2,s3⟩
            have t0:=zc8 s0;have t2:=zc8 s2;have u0:=s3 0 _ rfl;have u1:=s3 1 _ rfl;have u2:=s3 2 _ rfl;have u3:=s3 3 _ rfl;have u4:=s3 4 _ rfl;have u5:=s3 5 _ rfl;have u6:=s3 6 _ rfl;have u7:=s3 7 _ rfl;have u8:=s3 8 _ rfl;have u9:=s3 9 _ rfl;have u10:=s3 10 _ rfl;have u11:=s3 11 _ rfl;have u12:=s3 12 _ rfl;rw [Nat.add_zero] at u0;clear s0 s2 s3;go_simp;with_reducible rfl
           rotate_left
           ·simp only [Act.put,sA,sZ,sS,i64_w]
            rfl)
          refine stillS_nil ?_;refine on9 (i:=6) (N:=some 53) rfl rfl (by kernel_rfl) (by decide) (fun K hK=> ?_);refine goes_ Try.func96 (by kernel_rfl) rfl #[.agg #[.int .i64 t.body,.int .i64 t.pc,.int .i64 t.up,.slice B3 t.regs.length d3,.int .i64 t.way,.int .i64 t.stage,.int .i64 t.at_,.int .i64 t.since,.slice B8 t.old.length d8,.slice B9 t.reads.length d9,.slice B10 t.puts.length d10,.int .i64 t.when_,.int .i64 t.from_],.int .i64 k] (by rfl) rfl rfl (by (try simp only [List.map_toArray,List.map_cons,List.map_nil]);first | done | rfl) ?_;refine (l12Holds_calls t _ (k:Int) _ (kTask.K_below HB7.out HK.out) HPN.out).mono ?_;rw [HH.out];rintro e wn ⟨rfl,hb⟩;refine ⟨_,rfl, ?_⟩;refine hK.out _ _ ⟨zb8 hHeld.1 hb,zb8 hHeld.2.1 hb,fun j u hu=>cellB hb (hHeld.2.2 j u hu)⟩ (fun hHeld=> ?_);clear hK K;refine norm_ (a':= ?_) ?_ ?_;rotate_left
          ·show Act.put _ (some 53) _=_
           simp only [Act.put,sA,sZ,sS,i64_w];rfl
          have HB:=am (below_step HB7.out hb);refine ba9 (fuel:=0) (n:=1) [11] (by kernel_rfl) (fun N _ _ _ _ h=>by cases N <;> exact h) hHeld ?_
          iterate 1 (
           refine stillS_step (v:= ?_) (a':= ?_) rfl (Or.inl ⟨by rfl, ?_⟩) ?_ ?_;rotate_left
           ·intro W hW
            go_simp
            with_reducible rfl
           rotate_left
           ·simp only [Act.put,sA,sZ,sS,i64_w]
            rfl)
          refine stillS_nil ?_;have BS:=am hHeld.1;have BC:=am hHeld.2.1;clear hHeld HB7 hb;have BSc:=zc8 BS.out;have BCc:=zc8 BC.out;refine done_ (by kernel_rfl) ?_;go_wp2;go_ret
          have hr:cellsOk s=false:=by
           unfold cellsOk;exact allB_no hlt (by rw [<-CX.out];simp only [];rw [allB_no hmt (by rw [<-TX.out,HH.out,HL.out];rfl),Bool.and_false])
          rw [hr];exact ⟨rfl,HB.out⟩
         ·have yl:(c.lock == (m:Int))=false:=by simp [hl]
          have HL:Aside0 (decide (c.lock=(m:Int))=false):=⟨decide_eq_false hl⟩;clear hl;go_wp2;refine st9 (n:=12) (S:=fun W=>W.heap[gs]? = some (.cells #[.slice (some ⟨bc,oc,none⟩) s.cells.length c0,.slice (some ⟨b,o,none⟩) s.tasks.length c1,.int .i64 s.clock,.slice A3 s.log.length c3] 27 (0,0))/\W.heap[gc]? = some (.cells #[.int .i64 c.num,.int .i64 c.time,.int .i64 c.lock] 53 (0,0))/\∀ j u, [.int .i64 t.body,.int .i64 t.pc,.int .i64 t.up,.slice B3 t.regs.length d3,.int .i64 t.way,.int .i64 t.stage,.int .i64 t.at_,.int .i64 t.since,.slice B8 t.old.length d8,.slice B9 t.reads.length d9,.slice B10 t.puts.length d10,.int .i64 t.when_,.int .i64 t.from_][j]? = some u->W.cell? ⟨b,o+m*13+j,none⟩=some u) (ds:= []) (by kernel_rfl) rfl ⟨blk_drew BS.out,blk_drew BC.out,fun j u hu=>(show wr.cell? ⟨b,o+m*13+j,none⟩=_ from cellB HB.out (HT.out j u hu))⟩ (fun hHeld=> ?_);have hb:=below_drew (Below.refl wr.heap.size wr);generalize wr.drew=w7 at hb hHeld ⊢;have HB7:=am (below_step HB.out hb);clear hb HB BS BC BSc BCc;refine ba9 (fuel:=2) (n:=10) [0,1,2,3,4,5,7,8,9,10] (by kernel_rfl) (fun N _ _ _ _ h=>by cases N <;> exact h) hHeld ?_
          iterate 10 (
           refine stillS_step (v:= ?_) (a':= ?_) rfl (Or.inl ⟨by rfl, ?_⟩) ?_ ?_;rotate_left
           ·rintro W ⟨s0,s2,s3⟩
            have t0:=zc8 s0;have t2:=zc8 s2;have u0:=s3 0 _ rfl;have u1:=s3 1 _ rfl;have u2:=s3 2 _ rfl;have u3:=s3 3 _ rfl;have u4:=s3 4 _ rfl;have u5:=s3 5 _ rfl;have u6:=s3 6 _ rfl;have u7:=s3 7 _ rfl;have u8:=s3 8 _ rfl;have u9:=s3 9 _ rfl;have u10:=s3 10 _ rfl;have u11:=s3 11 _ rfl;have u12:=s3 12 _ rfl;rw [Nat.add_zero] at u0;clear s0 s2 s3;go_simp;with_reducible rfl
           rotate_left
           ·simp only [Act.put,sA,sZ,sS,i64_w]
            rfl)
          refine stillS_nil ?_;refine on9 (i:=6) (N:=some 53) rfl rfl (by kernel_rfl) (by decide) (fun K hK=> ?_);refine goes_ Try.func96 (by kernel_rfl) rfl #[.agg #[.int .i64 t.body,.int .i64 t.pc,.int .i64 t.up,.slice B3 t.regs.length d3,.int .i64 t.way,.int .i64 t.stage,.int .i64 t.at_,.int .i64 t.since,.slice B8 t.old.length d8,.slice B9 t.reads.length d9,.slice B10 t.puts.length d10,.int .i64 t.when_,.int .i64 t.from_],.int .i64 k] (by rfl) rfl rfl (by (try simp only [List.map_toArray,List.map_cons,List.map_nil]);first | done | rfl) ?_;refine (l12Holds_calls t _ (k:Int) _ (kTask.K_below HB7.out HK.out) HPN.out).mono ?_;rw [HH.out];rintro e wn ⟨rfl,hb⟩;refine ⟨_,rfl, ?_⟩;refine hK.out _ _ ⟨zb8 hHeld.1 hb,zb8 hHeld.2.1 hb,fun j u hu=>cellB hb (hHeld.2.2 j u hu)⟩ (fun hHeld=> ?_);clear hK K;refine norm_ (a':= ?_) ?_ ?_;rotate_left
          ·show Act.put _ (some 53) _=_
           simp only [Act.put,sA,sZ,sS,i64_w];rfl
          have HB:=am (below_step HB7.out hb);refine ba9 (fuel:=0) (n:=1) [11] (by kernel_rfl) (fun N _ _ _ _ h=>by cases N <;> exact h) hHeld ?_
          iterate 1 (
           refine stillS_step (v:= ?_) (a':= ?_) rfl (Or.inl ⟨by rfl, ?_⟩) ?_ ?_;rotate_left
           ·intro W hW
            go_simp
            with_reducible rfl
           rotate_left
           ·simp only [Act.put,sA,sZ,sS,i64_w]
            rfl)
          refine stillS_nil ?_;have BS:=am hHeld.1;have BC:=am hHeld.2.1;clear hHeld HB7 hb;have BSc:=zc8 BS.out;have BCc:=zc8 BC.out;refine done_ (by kernel_rfl) ?_;go_wp2;go_roundw
          case rel=>exact ⟨m+1,by omega,by go_num,⟨fun i hi=>by rcases Nat.lt_or_ge i m with h | h;exact HM.out i h;obtain rfl:i=m:=(by omega);rw [<-TX.out,HH.out,HL.out];rfl⟩,BS,BC,HB⟩
          case measure=>simp [intOf];omega
       ·obtain rfl:m=s.tasks.length:=by omega
        go_wp2;go_roundw
        case rel=>exact ⟨k+1,by omega,by go_num,⟨fun i hi=>by rcases Nat.lt_or_ge i k with h | h;exact HJ.out i h;obtain rfl:i=k:=(by omega);rw [<-CX.out,show inB c.num 0 99=true from H1.out,show inB c.time 0 s.clock=true from H2.out,show inB c.lock (-1) ((s.tasks.length:Int) - 1)=true from H3.out,allB_iff.2 HM.out];rfl⟩,BS,HB⟩
        case measure=>simp [intOf];omega
  ·obtain rfl:k=s.cells.length:=by omega
   go_wp2;go_ret
   have hr:cellsOk s=true:=by
    unfold cellsOk;exact allB_iff.2 HJ.out
   rw [hr];exact ⟨rfl,HB.out⟩
theorem l12Log_calls (p:Prog) (ps:List Value) (s:Sys) (ss:List Value) (w:World) (hp:kProg.K w p ps) (hs:kSys.K w s ss) (hz:ProgSz p) (hm:s.cells.length<=1048576) (hn:s.tasks.length<=1048576) (hl:s.log.length<=1048576) (hsz:∀ i,i < s.log.length->(entryAt s.log i).reads.length<=1048576/\(entryAt s.log i).puts.length<=1048576) (hbd:∀ i,i < s.tasks.length->0<=(taskAt s.tasks i).body/\(taskAt s.tasks i).body < p.bodies.length):
  Calls Try.prog 59 #[.agg ps.toArray,.agg ss.toArray] w fun e w'=>e= .returned (.bool (logOk p s))/\Below w.heap.size w w':=by
 obtain ⟨Ac,cc,Ab,cb,rfl,-,-,-,gb⟩:=kProg_open hp;obtain ⟨A0,c0,A1,c1,A3,c3,rfl,-,-,-,g1,-,g3⟩:=kSys_open hs;have GB:=am gb;have G1:=am g1;have G3:=am g3;have HZ:=am hsz;have HBD:=am hbd;have HSZ:Aside0 (∀ k,k < p.bodies.length->(actsAt p.bodies k).length<=1048576):=⟨fun k hk=>by rw [actsAt_eq hk];exact (hz.acts _ (List.getElem_mem hk)).1⟩;have hpb:=hz.bodies;clear hp hs gb g1 g3 hsz hbd hz;go_enter Try.func59,Try.ntmps59
 go_wp2_with (first
 |((with_reducible refine gate_dst (N:=2) rfl ?_);refine box_event rfl (N:=2) rfl (t:=48) (by go_simp<;>rfl) ?_;intro gp hg w2 hbox hb;have BP:=am hbox;clear hbox hg;have HB2:=am hb;clear hb;have HB:=HB2;clear HB2;have BPc:=zc8 BP.out)
 |((with_reducible refine gate_dst (N:=3) rfl ?_);refine box_event rfl (N:=3) rfl (t:=27) (by go_simp<;>rfl) ?_;intro gs hg w3 hbox hb;have BS:=am hbox;clear hbox hg;replace BP:=am (zb8 BP.out hb);replace HB:=am (below_step HB.out hb);clear hb BPc;have BPc:=zc8 BP.out;have BSc:=zc8 BS.out))
 go_loopw [5] (fun j w'=>∃ k:Nat,k<=s.log.length/\j= .int .i64 k/\Aside0 (∀ i,i < k->(inB (entryAt s.log i).task 0 (s.tasks.length - 1) && inB (entryAt s.log i).when_ 0 s.clock && inB (entryAt s.log i).from_ 0 i && listOk (entryAt s.log i).reads s.cells.length && listOk (entryAt s.log i).puts s.cells.length && inB (entryAt s.log i).act 0 ((actsAt p.bodies (taskAt s.tasks (entryAt s.log i).task.toNat).body.toNat).length - 1))=true)/\Aside0 (w'.heap[gp]? = some (.cells #[.slice Ac p.cells.length cc,.slice Ab p.bodies.length cb] 48 (0,0)))/\Aside0 (w'.heap[gs]? = some (.cells #[.slice A0 s.cells.length c0,.slice A1 s.tasks.length c1,.int .i64 s.clock,.slice A3 s.log.length c3] 27 (0,0)))/\Aside0 (Below w.heap.size w w')) (fun j _=>s.log.length - (intOf j).toNat)
 case atStart=>exact ⟨0,Nat.zero_le _,rfl,⟨fun i hi=>by omega⟩,BP,BS,HB⟩
 case round=>
  clear BP BS HB BPc BSc;obtain ⟨k,hk,rfl,HJ,BP,BS,HB⟩:=hrel;have BPc:=zc8 BP.out;have BSc:=zc8 BS.out;by_cases hlt:k < s.log.length
  ·obtain ⟨be,oe,cs,rfl,hcl,hK,hcc,-⟩:=C_field G3.out zEntry k hlt (by decide)
   obtain ⟨e,hex⟩:∃ x,x=entryAt s.log k:=⟨_,rfl⟩;have hz2:=HZ.out k hlt;rw [<-hex] at hz2;rw [show s.log.getD k zEntry=e from hex.symm] at hK;obtain ⟨E3,f3,E4,f4,rfl,-,g3,-,g4⟩:=kEntry_open hK;have R3:=am g3;have R4:=am g4;have HZ1:=am hz2.1;have HZ2:=am hz2.2;have HC:=am hcc;have EX:=am hex;have q0:(0:Int)<=(k:Int):=by omega
   have q1:(k:Int) < (s.log.length:Int):=by omega
   clear hcl hK hcc hex g3 g4 hz2;obtain ⟨bH1,hbH1⟩:∃ b,inB e.task 0 ((s.tasks.length:Int) - 1)=b:=⟨_,rfl⟩;have H1:Aside0 ((decide ((0:Int)<=e.task) && decide (e.task<=((s.tasks.length:Int) - 1)))=bH1):=⟨hbH1⟩;clear hbH1;obtain ⟨bH2,hbH2⟩:∃ b,inB e.when_ 0 s.clock=b:=⟨_,rfl⟩;have H2:Aside0 ((decide ((0:Int)<=e.when_) && decide (e.when_<=s.clock))=bH2):=⟨hbH2⟩;clear hbH2;obtain ⟨bH3,hbH3⟩:∃ b,inB e.from_ 0 (k:Int)=b:=⟨_,rfl⟩;have H3:Aside0 ((decide ((0:Int)<=e.from_) && decide (e.from_<=(k:Int)))=bH3):=⟨hbH3⟩;clear hbH3;obtain ⟨bH4,hbH4⟩:∃ b,listOk e.reads s.cells.length=b:=⟨_,rfl⟩;have H4:=am hbH4;clear hbH4;obtain ⟨bH5,hbH5⟩:∃ b,listOk e.puts s.cells.length=b:=⟨_,rfl⟩;have H5:=am hbH5;clear hbH5
   cases bH1 with
   | false=>
    go_wp2_with (first
    |((with_reducible refine gate_dst (N:=18) rfl ?_);refine wpList_load_mid rfl 119 (.tmp 17) rfl be (oe+k*6) rfl _ _ (fun j u hu=>cellB HB.out (HC.out j u hu)) Try.underlying119 rfl (by kernel_rfl) ?_)|((with_reducible refine gate_dst (N:=6) rfl ?_);refine box_event rfl (N:=6) rfl (t:=119) (by go_simp<;>rfl) ?_;intro ge hg wt hbox hb;have BE0:=am hbox;have GBE:=am hg;have HBT:=am hb;clear hbox hb hg)|((with_reducible refine gate_store (t:=119) (p:=6) rfl ?_);refine store_block rfl rfl 119 (.tmp 6) (.tmp 18) rfl rfl rfl BE0.out rfl (by kernel_rfl) (aB rfl) ?_;intro wn hbox hg;have BE:=am hbox;have hbx:=pw_below_grown HBT.out _ HBT.out.size hg (fun z hz=>by cases hz;exact Nat.le_of_eq GBE.out.symm);clear BE0 HBT hbox hg;replace BP:=am (zb8 BP.out hbx);replace BS:=am (zb8 BS.out hbx);replace HB:=am (below_step HB.out hbx);clear hbx BPc BSc;have BPc:=zc8 BP.out;have BSc:=zc8 BS.out;have BEc:=zc8 BE.out)
    |(go_at_call 50;refine (l6In_calls _ _ _ _).mono ?_;(first|rw [H1.out]);rintro e w9 ⟨rfl,rfl⟩))
    go_ret
    have hr:logOk p s=false:=by
     unfold logOk;exact allB_no hlt (by rw [<-EX.out];simp only [];rw [show inB e.task 0 ((s.tasks.length:Int) - 1)=false from H1.out];simp only [Bool.true_and,Bool.false_and,Bool.and_false])
    rw [hr]
    exact ⟨rfl,HB.out⟩
   | true=>
    cases bH2 with
    | false=>
     go_wp2_with (first
     |((with_reducible refine gate_dst (N:=18) rfl ?_);refine wpList_load_mid rfl 119 (.tmp 17) rfl be (oe+k*6) rfl _ _ (fun j u hu=>cellB HB.out (HC.out j u hu)) Try.underlying119 rfl (by kernel_rfl) ?_)|((with_reducible refine gate_dst (N:=6) rfl ?_);refine box_event rfl (N:=6) rfl (t:=119) (by go_simp<;>rfl) ?_;intro ge hg wt hbox hb;have BE0:=am hbox;have GBE:=am hg;have HBT:=am hb;clear hbox hb hg)|((with_reducible refine gate_store (t:=119) (p:=6) rfl ?_);refine store_block rfl rfl 119 (.tmp 6) (.tmp 18) rfl rfl rfl BE0.out rfl (by kernel_rfl) (aB rfl) ?_;intro wn hbox hg;have BE:=am hbox;have hbx:=pw_below_grown HBT.out _ HBT.out.size hg (fun z hz=>by cases hz;exact Nat.le_of_eq GBE.out.symm);clear BE0 HBT hbox hg;replace BP:=am (zb8 BP.out hbx);replace BS:=am (zb8 BS.out hbx);replace HB:=am (below_step HB.out hbx);clear hbx BPc BSc;have BPc:=zc8 BP.out;have BSc:=zc8 BS.out;have BEc:=zc8 BE.out)
     |(go_at_call 50;refine (l6In_calls _ _ _ _).mono ?_;(first|rw [H1.out] | rw [H2.out]);rintro e w9 ⟨rfl,rfl⟩))
     go_ret
     have hr:logOk p s=false:=by
      unfold logOk;exact allB_no hlt (by rw [<-EX.out];simp only [];rw [show inB e.task 0 ((s.tasks.length:Int) - 1)=true from H1.out,show inB e.when_ 0 s.clock=false from H2.out];simp only [Bool.true_and,Bool.false_and,Bool.and_false])
     rw [hr]
     exact ⟨rfl,HB.out⟩
    | true=>
     cases bH3 with
     | false=>
      go_wp2_with (first
      |((with_reducible refine gate_dst (N:=18) rfl ?_);refine wpList_load_mid rfl 119 (.tmp 17) rfl be (oe+k*6) rfl _ _ (fun j u hu=>cellB HB.out (HC.out j u hu)) Try.underlying119 rfl (by kernel_rfl) ?_)|((with_reducible refine gate_dst (N:=6) rfl ?_);refine box_event rfl (N:=6) rfl (t:=119) (by go_simp<;>rfl) ?_;intro ge hg wt hbox hb;have BE0:=am hbox;have GBE:=am hg;have HBT:=am hb;clear hbox hb hg)|((with_reducible refine gate_store (t:=119) (p:=6) rfl ?_);refine store_block rfl rfl 119 (.tmp 6) (.tmp 18) rfl rfl rfl BE0.out rfl (by kernel_rfl) (aB rfl) ?_;intro wn hbox hg;have BE:=am hbox;have hbx:=pw_below_grown HBT.out _ HBT.out.size hg (fun z hz=>by cases hz;exact Nat.le_of_eq GBE.out.symm);clear BE0 HBT hbox hg;replace BP:=am (zb8 BP.out hbx);replace BS:=am (zb8 BS.out hbx);replace HB:=am (below_step HB.out hbx);clear hbx BPc BSc;have BPc:=zc8 BP.out;have BSc:=zc8 BS.out;have BEc:=zc8 BE.out)
      |(go_at_call 50;refine (l6In_calls _ _ _ _).mono ?_;(first|rw [H1.out] | rw [H2.out] | rw [H3.out]);rintro e w9 ⟨rfl,rfl⟩))
      go_ret
      have hr:logOk p s=false:=by
       unfold logOk;exact allB_no hlt (by rw [<-EX.out];simp only [];rw [show inB e.task 0 ((s.tasks.length:Int) - 1)=true from H1.out,show inB e.when_ 0 s.clock=true from H2.out,show inB e.from_ 0 (k:Int)=false from H3.out];simp only [Bool.true_and,Bool.false_and,Bool.and_false])
      rw [hr]
      exact ⟨rfl,HB.out⟩
     | true=>
      cases bH4 with
      | false=>
       go_wp2_with (first
       |((with_reducible refine gate_dst (N:=18) rfl ?_);refine wpList_load_mid rfl 119 (.tmp 17) rfl be (oe+k*6) rfl _ _ (fun j u hu=>cellB HB.out (HC.out j u hu)) Try.underlying119 rfl (by kernel_rfl) ?_)|((with_reducible refine gate_dst (N:=6) rfl ?_);refine box_event rfl (N:=6) rfl (t:=119) (by go_simp<;>rfl) ?_;intro ge hg wt hbox hb;have BE0:=am hbox;have GBE:=am hg;have HBT:=am hb;clear hbox hb hg)|((with_reducible refine gate_store (t:=119) (p:=6) rfl ?_);refine store_block rfl rfl 119 (.tmp 6) (.tmp 18) rfl rfl rfl BE0.out rfl (by kernel_rfl) (aB rfl) ?_;intro wn hbox hg;have BE:=am hbox;have hbx:=pw_below_grown HBT.out _ HBT.out.size hg (fun z hz=>by cases hz;exact Nat.le_of_eq GBE.out.symm);clear BE0 HBT hbox hg;replace BP:=am (zb8 BP.out hbx);replace BS:=am (zb8 BS.out hbx);replace HB:=am (below_step HB.out hbx);clear hbx BPc BSc;have BPc:=zc8 BP.out;have BSc:=zc8 BS.out;have BEc:=zc8 BE.out)
       |(go_at_call 50;refine (l6In_calls _ _ _ _).mono ?_;(first|rw [H1.out] | rw [H2.out] | rw [H3.out]);rintro e w9 ⟨rfl,rfl⟩)
       |(go_at_call 92;refine (l12List_calls _ _ _ _ _ (by first|exact Kd.C_below R3.out HB.out | exact Kd.C_below R4.out HB.out) (by first|exact HZ1.out | exact HZ2.out) (by omega) (by omega)).mono ?_;(first|rw [H4.out]);rintro e w9 ⟨rfl,hb⟩;replace BP:=am (zb8 BP.out hb);replace BS:=am (zb8 BS.out hb);replace BE:=am (zb8 BE.out hb);replace HB:=am (below_step HB.out hb);clear hb BPc BSc BEc;have BPc:=zc8 BP.out;have BSc:=zc8 BS.out;have BEc:=zc8 BE.out))
       go_ret
       have hr:logOk p s=false:=by
        unfold logOk;exact allB_no hlt (by rw [<-EX.out];simp only [];rw [show inB e.task 0 ((s.tasks.length:Int) - 1)=true from H1.out,show inB e.when_ 0 s.clock=true from H2.out,show inB e.from_ 0 (k:Int)=true from H3.out,show listOk e.reads s.cells.length=false from H4.out];simp only [Bool.true_and,Bool.false_and,Bool.and_false])
       rw [hr]
       exact ⟨rfl,HB.out⟩
      | true=>
       cases bH5 with
       | false=>
        go_wp2_with (first
        |((with_reducible refine gate_dst (N:=18) rfl ?_);refine wpList_load_mid rfl 119 (.tmp 17) rfl be (oe+k*6) rfl _ _ (fun j u hu=>cellB HB.out (HC.out j u hu)) Try.underlying119 rfl (by kernel_rfl) ?_)|((with_reducible refine gate_dst (N:=6) rfl ?_);refine box_event rfl (N:=6) rfl (t:=119) (by go_simp<;>rfl) ?_;intro ge hg wt hbox hb;have BE0:=am hbox;have GBE:=am hg;have HBT:=am hb;clear hbox hb hg)|((with_reducible refine gate_store (t:=119) (p:=6) rfl ?_);refine store_block rfl rfl 119 (.tmp 6) (.tmp 18) rfl rfl rfl BE0.out rfl (by kernel_rfl) (aB rfl) ?_;intro wn hbox hg;have BE:=am hbox;have hbx:=pw_below_grown HBT.out _ HBT.out.size hg (fun z hz=>by cases hz;exact Nat.le_of_eq GBE.out.symm);clear BE0 HBT hbox hg;replace BP:=am (zb8 BP.out hbx);replace BS:=am (zb8 BS.out hbx);replace HB:=am (below_step HB.out hbx);clear hbx BPc BSc;have BPc:=zc8 BP.out;have BSc:=zc8 BS.out;have BEc:=zc8 BE.out)
        |(go_at_call 50;refine (l6In_calls _ _ _ _).mono ?_;(first|rw [H1.out] | rw [H2.out] | rw [H3.out]);rintro e w9 ⟨rfl,rfl⟩)
        |(go_at_call 92;refine (l12List_calls _ _ _ _ _ (by first|exact Kd.C_below R3.out HB.out | exact Kd.C_below R4.out HB.out) (by first|exact HZ1.out | exact HZ2.out) (by omega) (by omega)).mono ?_;(first|rw [H4.out] | rw [H5.out]);rintro e w9 ⟨rfl,hb⟩;replace BP:=am (zb8 BP.out hb);replace BS:=am (zb8 BS.out hb);replace BE:=am (zb8 BE.out hb);replace HB:=am (below_step HB.out hb);clear hb BPc BSc BEc;have BPc:=zc8 BP.out;have BSc:=zc8 BS.out;have BEc:=zc8 BE.out))
        go_ret
        have hr:logOk p s=false:=by
         unfold logOk;exact allB_no hlt (by rw [<-EX.out];simp only [];rw [show inB e.task 0 ((s.tasks.length:Int) - 1)=true from H1.out,show inB e.when_ 0 s.clock=true from H2.out,show inB e.from_ 0 (k:Int)=true from H3.out,show listOk e.reads s.cells.length=true from H4.out,show listOk e.puts s.cells.length=false from H5.out];simp only [Bool.true_and,Bool.false_and,Bool.and_false])
        rw [hr]
        exact ⟨rfl,HB.out⟩
       | true=>
        go_wp2_with (first
        |((with_reducible refine gate_dst (N:=18) rfl ?_);refine wpList_load_mid rfl 119 (.tmp 17) rfl be (oe+k*6) rfl _ _ (fun j u hu=>cellB HB.out (HC.out j u hu)) Try.underlying119 rfl (by kernel_rfl) ?_)|((with_reducible refine gate_dst (N:=6) rfl ?_);refine box_event rfl (N:=6) rfl (t:=119) (by go_simp<;>rfl) ?_;intro ge hg wt hbox hb;have BE0:=am hbox;have GBE:=am hg;have HBT:=am hb;clear hbox hb hg)|((with_reducible refine gate_store (t:=119) (p:=6) rfl ?_);refine store_block rfl rfl 119 (.tmp 6) (.tmp 18) rfl rfl rfl BE0.out rfl (by kernel_rfl) (aB rfl) ?_;intro wn hbox hg;have BE:=am hbox;have hbx:=pw_below_grown HBT.out _ HBT.out.size hg (fun z hz=>by cases hz;exact Nat.le_of_eq GBE.out.symm);clear BE0 HBT hbox hg;replace BP:=am (zb8 BP.out hbx);replace BS:=am (zb8 BS.out hbx);replace HB:=am (below_step HB.out hbx);clear hbx BPc BSc;have BPc:=zc8 BP.out;have BSc:=zc8 BS.out;have BEc:=zc8 BE.out)
        |(go_at_call 50;refine (l6In_calls _ _ _ _).mono ?_;(first|rw [H1.out] | rw [H2.out] | rw [H3.out]);rintro e w9 ⟨rfl,rfl⟩)
        |(go_at_call 92;refine (l12List_calls _ _ _ _ _ (by first|exact Kd.C_below R3.out HB.out | exact Kd.C_below R4.out HB.out) (by first|exact HZ1.out | exact HZ2.out) (by omega) (by omega)).mono ?_;(first|rw [H4.out] | rw [H5.out]);rintro e w9 ⟨rfl,hb⟩;replace BP:=am (zb8 BP.out hb);replace BS:=am (zb8 BS.out hb);replace BE:=am (zb8 BE.out hb);replace HB:=am (below_step HB.out hb);clear hb BPc BSc BEc;have BPc:=zc8 BP.out;have BSc:=zc8 BS.out;have BEc:=zc8 BE.out))
        have hu:=inB_iff.1 (show inB e.task 0 ((s.tasks.length:Int) - 1)=true from H1.out);obtain ⟨u,hu0⟩:=Int.eq_ofNat_of_zero_le hu.1;have hul:u < s.tasks.length:=by omega
        have r0:(0:Int)<=e.task:=hu.1;have r1:e.task < (s.tasks.length:Int):=by omega
        have r4:e.task.toNat=u:=by omega
        obtain ⟨b,o,cs,rfl,hcl,hK,hcc,-⟩:=C_field G1.out zTask u hul (by decide);obtain ⟨tb,htb⟩:∃ x,x=(taskAt s.tasks u).body:=⟨_,rfl⟩;have hbb:=HBD.out u hul;rw [<-htb] at hbb;rw [show s.tasks.getD u zTask=taskAt s.tasks u from rfl] at hK;obtain ⟨E3x,f3x,E8x,f8x,E9x,f9x,E10x,f10x,rfl,-⟩:=kTask_open hK;have pw:=hcc 0 _ rfl;simp only [show kTask.sz=13 from rfl,Nat.add_zero] at pw;rw [<-htb] at pw;have PW:=am pw;have HTB:=am htb;clear hcl hK hcc pw htb hu hu0;obtain ⟨kb,hkb0⟩:=Int.eq_ofNat_of_zero_le hbb.1;have hkb:kb < p.bodies.length:=by omega
        have v0:(0:Int)<=tb:=hbb.1;have v1:tb < (p.bodies.length:Int):=hbb.2;have v4:tb.toNat=kb:=by omega
        obtain ⟨bb,ob,cs2,rfl,hcl2,hK2,hcc2,-⟩:=C_field GB.out ([]:List Act) kb hkb (by decide);obtain ⟨Aa,ca,rfl,la,-⟩:=hK2;have p2:=hcc2 0 _ rfl;simp only [show (Kd.slice 108 kAct).sz=1 from rfl,Nat.mul_one,Nat.add_zero] at p2;rw [show (p.bodies.getD kb []).length=(actsAt p.bodies kb).length from rfl] at p2;have P2:=am p2;obtain ⟨na,hna⟩:∃ x,x=(actsAt p.bodies kb).length:=⟨_,rfl⟩;have hnl:na<=1048576:=by rw [hna];exact HSZ.out kb hkb
        rw [<-hna] at P2;have HNA:=am hna;have w5:wrap64 ((na:Int) - 1)=(na:Int) - 1:=by unfold wrap64;omega
        clear hcl2 hcc2 p2 la hna hbb hkb0;obtain ⟨bH6,hbH6⟩:∃ b,inB e.act 0 ((na:Int) - 1)=b:=⟨_,rfl⟩;have H6:Aside0 ((decide ((0:Int)<=e.act) && decide (e.act<=(na:Int) - 1))=bH6):=⟨hbH6⟩;clear hbH6
        cases bH6 with
        | false=>
         refine st9 (n:=17) (S:=fun W=>W.heap[gp]? = some (.cells #[.slice Ac p.cells.length cc,.slice (some ⟨bb,ob,none⟩) p.bodies.length cb] 48 (0,0))/\W.heap[gs]? = some (.cells #[.slice A0 s.cells.length c0,.slice (some ⟨b,o,none⟩) s.tasks.length c1,.int .i64 s.clock,.slice (some ⟨be,oe,none⟩) s.log.length c3] 27 (0,0))/\W.heap[ge]? = some (.cells #[.int .i64 e.task,.int .i64 e.act,.int .i64 e.when_,.slice E3 e.reads.length f3,.slice E4 e.puts.length f4,.int .i64 e.from_] 119 (0,0))/\W.cell? ⟨b,o+u*13,none⟩=some (.int .i64 tb)/\W.cell? ⟨bb,ob+kb,none⟩=some (.slice Aa na ca)) (ds:= []) (by kernel_rfl) rfl ⟨blk_drew BP.out,blk_drew BS.out,blk_drew BE.out,(show w9.cell? ⟨b,o+u*13,none⟩=_ from cellB HB.out PW.out),(show w9.cell? ⟨bb,ob+kb,none⟩=_ from cellB HB.out P2.out)⟩ (fun hHeld=> ?_);have hb:=below_drew (Below.refl w9.heap.size w9);generalize w9.drew=w7 at hb hHeld ⊢;have HB7:=am (below_step HB.out hb);clear hb HB BP BS BE BPc BSc BEc;refine ba9 (fuel:=2) (n:=15) [0,1,2,3,4,5,6,7,8,9,10,11,12,13,14] (by kernel_rfl) (fun N _ _ _ _ h=>by cases N <;> exact h) hHeld ?_
         iterate 15 (
          refine stillS_step (v:= ?_) (a':= ?_) rfl (Or.inl ⟨by rfl, ?_⟩) ?_ ?_;rotate_left
          ·rintro W ⟨s0,s1,s2,s3,s4⟩
           have t0:=zc8 s0;have t1:=zc8 s1;have t2:=zc8 s2;clear s0 s1 s2;go_simp;with_reducible rfl
          rotate_left
          ·simp only [Act.put,sA,sZ,sS,i64_w]
           rfl)
         refine stillS_nil ?_;refine on9 (i:=15) (N:=some 75) rfl rfl (by kernel_rfl) (by decide) (fun K hK=> ?_);refine goes_ Try.func50 (by kernel_rfl) rfl #[.int .i64 e.act,.int .i64 0,.int .i64 (wrap64 ((na:Int) - 1))] (by rfl) rfl rfl (by (try simp only [List.map_toArray,List.map_cons,List.map_nil]);first | done | rfl) ?_;refine (l6In_calls e.act 0 (wrap64 ((na:Int) - 1)) _).mono ?_;rw [w5,H6.out];rintro e9 wn ⟨rfl,rfl⟩;refine ⟨_,rfl, ?_⟩;refine hK.out _ _ hHeld (fun hHeld=> ?_);clear hK K;refine norm_ (a':= ?_) ?_ ?_;rotate_left
         ·show Act.put _ (some 75) _=_
          simp only [Act.put,sA,sZ,sS,i64_w];rfl
         refine ba9 (fuel:=0) (n:=1) [16] (by kernel_rfl) (fun N _ _ _ _ h=>by cases N <;> exact h) hHeld ?_
         iterate 1 (
          refine stillS_step (v:= ?_) (a':= ?_) rfl (Or.inl ⟨by rfl, ?_⟩) ?_ ?_;rotate_left
          ·rintro W ⟨s0,s1,s2,s3,s4⟩
           have t0:=zc8 s0;have t1:=zc8 s1;have t2:=zc8 s2;clear s0 s1 s2;go_simp;with_reducible rfl
          rotate_left
          ·simp only [Act.put,sA,sZ,sS,i64_w]
           rfl)
         refine stillS_nil ?_;refine done_ (by kernel_rfl) ?_;have BP:=am hHeld.1;have BS:=am hHeld.2.1;have HB:=HB7;clear hHeld HB7;have BPc:=zc8 BP.out;have BSc:=zc8 BS.out;go_wp2;go_ret
         have hr:logOk p s=false:=by
          unfold logOk;exact allB_no hlt (by rw [<-EX.out];(try simp only []);rw [show inB e.task 0 ((s.tasks.length:Int) - 1)=true from H1.out,show inB e.when_ 0 s.clock=true from H2.out,show inB e.from_ 0 (k:Int)=true from H3.out,show listOk e.reads s.cells.length=true from H4.out,show listOk e.puts s.cells.length=true from H5.out,r4,<-HTB.out,v4,<-HNA.out,show inB e.act 0 ((na:Int) - 1)=false from H6.out];simp only [Bool.and_false])
         rw [hr]
         exact ⟨rfl,HB.out⟩
        | true=>
         refine st9 (n:=17) (S:=fun W=>W.heap[gp]? = some (.cells #[.slice Ac p.cells.length cc,.slice (some ⟨bb,ob,none⟩) p.bodies.length cb] 48 (0,0))/\W.heap[gs]? = some (.cells #[.slice A0 s.cells.length c0,.slice (some ⟨b,o,none⟩) s.tasks.length c1,.int .i64 s.clock,.slice (some ⟨be,oe,none⟩) s.log.length c3] 27 (0,0))/\W.heap[ge]? = some (.cells #[.int .i64 e.task,.int .i64 e.act,.int .i64 e.when_,.slice E3 e.reads.length f3,.slice E4 e.puts.length f4,.int .i64 e.from_] 119 (0,0))/\W.cell? ⟨b,o+u*13,none⟩=some (.int .i64 tb)/\W.cell? ⟨bb,ob+kb,none⟩=some (.slice Aa na ca)) (ds:= []) (by kernel_rfl) rfl ⟨blk_drew BP.out,blk_drew BS.out,blk_drew BE.out,(show w9.cell? ⟨b,o+u*13,none⟩=_ from cellB HB.out PW.out),(show w9.cell? ⟨bb,ob+kb,none⟩=_ from cellB HB.out P2.out)⟩ (fun hHeld=> ?_);have hb:=below_drew (Below.refl w9.heap.size w9);generalize w9.drew=w7 at hb hHeld ⊢;have HB7:=am (below_step HB.out hb);clear hb HB BP BS BE BPc BSc BEc;refine ba9 (fuel:=2) (n:=15) [0,1,2,3,4,5,6,7,8,9,10,11,12,13,14] (by kernel_rfl) (fun N _ _ _ _ h=>by cases N <;> exact h) hHeld ?_
         iterate 15 (
          refine stillS_step (v:= ?_) (a':= ?_) rfl (Or.inl ⟨by rfl, ?_⟩) ?_ ?_;rotate_left
          ·rintro W ⟨s0,s1,s2,s3,s4⟩
           have t0:=zc8 s0;have t1:=zc8 s1;have t2:=zc8 s2;clear s0 s1 s2;go_simp;with_reducible rfl
          rotate_left
          ·simp only [Act.put,sA,sZ,sS,i64_w]
           rfl)
         refine stillS_nil ?_;refine on9 (i:=15) (N:=some 75) rfl rfl (by kernel_rfl) (by decide) (fun K hK=> ?_);refine goes_ Try.func50 (by kernel_rfl) rfl #[.int .i64 e.act,.int .i64 0,.int .i64 (wrap64 ((na:Int) - 1))] (by rfl) rfl rfl (by (try simp only [List.map_toArray,List.map_cons,List.map_nil]);first | done | rfl) ?_;refine (l6In_calls e.act 0 (wrap64 ((na:Int) - 1)) _).mono ?_;rw [w5,H6.out];rintro e9 wn ⟨rfl,rfl⟩;refine ⟨_,rfl, ?_⟩;refine hK.out _ _ hHeld (fun hHeld=> ?_);clear hK K;refine norm_ (a':= ?_) ?_ ?_;rotate_left
         ·show Act.put _ (some 75) _=_
          simp only [Act.put,sA,sZ,sS,i64_w];rfl
         refine ba9 (fuel:=0) (n:=1) [16] (by kernel_rfl) (fun N _ _ _ _ h=>by cases N <;> exact h) hHeld ?_
         iterate 1 (
          refine stillS_step (v:= ?_) (a':= ?_) rfl (Or.inl ⟨by rfl, ?_⟩) ?_ ?_;rotate_left
          ·rintro W ⟨s0,s1,s2,s3,s4⟩
           have t0:=zc8 s0;have t1:=zc8 s1;have t2:=zc8 s2;clear s0 s1 s2;go_simp;with_reducible rfl
          rotate_left
          ·simp only [Act.put,sA,sZ,sS,i64_w]
           rfl)
         refine stillS_nil ?_;refine done_ (by kernel_rfl) ?_;have BP:=am hHeld.1;have BS:=am hHeld.2.1;have HB:=HB7;clear hHeld HB7;have BPc:=zc8 BP.out;have BSc:=zc8 BS.out;go_wp2;go_roundw
         case rel=>exact ⟨k+1,by omega,by go_num,⟨fun i hi=>by rcases Nat.lt_or_ge i k with h | h;exact HJ.out i h;obtain rfl:k=i:=(by omega);rw [<-EX.out];(try simp only []);rw [show inB e.task 0 ((s.tasks.length:Int) - 1)=true from H1.out,show inB e.when_ 0 s.clock=true from H2.out,show inB e.from_ 0 (k:Int)=true from H3.out,show listOk e.reads s.cells.length=true from H4.out,show listOk e.puts s.cells.length=true from H5.out,r4,<-HTB.out,v4,<-HNA.out,show inB e.act 0 ((na:Int) - 1)=true from H6.out];rfl⟩,BP,BS,HB⟩
         case measure=>simp [intOf];omega
  ·obtain rfl:k=s.log.length:=by omega
   go_wp2;go_ret
   have hr:logOk p s=true:=by
    unfold logOk;exact allB_iff.2 HJ.out
   rw [hr];exact ⟨rfl,HB.out⟩
theorem kid4_le (n k0 k1 k2 k3:Nat):decide (n<=k0+k1+k2+k3)=decide ((n:Int)<=(k0:Int)+(k1:Int)+(k2:Int)+(k3:Int)):=by
 rw [Bool.eq_iff_iff];simp;omega
theorem wsum2 {k0 k1:Nat} (h0:k0<=1048576) (h1:k1<=1048576):wrap64 ((k0:Int)+(k1:Int))=(k0:Int)+(k1:Int):=by unfold wrap64;omega
theorem wsum3 {k0 k1 k2:Nat} (h0:k0<=1048576) (h1:k1<=1048576) (h2:k2<=1048576):wrap64 ((k0:Int)+(k1:Int)+(k2:Int))=(k0:Int)+(k1:Int)+(k2:Int):=by unfold wrap64;omega
theorem wsum4 {k0 k1 k2 k3:Nat} (h0:k0<=1048576) (h1:k1<=1048576) (h2:k2<=1048576) (h3:k3<=1048576):wrap64 ((k0:Int)+(k1:Int)+(k2:Int)+(k3:Int))=(k0:Int)+(k1:Int)+(k2:Int)+(k3:Int):=by unfold wrap64;omega
theorem waF {q:Prop} (h:q:=by
  go_wp2;go_ret;rw [HU.out];exact ⟨by simp,M.out.below⟩):q:=h
theorem l12Act_calls (p:Prog) (ps:List Value) (s:Sys) (ss:List Value) (i:Nat) (w:World) (hp:kProg.K w p ps) (hs:kSys.K w s ss) (hz:ProgSz p) (hi:i < s.tasks.length) (hn:s.tasks.length<=1048576) (hb0:0<=(taskAt s.tasks i).body) (hb1:(taskAt s.tasks i).body < p.bodies.length) (hp0:0<=(taskAt s.tasks i).pc) (hrn:(taskAt s.tasks i).reads.length<=1048576) (hpn:(taskAt s.tasks i).puts.length<=1048576):
  Calls Try.prog 95 #[.agg ps.toArray,.agg ss.toArray,.int .i64 i] w fun e w'=>e= .returned (.bool (wayOk p s i))/\Below w.heap.size w w':=by
 have HPK:=am hp;have HSK:=am hs;obtain ⟨Ac,cc,Ab,cb,rfl,-,-,-,gb⟩:=kProg_open hp;obtain ⟨A0,c0,A1,c1,A3,c3,rfl,-,-,-,g1,-⟩:=kSys_open hs;obtain ⟨b,o,cs,rfl,hcl,hK,hcc,-⟩:=C_field g1 zTask i hi (by decide);obtain ⟨t,ht⟩:∃ x,x=taskAt s.tasks i:=⟨_,rfl⟩;rw [<-ht] at hb0 hb1 hp0 hrn hpn;rw [show s.tasks.getD i zTask=t from ht.symm] at hK;have HTK:=am hK;obtain ⟨B3,d3,B8,d8,B9,d9,B10,d10,rfl,-⟩:=kTask_open hK;have HC:=am hcc;obtain ⟨kb,hkb0⟩:=Int.eq_ofNat_of_zero_le hb0;have hkb:kb < p.bodies.length:=by omega
 have v4:t.body.toNat=kb:=by omega
 obtain ⟨bb,ob,cs2,rfl,hcl2,hK2,hcc2,-⟩:=C_field gb ([]:List Act) kb hkb (by decide);obtain ⟨Aa,ca,rfl,la,ga2⟩:=hK2;have p2:=hcc2 0 _ rfl;simp only [show (Kd.slice 108 kAct).sz=1 from rfl,Nat.mul_one,Nat.add_zero] at p2;obtain ⟨acts,hacts⟩:∃ x,x=actsAt p.bodies kb:=⟨_,rfl⟩;rw [show p.bodies.getD kb []=acts from hacts.symm] at p2 ga2;have hal:acts.length<=1048576:=by rw [hacts,actsAt_eq hkb];exact (hz.acts _ (List.getElem_mem hkb)).1
 have GA:=am ga2;have HU0:Aside0 (wayOk p s i=if t.way=0 then decide (t.stage=0) || (decide (t.pc < (acts.length:Int)) && decide ((actAt acts t.pc.toNat).kind=1) && stOk t (actAt acts t.pc.toNat).deeds.length) else if t.way=1 then decide (t.pc < (acts.length:Int)) && decide ((actAt acts t.pc.toNat).kind=2) && decide ((actAt acts t.pc.toNat).kids.length<=kidsN s.tasks i 0+kidsN s.tasks i 1+kidsN s.tasks i 2+kidsN s.tasks i 3) else if t.way=2 then decide (t.pc=(acts.length:Int)) else true):=⟨by rw [hacts,<-v4,ht];rfl⟩;obtain ⟨bp,yp⟩:∃ b,decide (t.pc < (acts.length:Int))=b:=⟨_,rfl⟩;have PC:=am yp;have q0:(0:Int)<=(i:Int):=by omega
 have q1:(i:Int) < (s.tasks.length:Int):=by omega
 have M:=am (Own.nil w);have C:=M.out.cl;replace M:=am (M.out.far p2);clear C;have C:=M.out.cl;simp only [Cl] at C;clear hp hs hcl hK hcc hcl2 hcc2 p2 la ga2 hkb0 gb g1 hacts ht;go_enter Try.func95,Try.ntmps95
 go_upto_region 4 with (first
 |((first|with_reducible refine gB ?_ | with_reducible refine gA ?_);refine oB rfl M.out ?_;clear M C;intro g W M C;simp only [Cl] at C)
 |((with_reducible refine gL ?_);refine oR rfl rfl M.out HC.out ?_)
 |((with_reducible refine gS ?_);refine oS rfl rfl rfl M.out ?_;clear M C;intro W M C;simp only [Cl] at C)
 |((with_reducible refine gL ?_);refine oL rfl rfl M.out ?_))
 by_cases h0:t.way=0
 ·have y0:(t.way == 0)=true:=by simp [h0]
  have HU1:=am (HU0.out.trans (if_pos h0));clear HU0;obtain ⟨st,ys⟩:∃ b,(t.stage == 0)=b:=⟨_,rfl⟩;have es:decide (t.stage=0)=st:=by rw [<-ys,Bool.eq_iff_iff];simp
  rw [es] at HU1;clear es h0;cases st;rotate_left
  ·have HU:=HU1
   go_wp2_with fail
   refine dS M.out ?_;clear M C;intro W M;refine dN [0,1,2,3,4,5,6,7,8,9,10,11,12,13,14,15,16,17,18,19,20,21,22,23,24,25,26] M.out ?_;iterate 27 (first|refine sP rfl ?_ | refine sG rfl ?_ | refine sU rfl ?_ | refine sN rfl ?_)
   refine stillS_nil ?_;refine dU 27 rfl rfl M.out (dA ?_);refine dN [28,29,30] M.out ?_;iterate 3 (first|refine sP rfl ?_ | refine sG rfl ?_ | refine sU rfl ?_ | refine sN rfl ?_)
   refine stillS_nil ?_;refine dD ?_;have C:=M.out.cl;simp only [Cl] at C;exact waF
  rw [PC.out] at HU1;cases bp
  ·have HU:=HU1
   go_wp2_with fail
   refine dS M.out ?_;clear M C;intro W M;refine dN [0,1,2,3,4,5,6,7,8,9,10,11,12,13,14,15,16,17,18,19,20,21,22,23,24,25,26] M.out ?_;iterate 27 (first|refine sP rfl ?_ | refine sG rfl ?_ | refine sU rfl ?_ | refine sN rfl ?_)
   refine stillS_nil ?_;refine dU 27 rfl rfl M.out (dA ?_);refine dN [28,29,30] M.out ?_;iterate 3 (first|refine sP rfl ?_ | refine sG rfl ?_ | refine sU rfl ?_ | refine sN rfl ?_)
   refine stillS_nil ?_;refine dD ?_;have C:=M.out.cl;simp only [Cl] at C;exact waF
  obtain ⟨ka,hka0⟩:=Int.eq_ofNat_of_zero_le hp0;have hpl:t.pc < (acts.length:Int):=of_decide_eq_true PC.out;have hka:ka < acts.length:=by omega
  have v5:t.pc.toNat=ka:=by omega
  obtain ⟨ba,oa,cs3,rfl,hcl3,hK3,hcc3,-⟩:=C_field GA.out zAct ka hka (by decide);obtain ⟨a,hax⟩:∃ x,x=actAt acts ka:=⟨_,rfl⟩;rw [show acts.getD ka zAct=a from hax.symm] at hK3;obtain ⟨Ad,cd,Ak,ck,rfl,-⟩:=kAct_open hK3;have ua0:=hcc3 0 _ rfl;have ua1:=hcc3 1 _ rfl;have ua2:=hcc3 2 _ rfl;simp only [show kAct.sz=4 from rfl,Nat.add_zero] at ua0 ua1 ua2;have AX:Aside0 (actAt acts t.pc.toNat=a):=⟨by rw [v5,hax]⟩;replace M:=am (((M.out.far ua0).far ua1).far ua2);clear C;have C:=M.out.cl;simp only [Cl] at C;clear hcl3 hK3 hcc3 hax ua0 ua1 ua2 hka0;rw [AX.out] at HU1;obtain ⟨bk,yk⟩:∃ b,(a.kind == 1)=b:=⟨_,rfl⟩;have es:decide (a.kind=1)=bk:=by rw [<-yk,Bool.eq_iff_iff];simp
  rw [es] at HU1;clear es;have HU:=HU1;cases bk
  ·go_wp2_with fail
   refine dS M.out ?_;clear M C;intro W M;refine dN [0,1,2,3,4,5,6,7,8,9,10,11,12,13,14,15,16,17,18,19,20,21,22,23,24,25,26] M.out ?_;iterate 27 (first|refine sP rfl ?_ | refine sG rfl ?_ | refine sU rfl ?_ | refine sN rfl ?_)
   refine stillS_nil ?_;refine dU 27 rfl rfl M.out (dA ?_);refine dN [28,29,30] M.out ?_;iterate 3 (first|refine sP rfl ?_ | refine sG rfl ?_ | refine sU rfl ?_ | refine sN rfl ?_)
   refine stillS_nil ?_;refine dD ?_;have C:=M.out.cl;simp only [Cl] at C;exact waF
  ·go_wp2_with fail
   refine dS M.out ?_;clear M C;intro W M;refine dN [0,1,2,3,4,5,6,7,8,9,10,11,12,13,14,15,16,17,18,19,20,21,22,23,24,25,26] M.out ?_;iterate 19 (first|refine sP rfl ?_ | refine sG rfl ?_ | refine sU rfl ?_ | refine sN rfl ?_)
   refine sLg rfl rfl ?_;iterate 7 (first|refine sP rfl ?_ | refine sG rfl ?_ | refine sU rfl ?_ | refine sN rfl ?_)
   refine stillS_nil ?_;refine dC 27 rfl ?_;refine oCb M.out (l12At_calls t _ _ _ (kTask.K_below M.out.below HTK.out) hrn hpn) rfl ?_;intro W M C;refine ⟨_,rfl,M,dA ?_⟩;refine dN [28,29,30] M.out ?_;iterate 3 (first|refine sP rfl ?_ | refine sG rfl ?_ | refine sU rfl ?_ | refine sN rfl ?_)
   refine stillS_nil ?_;refine dD ?_;clear C;have C:=M.out.cl;simp only [Cl] at C;exact waF
 have y0:(t.way == 0)=false:=by simpa using h0
 have HU1:=am (HU0.out.trans (if_neg h0));clear HU0 h0;by_cases h1:t.way=1
 ·have y1:(t.way == 1)=true:=by simp [h1]
  have HU2:=am (HU1.out.trans (if_pos h1));clear HU1 h1;obtain ⟨k0,hk0⟩:∃ x,x=kidsN s.tasks i 0:=⟨_,rfl⟩;have kl0:k0<=1048576:=by rw [hk0];exact Nat.le_trans (cntTo_le _ _) hn
  rw [<-hk0] at HU2;have K0:=am hk0.symm;clear hk0;obtain ⟨k1,hk1⟩:∃ x,x=kidsN s.tasks i 1:=⟨_,rfl⟩;have kl1:k1<=1048576:=by rw [hk1];exact Nat.le_trans (cntTo_le _ _) hn
  rw [<-hk1] at HU2;have K1:=am hk1.symm;clear hk1;obtain ⟨k2,hk2⟩:∃ x,x=kidsN s.tasks i 2:=⟨_,rfl⟩;have kl2:k2<=1048576:=by rw [hk2];exact Nat.le_trans (cntTo_le _ _) hn
  rw [<-hk2] at HU2;have K2:=am hk2.symm;clear hk2;obtain ⟨k3,hk3⟩:∃ x,x=kidsN s.tasks i 3:=⟨_,rfl⟩;have kl3:k3<=1048576:=by rw [hk3];exact Nat.le_trans (cntTo_le _ _) hn
  rw [<-hk3] at HU2;have K3:=am hk3.symm;clear hk3;have z1:=wsum2 kl0 kl1;have z2:=wsum3 kl0 kl1 kl2;have z3:=wsum4 kl0 kl1 kl2 kl3;clear kl0 kl1 kl2 kl3;rw [PC.out,kid4_le] at HU2
  go_upto_region 9 with (first
  |(go_at_call 125;refine (kids_calls (i:Int) _ _ (⟨M.out.lies.at_ .here,(kProg.K_below M.out.below HPK.out),(kSys.K_below M.out.below HSK.out)⟩:RO _ _ _ p s _ _ _ _) hn).mono ?_;(first|rw [K0.out] | rw [K1.out] | rw [K2.out] | rw [K3.out]);rintro e w9 ⟨rfl,rfl⟩))
  cases bp
  ·have HU:=HU2
   exact waF
  obtain ⟨ka,hka0⟩:=Int.eq_ofNat_of_zero_le hp0;have hpl:t.pc < (acts.length:Int):=of_decide_eq_true PC.out;have hka:ka < acts.length:=by omega
  have v5:t.pc.toNat=ka:=by omega
  obtain ⟨ba,oa,cs3,rfl,hcl3,hK3,hcc3,-⟩:=C_field GA.out zAct ka hka (by decide);obtain ⟨a,hax⟩:∃ x,x=actAt acts ka:=⟨_,rfl⟩;rw [show acts.getD ka zAct=a from hax.symm] at hK3;obtain ⟨Ad,cd,Ak,ck,rfl,-⟩:=kAct_open hK3;have ua0:=hcc3 0 _ rfl;have ua1:=hcc3 1 _ rfl;have ua2:=hcc3 2 _ rfl;simp only [show kAct.sz=4 from rfl,Nat.add_zero] at ua0 ua1 ua2;have AX:Aside0 (actAt acts t.pc.toNat=a):=⟨by rw [v5,hax]⟩;replace M:=am (((M.out.far ua0).far ua1).far ua2);clear C;have C:=M.out.cl;simp only [Cl] at C;clear hcl3 hK3 hcc3 hax ua0 ua1 ua2 hka0;rw [AX.out] at HU2;obtain ⟨bk,yk⟩:∃ b,(a.kind == 2)=b:=⟨_,rfl⟩;have es:decide (a.kind=2)=bk:=by rw [<-yk,Bool.eq_iff_iff];simp
  rw [es] at HU2;clear es;have HU:=HU2;cases bk;exact waF;exact waF
 have y1:(t.way == 1)=false:=by simpa using h1
 have HU2:=am (HU1.out.trans (if_neg h1));clear HU1 h1;by_cases h2:t.way=2
 ·have y2:(t.way == 2)=true:=by simp [h2]
  have HU3:=am (HU2.out.trans (if_pos h2));have HU:Aside0 (wayOk p s i=(t.pc == (acts.length:Int))):=⟨by rw [HU3.out,Bool.eq_iff_iff];simp⟩;clear HU2 HU3 h2;exact waF
 have y2:(t.way == 2)=false:=by simpa using h2
 have HU:=am (HU2.out.trans (if_neg h2));clear HU2 h2;exact waF
theorem tkbF {q:Prop} (h:q:=by
  go_wp2;go_ret;rw [HU.out];exact ⟨by simp,M.out.below⟩):q:=h
theorem tkF {q:Prop} (h:q:=by
  go_wp2_with (first
  |((with_reducible refine gL ?_);refine oL rfl rfl M.out ?_)
  |(go_at_call 91;refine oEb (l2Nums_calls _ _ _ 3 _ (by first|exact Kd.C_below R3.out M.out.below | exact Kd.C_below R8.out M.out.below) (by first|exact HZT.out.1 | exact HZT.out.2.1)) (by first|exact N3.out | exact N8.out) ?_)
  |(go_at_call 92;refine oCb M.out (l12List_calls _ _ _ _ _ (by first|exact Kd.C_below R9.out M.out.below | exact Kd.C_below R10.out M.out.below) (by first|exact HZT.out.2.2.1 | exact HZT.out.2.2.2) (by omega) (by omega)) (by first|exact L9.out | exact L10.out) ?_;clear M C;intro W M C;simp only [Cl] at C)
  |(go_at_call 93;refine oCb M.out (l12Times_calls t s _ _ _ (kTask.K_below M.out.below HTK.out) (kSys.K_below M.out.below HSK.out) hc0 hc1 hl) TM.out ?_;clear M C;intro W M C;simp only [Cl] at C)
  |(go_at_call 94;refine oCb M.out (l12Up_calls s _ i _ (kSys.K_below M.out.below HSK.out) hi hn) UP.out ?_;clear M C;intro W M C;simp only [Cl] at C)
  |(go_at_call 95;refine oCb M.out (l12Act_calls p _ s _ i _ (kProg.K_below M.out.below HPK.out) (kSys.K_below M.out.below HSK.out) HPZ.out hi hn (by rw [<-TX.out];exact hb0) (by rw [<-TX.out];exact hb1) (by rw [<-TX.out];exact hp0) (by rw [<-TX.out];exact HZT.out.2.2.1) (by rw [<-TX.out];exact HZT.out.2.2.2)) AC.out ?_;clear M C;intro W M C;simp only [Cl] at C))
  go_ret;rw [HU.out];exact ⟨by simp,M.out.below⟩):q:=h
theorem l12Task_calls (p:Prog) (ps:List Value) (s:Sys) (ss:List Value) (i:Nat) (w:World) (hp:kProg.K w p ps) (hs:kSys.K w s ss) (hz:ProgSz p) (hi:i < s.tasks.length) (hn:s.tasks.length<=1048576) (hm:s.cells.length<=1048576) (hl:s.log.length<=1048576) (hc0:0<=s.clock) (hc1:s.clock<=200) (hsz:(taskAt s.tasks i).regs.length<=1048576/\(taskAt s.tasks i).old.length<=1048576/\(taskAt s.tasks i).reads.length<=1048576/\(taskAt s.tasks i).puts.length<=1048576):
  Calls Try.prog 57 #[.agg ps.toArray,.agg ss.toArray,.int .i64 i] w fun e w'=>e= .returned (.bool (taskOk p s i))/\Below w.heap.size w w':=by
 have HPK:=am hp;have HSK:=am hs;have HPZ:=am hz;obtain ⟨Ac,cc,Ab,cb,rfl,-,-,-,gb⟩:=kProg_open hp;obtain ⟨A0,c0,A1,c1,A3,c3,rfl,-,-,-,g1,-⟩:=kSys_open hs;have GB:=am gb;obtain ⟨b,o,cs,rfl,hcl,hK,hcc,-⟩:=C_field g1 zTask i hi (by decide);obtain ⟨t,ht⟩:∃ x,x=taskAt s.tasks i:=⟨_,rfl⟩;rw [<-ht] at hsz;rw [show s.tasks.getD i zTask=t from ht.symm] at hK;have HTK:=am hK;obtain ⟨B3,d3,B8,d8,B9,d9,B10,d10,rfl,-,g3,-,g8,-,g9,-,g10⟩:=kTask_open hK;have HC:=am hcc;have R3:=am g3;have R8:=am g8;have R9:=am g9;have R10:=am g10;have HZT:=am hsz;have TX:=am ht;obtain ⟨b1,y1⟩:∃ b,inB t.body 0 ((p.bodies.length:Int) - 1)=b:=⟨_,rfl⟩;obtain ⟨b2,y2⟩:∃ b,inB t.pc 0 ((actsAt p.bodies t.body.toNat).length)=b:=⟨_,rfl⟩;obtain ⟨b3,y3⟩:∃ b,inB t.way 0 4=b:=⟨_,rfl⟩;obtain ⟨b4,y4⟩:∃ b,inB t.stage 0 5=b:=⟨_,rfl⟩;obtain ⟨bw,yw⟩:∃ b,(t.way != 0)=b:=⟨_,rfl⟩;obtain ⟨st,ys⟩:∃ b,(t.stage != 0)=b:=⟨_,rfl⟩;obtain ⟨n3,z3⟩:∃ b,numsOk t.regs 3=b:=⟨_,rfl⟩;obtain ⟨n8,z8⟩:∃ b,numsOk t.old 3=b:=⟨_,rfl⟩;obtain ⟨l9,z9⟩:∃ b,listOk t.reads s.cells.length=b:=⟨_,rfl⟩;obtain ⟨l10,z10⟩:∃ b,listOk t.puts s.cells.length=b:=⟨_,rfl⟩;obtain ⟨at0,ya⟩:∃ b,(t.at_ == 0)=b:=⟨_,rfl⟩;obtain ⟨sm,ym⟩:∃ b,((t.reads.length:Int)+(t.puts.length:Int) == 0)=b:=⟨_,rfl⟩;obtain ⟨tm,zt⟩:∃ b,timesOk t s=b:=⟨_,rfl⟩;obtain ⟨up,zu⟩:∃ b,upsOk s i=b:=⟨_,rfl⟩;obtain ⟨ac,zc⟩:∃ b,wayOk p s i=b:=⟨_,rfl⟩
 have HU:Aside0 (taskOk p s i=(b1 && b2 && b3 && b4 && (!bw || !st) && n3 && n8 && l9 && l10 && (st || (at0 && sm)) && tm && up && ac)):=⟨by
  have e1:decide (t.way=0)= !bw:=by rw [<-yw,Bool.eq_iff_iff];simp
  have e2:decide (t.stage=0)= !st:=by rw [<-ys,Bool.eq_iff_iff];simp
  have e3:decide (t.at_=0)=at0:=by rw [<-ya,Bool.eq_iff_iff];simp
  have e4:decide (t.reads.length+t.puts.length=0)=sm:=by rw [<-ym,Bool.eq_iff_iff,decide_eq_true_eq,beq_iff_eq];omega
  unfold taskOk;simp only [<-ht];rw [y1,y2,y3,y4,e1,e2,e3,e4,z3,z8,z9,z10,zt,zu,zc,Bool.not_not]⟩
 have w5:wrap64 ((p.bodies.length:Int) - 1)=(p.bodies.length:Int) - 1:=by have:=hz.bodies;unfold wrap64;omega
 have zz:wrap64 ((t.reads.length:Int)+(t.puts.length:Int))=(t.reads.length:Int)+(t.puts.length:Int):=by unfold wrap64;omega
 have Y1:=am y1;have Y2:=am y2;have Y3:=am y3;have Y4:=am y4;have N3:=am z3;have N8:=am z8;have L9:=am z9;have L10:=am z10;have TM:=am zt;have UP:=am zu;have AC:=am zc;have Y1w:Aside0 ((decide (0<=t.body) && decide (t.body<=wrap64 ((p.bodies.length:Int) - 1)))=b1):=⟨by rw [w5];exact y1⟩;have q0:(0:Int)<=(i:Int):=by omega
 have q1:(i:Int) < (s.tasks.length:Int):=by omega
 have M:=am (Own.nil w);have C:=M.out.cl;clear hp hs hz gb g1 hcl hK hcc g3 g8 g9 g10 hsz ht y1 y2 y3 y4 z3 z8 z9 z10 zt zu zc;go_enter Try.func57,Try.ntmps57
 go_upto_region 2 with (first
 |((first|with_reducible refine gB ?_ | with_reducible refine gA ?_);refine oB rfl M.out ?_;clear M C;intro g W M C;simp only [Cl] at C)
 |((with_reducible refine gL ?_);refine oR rfl rfl M.out HC.out ?_)
 |((with_reducible refine gS ?_);refine oS rfl rfl rfl M.out ?_;clear M C;intro W M C;simp only [Cl] at C))
 cases b1
 case false=>
  refine dS M.out ?_;clear M C;intro W M;refine dN [0,1,2,3,4,5] M.out ?_;iterate 6 (first|refine sP rfl ?_ | refine sG rfl ?_ | refine sU rfl ?_ | refine sN rfl ?_)
  refine stillS_nil ?_;refine dC 6 rfl ?_;refine oEb (l6In_calls _ _ _ _) Y1w.out ?_;refine ⟨_,rfl,M,dA ?_⟩;refine dN [7,8,9,10,11,12,13,14,15,16,17] M.out ?_;iterate 11 (first|refine sP rfl ?_ | refine sG rfl ?_ | refine sU rfl ?_ | refine sN rfl ?_)
  refine stillS_nil ?_;refine dU 18 rfl rfl M.out (dA ?_);refine dN [19,20,21,22,23] M.out ?_;iterate 5 (first|refine sP rfl ?_ | refine sG rfl ?_ | refine sU rfl ?_ | refine sN rfl ?_)
  refine stillS_nil ?_;refine dU 24 rfl rfl M.out (dA ?_);refine dN [25,26,27,28,29] M.out ?_;iterate 5 (first|refine sP rfl ?_ | refine sG rfl ?_ | refine sU rfl ?_ | refine sN rfl ?_)
  refine stillS_nil ?_;refine dU 30 rfl rfl M.out (dA ?_);refine dN [31,32] M.out ?_;iterate 2 (first|refine sP rfl ?_ | refine sG rfl ?_ | refine sU rfl ?_ | refine sN rfl ?_)
  refine stillS_nil ?_;refine dD ?_;have C:=M.out.cl;simp only [Cl] at C;exact tkbF
 have hbb:=inB_iff.1 Y1.out;have hb0:0<=t.body:=hbb.1;have hb1:t.body < p.bodies.length:=by omega
 clear hbb;obtain ⟨kb,hkb0⟩:=Int.eq_ofNat_of_zero_le hb0;have hkb:kb < p.bodies.length:=by omega
 have v4:t.body.toNat=kb:=by omega
 obtain ⟨bb,ob,cs2,rfl,hcl2,hK2,hcc2,-⟩:=C_field GB.out ([]:List Act) kb hkb (by decide);obtain ⟨Aa,ca,rfl,la,-⟩:=hK2;have p2:=hcc2 0 _ rfl;simp only [show (Kd.slice 108 kAct).sz=1 from rfl,Nat.mul_one,Nat.add_zero] at p2;rw [show (p.bodies.getD kb []).length=(actsAt p.bodies kb).length from rfl] at p2;rw [v4] at Y2;have hnl:(actsAt p.bodies kb).length<=1048576:=by rw [actsAt_eq hkb];exact (HPZ.out.acts _ (List.getElem_mem hkb)).1
 generalize (actsAt p.bodies kb).length=na at p2 Y2 hnl;replace M:=am (M.out.far p2);clear C;have C:=M.out.cl;simp only [Cl] at C;clear hcl2 hcc2 p2 la hkb0;refine dS M.out ?_;clear M C;intro W M;refine dN [0,1,2,3,4,5] M.out ?_;iterate 6 (first|refine sP rfl ?_ | refine sG rfl ?_ | refine sU rfl ?_ | refine sN rfl ?_)
 refine stillS_nil ?_;refine dC 6 rfl ?_;refine oEb (l6In_calls _ _ _ _) Y1w.out ?_;refine ⟨_,rfl,M,dA ?_⟩;refine dN [7,8,9,10,11,12,13,14,15,16,17] M.out ?_;iterate 11 (first|refine sP rfl ?_ | refine sG rfl ?_ | refine sU rfl ?_ | refine sN rfl ?_)
 refine stillS_nil ?_;refine dC 18 rfl ?_;refine oEb (l6In_calls _ _ _ _) Y2.out ?_;refine ⟨_,rfl,M,dA ?_⟩;cases b2
 case false=>
  refine dN [19,20,21,22,23] M.out ?_;iterate 5 (first|refine sP rfl ?_ | refine sG rfl ?_ | refine sU rfl ?_ | refine sN rfl ?_)
  refine stillS_nil ?_;refine dU 24 rfl rfl M.out (dA ?_);refine dN [25,26,27,28,29] M.out ?_;iterate 5 (first|refine sP rfl ?_ | refine sG rfl ?_ | refine sU rfl ?_ | refine sN rfl ?_)
  refine stillS_nil ?_;refine dU 30 rfl rfl M.out (dA ?_);refine dN [31,32] M.out ?_;iterate 2 (first|refine sP rfl ?_ | refine sG rfl ?_ | refine sU rfl ?_ | refine sN rfl ?_)
  refine stillS_nil ?_;refine dD ?_;have C:=M.out.cl;simp only [Cl] at C;exact tkbF
 have hp0:0<=t.pc:=(inB_iff.1 Y2.out).1;refine dN [19,20,21,22,23] M.out ?_;iterate 5 (first|refine sP rfl ?_ | refine sG rfl ?_ | refine sU rfl ?_ | refine sN rfl ?_)
 refine stillS_nil ?_;refine dC 24 rfl ?_;refine oEb (l6In_calls _ _ _ _) Y3.out ?_;refine ⟨_,rfl,M,dA ?_⟩;cases b3
 case false=>
  refine dN [25,26,27,28,29] M.out ?_;iterate 5 (first|refine sP rfl ?_ | refine sG rfl ?_ | refine sU rfl ?_ | refine sN rfl ?_)
  refine stillS_nil ?_;refine dU 30 rfl rfl M.out (dA ?_);refine dN [31,32] M.out ?_;iterate 2 (first|refine sP rfl ?_ | refine sG rfl ?_ | refine sU rfl ?_ | refine sN rfl ?_)
  refine stillS_nil ?_;refine dD ?_;have C:=M.out.cl;simp only [Cl] at C;exact tkbF
 refine dN [25,26,27,28,29] M.out ?_;iterate 5 (first|refine sP rfl ?_ | refine sG rfl ?_ | refine sU rfl ?_ | refine sN rfl ?_)
 refine stillS_nil ?_;refine dC 30 rfl ?_;refine oEb (l6In_calls _ _ _ _) Y4.out ?_;refine ⟨_,rfl,M,dA ?_⟩;cases b4
 case false=>
  refine dN [31,32] M.out ?_;iterate 2 (first|refine sP rfl ?_ | refine sG rfl ?_ | refine sU rfl ?_ | refine sN rfl ?_)
  refine stillS_nil ?_;refine dD ?_;have C:=M.out.cl;simp only [Cl] at C;exact tkbF
 refine dN [31,32] M.out ?_;iterate 2 (first|refine sP rfl ?_ | refine sG rfl ?_ | refine sU rfl ?_ | refine sN rfl ?_)
 refine stillS_nil ?_;refine dD ?_;have C:=M.out.cl;simp only [Cl] at C;go_upto_region 4 with fail;cases st
 case false=>
  cases bw
  all_goals
   cases n3
   case false=>exact tkF
   cases n8
   case false=>exact tkF
   cases l9
   case false=>exact tkF
   cases l10
   case false=>exact tkF
   cases at0
   case false=>exact tkF
   cases sm
   case false=>exact tkF
   cases tm
   case false=>exact tkF
   cases up
   case false=>exact tkF
   exact tkF
 cases bw
 case true=>exact tkbF
 cases n3
 case false=>exact tkF
 cases n8
 case false=>exact tkF
 cases l9
 case false=>exact tkF
 cases l10
 case false=>exact tkF
 cases tm
 case false=>exact tkF
 cases up
 case false=>exact tkF
 exact tkF
structure SysSz (s:Sys):Prop where
 cells:s.cells.length<=1048576
 tasks:s.tasks.length<=1048576
 log:s.log.length<=1048576
 task:∀ i,i < s.tasks.length->(taskAt s.tasks i).regs.length<=1048576/\(taskAt s.tasks i).old.length<=1048576/\(taskAt s.tasks i).reads.length<=1048576/\(taskAt s.tasks i).puts.length<=1048576
 logs:∀ i,i < s.log.length->(entryAt s.log i).reads.length<=1048576/\(entryAt s.log i).puts.length<=1048576
theorem sysOk_calls (p:Prog) (ps:List Value) (s:Sys) (ss:List Value) (w:World) (hp:kProg.K w p ps) (hs:kSys.K w s ss) (hz:ProgSz p) (hsz:SysSz s):
  Calls Try.prog 34 #[.agg ps.toArray,.agg ss.toArray] w fun e w'=>e= .returned (.bool (sysOk p s))/\Below w.heap.size w w':=by
 have HPK:=am hp;have HSK:=am hs;have HPZ:=am hz;have HSZ:=am hsz;obtain ⟨Ac,cc,Ab,cb,rfl,-⟩:=kProg_open hp;obtain ⟨A0,c0,A1,c1,A3,c3,rfl,-⟩:=kSys_open hs;have HU:Aside0 (sysOk p s=(progOk p && decide (s.cells.length=p.cells.length) && inB s.tasks.length 1 7 && inB s.clock 0 200 && allB s.tasks.length (taskOk p s) && cellsOk s && logOk p s)):=⟨rfl⟩;have hn:=hsz.tasks;have hm:=hsz.cells;have hl:=hsz.log;have hpc:=hz.cells;clear hp hs hz hsz;obtain ⟨bH1,hbH1⟩:∃ b,inB (s.tasks.length:Int) 1 7=b:=⟨_,rfl⟩;have H1:Aside0 ((decide ((1:Int)<=(s.tasks.length:Int)) && decide ((s.tasks.length:Int)<=7))=bH1):=⟨hbH1⟩;clear hbH1;obtain ⟨bH2,hbH2⟩:∃ b,inB s.clock 0 200=b:=⟨_,rfl⟩;have H2:Aside0 ((decide ((0:Int)<=s.clock) && decide (s.clock<=200))=bH2):=⟨hbH2⟩;clear hbH2;obtain ⟨bPO,hbPO⟩:∃ x,progOk p=x:=⟨_,rfl⟩;have PO:=am hbPO;clear hbPO;obtain ⟨bCE,hbCE⟩:∃ x,cellsOk s=x:=⟨_,rfl⟩;have CE:=am hbCE;clear hbCE;obtain ⟨bLO,hbLO⟩:∃ x,logOk p s=x:=⟨_,rfl⟩;have LO:=am hbLO;clear hbLO;go_enter Try.func34,Try.ntmps34
 cases bPO with
 | false=>
  go_wp2_with (first
  |((with_reducible refine gate_dst (N:=2) rfl ?_);refine box_event rfl (N:=2) rfl (t:=48) (by go_simp<;>rfl) ?_;intro gp hg w2 hbox hb;have BP:=am hbox;clear hbox hg;have HB2:=am hb;clear hb;have HB:=HB2;clear HB2;have BPc:=zc8 BP.out)
  |((with_reducible refine gate_dst (N:=3) rfl ?_);refine box_event rfl (N:=3) rfl (t:=27) (by go_simp<;>rfl) ?_;intro gs hg w3 hbox hb;have BS:=am hbox;clear hbox hg;replace BP:=am (zb8 BP.out hb);replace HB:=am (below_step HB.out hb);clear hb BPc;have BPc:=zc8 BP.out;have BSc:=zc8 BS.out)
  |((with_reducible refine gate_dst (N:=6) rfl ?_);refine wpList_load_mid rfl 48 (.tmp 2) rfl gp 0 rfl _ _ (lC BP.out) Try.underlying48 rfl (by kernel_rfl) ?_)
  |(go_at_call 56;refine (progOk_calls p _ _ (kProg.K_below HB.out HPK.out) HPZ.out).mono ?_;rw [PO.out];rintro e w9 ⟨rfl,hb⟩;replace BP:=am (zb8 BP.out hb);replace BS:=am (zb8 BS.out hb);replace HB:=am (below_step HB.out hb);clear hb BPc BSc;have BPc:=zc8 BP.out;have BSc:=zc8 BS.out))
  go_ret
  have hr:sysOk p s=false:=by
   rw [HU.out,PO.out];simp only [Bool.true_and,Bool.false_and,Bool.and_false,Bool.and_true,Bool.and_self]
  rw [hr]
  exact ⟨rfl,HB.out⟩
 | true=>
  by_cases clx:s.cells.length=p.cells.length
  ·have ycl:((s.cells.length:Int) != (p.cells.length:Int))=false:=by simp;omega
   have CL:=am (decide_eq_true clx);clear clx
   cases bH1 with
   | false=>
    go_wp2_with (first
    |((with_reducible refine gate_dst (N:=2) rfl ?_);refine box_event rfl (N:=2) rfl (t:=48) (by go_simp<;>rfl) ?_;intro gp hg w2 hbox hb;have BP:=am hbox;clear hbox hg;have HB2:=am hb;clear hb;have HB:=HB2;clear HB2;have BPc:=zc8 BP.out)
    |((with_reducible refine gate_dst (N:=3) rfl ?_);refine box_event rfl (N:=3) rfl (t:=27) (by go_simp<;>rfl) ?_;intro gs hg w3 hbox hb;have BS:=am hbox;clear hbox hg;replace BP:=am (zb8 BP.out hb);replace HB:=am (below_step HB.out hb);clear hb BPc;have BPc:=zc8 BP.out;have BSc:=zc8 BS.out)
    |((with_reducible refine gate_dst (N:=6) rfl ?_);refine wpList_load_mid rfl 48 (.tmp 2) rfl gp 0 rfl _ _ (lC BP.out) Try.underlying48 rfl (by kernel_rfl) ?_)
    |(go_at_call 56;refine (progOk_calls p _ _ (kProg.K_below HB.out HPK.out) HPZ.out).mono ?_;rw [PO.out];rintro e w9 ⟨rfl,hb⟩;replace BP:=am (zb8 BP.out hb);replace BS:=am (zb8 BS.out hb);replace HB:=am (below_step HB.out hb);clear hb BPc BSc;have BPc:=zc8 BP.out;have BSc:=zc8 BS.out)
    |(go_at_call 50;refine (l6In_calls _ _ _ _).mono ?_;(first|rw [H1.out]);rintro e w9 ⟨rfl,rfl⟩))
    go_ret
    have hr:sysOk p s=false:=by
     rw [HU.out,PO.out,CL.out,show inB (s.tasks.length:Int) 1 7=false from H1.out];simp only [Bool.true_and,Bool.false_and,Bool.and_false,Bool.and_true,Bool.and_self]
    rw [hr]
    exact ⟨rfl,HB.out⟩
   | true=>
    cases bH2 with
    | false=>
     go_wp2_with (first
     |((with_reducible refine gate_dst (N:=2) rfl ?_);refine box_event rfl (N:=2) rfl (t:=48) (by go_simp<;>rfl) ?_;intro gp hg w2 hbox hb;have BP:=am hbox;clear hbox hg;have HB2:=am hb;clear hb;have HB:=HB2;clear HB2;have BPc:=zc8 BP.out)
     |((with_reducible refine gate_dst (N:=3) rfl ?_);refine box_event rfl (N:=3) rfl (t:=27) (by go_simp<;>rfl) ?_;intro gs hg w3 hbox hb;have BS:=am hbox;clear hbox hg;replace BP:=am (zb8 BP.out hb);replace HB:=am (below_step HB.out hb);clear hb BPc;have BPc:=zc8 BP.out;have BSc:=zc8 BS.out)
     |((with_reducible refine gate_dst (N:=6) rfl ?_);refine wpList_load_mid rfl 48 (.tmp 2) rfl gp 0 rfl _ _ (lC BP.out) Try.underlying48 rfl (by kernel_rfl) ?_)
     |(go_at_call 56;refine (progOk_calls p _ _ (kProg.K_below HB.out HPK.out) HPZ.out).mono ?_;rw [PO.out];rintro e w9 ⟨rfl,hb⟩;replace BP:=am (zb8 BP.out hb);replace BS:=am (zb8 BS.out hb);replace HB:=am (below_step HB.out hb);clear hb BPc BSc;have BPc:=zc8 BP.out;have BSc:=zc8 BS.out)
     |(go_at_call 50;refine (l6In_calls _ _ _ _).mono ?_;(first|rw [H1.out] | rw [H2.out]);rintro e w9 ⟨rfl,rfl⟩))
     go_ret
     have hr:sysOk p s=false:=by
      rw [HU.out,PO.out,CL.out,show inB (s.tasks.length:Int) 1 7=true from H1.out,show inB s.clock 0 200=false from H2.out];simp only [Bool.true_and,Bool.false_and,Bool.and_false,Bool.and_true,Bool.and_self]
     rw [hr]
     exact ⟨rfl,HB.out⟩
    | true=>
     have hk0:=(inB_iff.1 (show inB s.clock 0 200=true from H2.out)).1;have hk1:=(inB_iff.1 (show inB s.clock 0 200=true from H2.out)).2
     go_wp2_with (first
     |((with_reducible refine gate_dst (N:=2) rfl ?_);refine box_event rfl (N:=2) rfl (t:=48) (by go_simp<;>rfl) ?_;intro gp hg w2 hbox hb;have BP:=am hbox;clear hbox hg;have HB2:=am hb;clear hb;have HB:=HB2;clear HB2;have BPc:=zc8 BP.out)
     |((with_reducible refine gate_dst (N:=3) rfl ?_);refine box_event rfl (N:=3) rfl (t:=27) (by go_simp<;>rfl) ?_;intro gs hg w3 hbox hb;have BS:=am hbox;clear hbox hg;replace BP:=am (zb8 BP.out hb);replace HB:=am (below_step HB.out hb);clear hb BPc;have BPc:=zc8 BP.out;have BSc:=zc8 BS.out)
     |((with_reducible refine gate_dst (N:=6) rfl ?_);refine wpList_load_mid rfl 48 (.tmp 2) rfl gp 0 rfl _ _ (lC BP.out) Try.underlying48 rfl (by kernel_rfl) ?_)
     |(go_at_call 56;refine (progOk_calls p _ _ (kProg.K_below HB.out HPK.out) HPZ.out).mono ?_;rw [PO.out];rintro e w9 ⟨rfl,hb⟩;replace BP:=am (zb8 BP.out hb);replace BS:=am (zb8 BS.out hb);replace HB:=am (below_step HB.out hb);clear hb BPc BSc;have BPc:=zc8 BP.out;have BSc:=zc8 BS.out)
     |(go_at_call 50;refine (l6In_calls _ _ _ _).mono ?_;(first|rw [H1.out] | rw [H2.out]);rintro e w9 ⟨rfl,rfl⟩))
     go_loopw [5] (fun j w'=>∃ k:Nat,k<=s.tasks.length/\j= .int .i64 k/\Aside0 (∀ i,i < k->taskOk p s i=true)/\Aside0 (w'.heap[gp]? = some (.cells #[.slice Ac p.cells.length cc,.slice Ab p.bodies.length cb] 48 (0,0)))/\Aside0 (w'.heap[gs]? = some (.cells #[.slice A0 s.cells.length c0,.slice A1 s.tasks.length c1,.int .i64 s.clock,.slice A3 s.log.length c3] 27 (0,0)))/\Aside0 (Below w.heap.size w w')) (fun j _=>s.tasks.length - (intOf j).toNat)
     case atStart=>exact ⟨0,Nat.zero_le _,rfl,⟨fun i hi=>by omega⟩,BP,BS,HB⟩
     case round=>
      clear BP BS HB BPc BSc;obtain ⟨k,hk,rfl,HJ,BP,BS,HB⟩:=hrel;have BPc:=zc8 BP.out;have BSc:=zc8 BS.out;by_cases hlt:k < s.tasks.length
      ·obtain ⟨bTO,hbTO⟩:∃ x,taskOk p s k=x:=⟨_,rfl⟩
       have TO:=am hbTO;clear hbTO;have q1:(k:Int) < (s.tasks.length:Int):=by omega
       cases bTO with
       | false=>
        go_wp2_with (first
        |((with_reducible refine gate_dst (N:=38) rfl ?_);refine wpList_load_mid rfl 48 (.tmp 2) rfl gp 0 rfl _ _ (lC BP.out) Try.underlying48 rfl (by kernel_rfl) ?_)
        |((with_reducible refine gate_dst (N:=39) rfl ?_);refine wpList_load_mid rfl 27 (.tmp 3) rfl gs 0 rfl _ _ (lC BS.out) Try.underlying27 rfl (by kernel_rfl) ?_)
        |(go_at_call 57;refine (l12Task_calls p _ s _ k _ (kProg.K_below HB.out HPK.out) (kSys.K_below HB.out HSK.out) HPZ.out hlt HSZ.out.tasks HSZ.out.cells HSZ.out.log hk0 hk1 (HSZ.out.task k hlt)).mono ?_;rw [TO.out];rintro e w9 ⟨rfl,hb⟩;replace BP:=am (zb8 BP.out hb);replace BS:=am (zb8 BS.out hb);replace HB:=am (below_step HB.out hb);clear hb BPc BSc;have BPc:=zc8 BP.out;have BSc:=zc8 BS.out))
        go_ret
        have hr:sysOk p s=false:=by
         rw [HU.out,PO.out,CL.out,show inB (s.tasks.length:Int) 1 7=true from H1.out,show inB s.clock 0 200=true from H2.out,allB_no hlt TO.out];simp only [Bool.true_and,Bool.false_and,Bool.and_false,Bool.and_true,Bool.and_self]
        rw [hr]
        exact ⟨rfl,HB.out⟩
       | true=>
        go_wp2_with (first
        |((with_reducible refine gate_dst (N:=38) rfl ?_);refine wpList_load_mid rfl 48 (.tmp 2) rfl gp 0 rfl _ _ (lC BP.out) Try.underlying48 rfl (by kernel_rfl) ?_)
        |((with_reducible refine gate_dst (N:=39) rfl ?_);refine wpList_load_mid rfl 27 (.tmp 3) rfl gs 0 rfl _ _ (lC BS.out) Try.underlying27 rfl (by kernel_rfl) ?_)
        |(go_at_call 57;refine (l12Task_calls p _ s _ k _ (kProg.K_below HB.out HPK.out) (kSys.K_below HB.out HSK.out) HPZ.out hlt HSZ.out.tasks HSZ.out.cells HSZ.out.log hk0 hk1 (HSZ.out.task k hlt)).mono ?_;rw [TO.out];rintro e w9 ⟨rfl,hb⟩;replace BP:=am (zb8 BP.out hb);replace BS:=am (zb8 BS.out hb);replace HB:=am (below_step HB.out hb);clear hb BPc BSc;have BPc:=zc8 BP.out;have BSc:=zc8 BS.out))
        go_roundw
        case rel=>exact ⟨k+1,by omega,by go_num,⟨fun i hi=>by rcases Nat.lt_or_ge i k with h | h;exact HJ.out i h;obtain rfl:k=i:=(by omega);exact TO.out⟩,BP,BS,HB⟩
        case measure=>simp [intOf];omega
      ·obtain rfl:k=s.tasks.length:=by omega
       have AL:=am (allB_iff.2 HJ.out);have HBD:Aside0 (∀ i,i < s.tasks.length->0<=(taskAt s.tasks i).body/\(taskAt s.tasks i).body < p.bodies.length):=⟨fun i hi=>by have h:=HJ.out i hi;simp only [taskOk,Bool.and_eq_true,inB_iff] at h;omega⟩;have q1:¬ (s.tasks.length:Int) < (s.tasks.length:Int):=by omega
       cases bCE with
       | false=>
        go_wp2_with (first
        |((with_reducible refine gate_dst (N:=43) rfl ?_);refine wpList_load_mid rfl 27 (.tmp 3) rfl gs 0 rfl _ _ (lC BS.out) Try.underlying27 rfl (by kernel_rfl) ?_)
        |((with_reducible refine gate_dst (N:=46) rfl ?_);refine wpList_load_mid rfl 48 (.tmp 2) rfl gp 0 rfl _ _ (lC BP.out) Try.underlying48 rfl (by kernel_rfl) ?_)
        |((with_reducible refine gate_dst (N:=47) rfl ?_);refine wpList_load_mid rfl 27 (.tmp 3) rfl gs 0 rfl _ _ (lC BS.out) Try.underlying27 rfl (by kernel_rfl) ?_)
        |(go_at_call 58;refine (l12Cells_calls s _ _ (kSys.K_below HB.out HSK.out) HSZ.out.cells HSZ.out.tasks (fun i hi=>(HSZ.out.task i hi).2.2.2)).mono ?_;rw [CE.out];rintro e w9 ⟨rfl,hb⟩;replace BP:=am (zb8 BP.out hb);replace BS:=am (zb8 BS.out hb);replace HB:=am (below_step HB.out hb);clear hb BPc BSc;have BPc:=zc8 BP.out;have BSc:=zc8 BS.out))
        go_ret
        have hr:sysOk p s=false:=by
         rw [HU.out,PO.out,CL.out,show inB (s.tasks.length:Int) 1 7=true from H1.out,show inB s.clock 0 200=true from H2.out,AL.out,CE.out];simp only [Bool.true_and,Bool.false_and,Bool.and_false,Bool.and_true,Bool.and_self]
        rw [hr]
        exact ⟨rfl,HB.out⟩
       | true=>
        go_wp2_with (first
        |((with_reducible refine gate_dst (N:=43) rfl ?_);refine wpList_load_mid rfl 27 (.tmp 3) rfl gs 0 rfl _ _ (lC BS.out) Try.underlying27 rfl (by kernel_rfl) ?_)
        |((with_reducible refine gate_dst (N:=46) rfl ?_);refine wpList_load_mid rfl 48 (.tmp 2) rfl gp 0 rfl _ _ (lC BP.out) Try.underlying48 rfl (by kernel_rfl) ?_)
        |((with_reducible refine gate_dst (N:=47) rfl ?_);refine wpList_load_mid rfl 27 (.tmp 3) rfl gs 0 rfl _ _ (lC BS.out) Try.underlying27 rfl (by kernel_rfl) ?_)
        |(go_at_call 58;refine (l12Cells_calls s _ _ (kSys.K_below HB.out HSK.out) HSZ.out.cells HSZ.out.tasks (fun i hi=>(HSZ.out.task i hi).2.2.2)).mono ?_;rw [CE.out];rintro e w9 ⟨rfl,hb⟩;replace BP:=am (zb8 BP.out hb);replace BS:=am (zb8 BS.out hb);replace HB:=am (below_step HB.out hb);clear hb BPc BSc;have BPc:=zc8 BP.out;have BSc:=zc8 BS.out)
        |(go_at_call 59;refine (l12Log_calls p _ s _ _ (kProg.K_below HB.out HPK.out) (kSys.K_below HB.out HSK.out) HPZ.out HSZ.out.cells HSZ.out.tasks HSZ.out.log HSZ.out.logs HBD.out).mono ?_;rw [LO.out];rintro e w9 ⟨rfl,hb⟩;replace BP:=am (zb8 BP.out hb);replace BS:=am (zb8 BS.out hb);replace HB:=am (below_step HB.out hb);clear hb BPc BSc;have BPc:=zc8 BP.out;have BSc:=zc8 BS.out))
        go_ret
        have hr:sysOk p s=bLO:=by
         rw [HU.out,PO.out,CL.out,show inB (s.tasks.length:Int) 1 7=true from H1.out,show inB s.clock 0 200=true from H2.out,AL.out,CE.out,LO.out];simp only [Bool.true_and,Bool.false_and,Bool.and_false,Bool.and_true,Bool.and_self]
        rw [hr];exact ⟨rfl,HB.out⟩
  ·have ycl:((s.cells.length:Int) != (p.cells.length:Int))=true:=by simp;omega
   have CL:=am (decide_eq_false clx);clear clx
   go_wp2_with (first
   |((with_reducible refine gate_dst (N:=2) rfl ?_);refine box_event rfl (N:=2) rfl (t:=48) (by go_simp<;>rfl) ?_;intro gp hg w2 hbox hb;have BP:=am hbox;clear hbox hg;have HB2:=am hb;clear hb;have HB:=HB2;clear HB2;have BPc:=zc8 BP.out)
   |((with_reducible refine gate_dst (N:=3) rfl ?_);refine box_event rfl (N:=3) rfl (t:=27) (by go_simp<;>rfl) ?_;intro gs hg w3 hbox hb;have BS:=am hbox;clear hbox hg;replace BP:=am (zb8 BP.out hb);replace HB:=am (below_step HB.out hb);clear hb BPc;have BPc:=zc8 BP.out;have BSc:=zc8 BS.out)
   |((with_reducible refine gate_dst (N:=6) rfl ?_);refine wpList_load_mid rfl 48 (.tmp 2) rfl gp 0 rfl _ _ (lC BP.out) Try.underlying48 rfl (by kernel_rfl) ?_)
   |(go_at_call 56;refine (progOk_calls p _ _ (kProg.K_below HB.out HPK.out) HPZ.out).mono ?_;rw [PO.out];rintro e w9 ⟨rfl,hb⟩;replace BP:=am (zb8 BP.out hb);replace BS:=am (zb8 BS.out hb);replace HB:=am (below_step HB.out hb);clear hb BPc BSc;have BPc:=zc8 BP.out;have BSc:=zc8 BS.out))
   go_ret
   have hr:sysOk p s=false:=by
    rw [HU.out,PO.out,CL.out];simp only [Bool.true_and,Bool.false_and,Bool.and_false,Bool.and_true,Bool.and_self]
   rw [hr];exact ⟨rfl,HB.out⟩
end Go.Proofs.Ytimamoimphjakaa.Eq
namespace Go.Proofs.YtimamoimphjakaaW.PrintWords
theorem Reps.one {α:Type} {R:α->List Value->Prop} {ps:List α} {cs:List Value} {p:α} {v:Value} (hp:R p [v]) (h:Reps R 1 ps cs):Reps R 1 (p :: ps) (v :: cs):=by
 refine ⟨by simp [h.1],fun j q hq=> ?_⟩
 cases j with
 | zero=>
  simp only [List.getElem?_cons_zero,Option.some.injEq] at hq;subst hq
  simpa using hp
 | succ j=>
  simp only [List.getElem?_cons_succ] at hq;have h1:=h.2 j q hq;simpa [Nat.mul_one] using h1
theorem Reps.front {α:Type} {R:α->List Value->Prop} {size:Nat} {ps:List α} {cs c all:List Value} {p:α} (hp:R p c) (hc:c.length=size) (h:Reps R size ps cs) (ha:c ++ cs=all):Reps R size (p :: ps) all:=by
 subst ha;refine ⟨by rw [List.length_append,hc,h.1,List.length_cons,Nat.succ_mul,Nat.add_comm],fun j q hq=> ?_⟩
 cases j with
 | zero=>
  simp only [List.getElem?_cons_zero,Option.some.injEq] at hq;subst hq;rw [Nat.zero_mul,List.drop_zero,List.take_append_of_le_length (by omega),List.take_of_length_le (by omega)]
  exact hp
 | succ j=>
  simp only [List.getElem?_cons_succ] at hq;have h1:=h.2 j q hq;rw [Nat.succ_mul,List.drop_append,List.drop_of_length_le (by rw [hc];exact Nat.le_add_left _ _),List.nil_append,hc,Nat.add_sub_cancel];exact h1
theorem Reps.c3 {α:Type} {R:α->List Value->Prop} {ps:List α} {cs:List Value} {p:α} {va vb vc:Value} (hp:R p [va,vb,vc]) (h:Reps R 3 ps cs):Reps R 3 (p :: ps) (va :: vb :: vc :: cs):=Reps.front hp rfl h rfl
theorem Reps.c4 {α:Type} {R:α->List Value->Prop} {ps:List α} {cs:List Value} {p:α} {va vb vc vd:Value} (hp:R p [va,vb,vc,vd]) (h:Reps R 4 ps cs):Reps R 4 (p :: ps) (va :: vb :: vc :: vd :: cs):=Reps.front hp rfl h rfl
end Go.Proofs.YtimamoimphjakaaW.PrintWords
namespace Go.Proofs.Ytimamoimphjakaa.Eq
open Go.RowKit Go.Proofs.YtimamoimphjakaaW.PrintWords Go.Proofs.YtimamoimphjakaaW.PrintLast Go.Proofs.YtimamoimphjakaaW.PrintMore
theorem R_apart {α:Type} {d:Kd α} {e base g:Nat} {ok:Nat->Prop} {W:World} {v:Value} {xs:List α} {cs:Array Value} {t:TypeId} (h:d.R e W base ok v xs) (hb:W.heap[g]? = some (.cells cs t (0,0))) (ht:∀ q ∈ e :: d.E,q ≠ t):d.R e W base (fun k=>ok k/\k ≠ g) v xs:=by
 refine Kd.R_mono (Kd.R_bound h) (fun k hk=>⟨hk.1,fun he=> ?_⟩);obtain ⟨_,_,_,q,hq,cells,hc⟩:=hk;rw [he,hb] at hc;injection hc with hc;injection hc with _ hc;exact ht q hq hc.symm
theorem R_set {α:Type} {d:Kd α} {e base g:Nat} {ok:Nat->Prop} {W:World} {v:Value} {xs:List α} {cs:Array Value} {t:TypeId} (h:d.R e W base ok v xs) (hb:W.heap[g]? = some (.cells cs t (0,0))) (ht:∀ q ∈ e :: d.E,q ≠ t) (o:Nat) (u:Value):d.R e (W.setCell ⟨g,o,none⟩ u) base ok v xs:=
 Kd.R_mono (Kd.R_far (p:=⟨g,o,none⟩) (R_apart h hb ht) (fun k hk=>hk.2) u) (fun k hk=>hk.1)
theorem R_keepT {α:Type} {d:Kd α} {e base g:Nat} {ok:Nat->Prop} {W W1:World} {v:Value} {xs:List α} {cs:Array Value} {t:TypeId} (h:d.R e W base ok v xs) (hb:W.heap[g]? = some (.cells cs t (0,0))) (ht:∀ q ∈ e :: d.E,q ≠ t) (hk:KeepBut W W1 g none):d.R e W1 base ok v xs:=
 Kd.R_mono (Kd.R_keep (R_apart h hb ht) hk (fun k hk=>hk.2)) (fun k hk=>hk.1)
theorem R_grownT {α:Type} {d:Kd α} {e base g:Nat} {ok:Nat->Prop} {W W1:World} {v:Value} {xs:List α} {cs:Array Value} {t:TypeId} (h:d.R e W base ok v xs) (hb:W.heap[g]? = some (.cells cs t (0,0))) (ht:∀ q ∈ e :: d.E,q ≠ t) (hg:W.grownBy W1 (some g)):d.R e W1 base ok v xs:=
 Kd.R_mono (Kd.R_step (R_apart h hb ht) (fun k hk hl=>hg.block k hl (fun he=>hk.2 (by injection he)))) (fun k hk=>hk.1)
def SysRows (W:World) (base:Nat) (s:Sys) (vc vt vl:Value):Prop:=kCell.R 53 W base (fun _=>True) vc s.cells/\kTask.R 38 W base (fun _=>True) vt s.tasks/\kEntry.R 119 W base (fun _=>True) vl s.log
theorem SysRows.read {W:World} {base:Nat} {s:Sys} {vc vt vl:Value} (h:SysRows W base s vc vt vl):kSys.K W s [vc,vt,.int .i64 s.clock,vl]:=by
 obtain ⟨A0,c0,rfl,l0,g0⟩:=Kd.R_reads h.1;obtain ⟨A1,c1,rfl,l1,g1⟩:=Kd.R_reads h.2.1;obtain ⟨A3,c3,rfl,l3,g3⟩:=Kd.R_reads h.2.2;exact kSys_mk s l0 g0 l1 g1 l3 g3
def NewPost (p:Prog) (b:Bool) (w:World) (e:Ending) (w':World):Prop:=∃ vc vt vl,e= .returned (.tuple #[.agg #[vc,vt,.int .i64 0,vl],.bool b])/\Below w.heap.size w w'/\(b=true->SysRows w' w.heap.size (sysNew p) vc vt vl)/\(b=false->SysRows w' w.heap.size zSys vc vt vl)
theorem take_map_next (l:List Int) {k:Nat} (f:Int->Cell) (h:k < l.length):(l.take (k+1)).map f=(l.take k).map f ++ [f l[k]]:=by
 rw [List.take_add_one,List.getElem?_eq_getElem h,List.map_append];rfl
theorem rd_get {l:List Int} {k:Nat} (h:k < l.length):rd l (k:Int)=l[k]:=by simp [rd,List.getD_eq_getElem?_getD,List.getElem?_eq_getElem h]
theorem sysNew_aux (p:Prog) (ps:List Value) (bPO:Bool) (w:World) (hp:kProg.K w p ps) (hz:ProgSz p) (hbPO:progOk p=bPO):
  Calls Try.prog 117 #[.agg ps.toArray] w fun e w'=>NewPost p bPO w e w':=by
 have HPK:=am hp;have HPZ:=am hz;obtain ⟨Ac,cc,Ab,cb,rfl,-,gc,-⟩:=kProg_open hp;have HCL:=am gc;have hpc:=hz.cells;clear hp hz gc;have PO:=am hbPO;clear hbPO;go_enter Try.func117,Try.ntmps117
 cases bPO with
 | false=>
  go_wp2_with (first
  |((with_reducible refine gate_dst (N:=1) rfl ?_);refine box_event rfl (N:=1) rfl (t:=48) (by go_simp<;>rfl) ?_;intro gp hg w1 hbox hb;have BP:=am hbox;clear hbox hg;have HB2:=am hb;clear hb;have HB:=HB2;clear HB2;have BPc:=zc8 BP.out)
  |((with_reducible refine gate_dst (N:=2) rfl ?_);refine box_event rfl (N:=2) rfl (t:=27) (by go_simp<;>rfl) ?_;intro gr hg w2 hbox hb;have BR:=am hbox;have LR:=am (show w.heap.size<=gr from Nat.le_trans HB.out.size (Nat.le_of_eq hg.symm));clear hbox hg;replace BP:=am (zb8 BP.out hb);replace HB:=am (below_step HB.out hb);clear hb BPc;have BPc:=zc8 BP.out;have BRc:=zc8 BR.out)
  |((with_reducible refine gate_dst (N:=6) rfl ?_);refine wpList_load_mid rfl 48 (.tmp 1) rfl gp 0 rfl _ _ (lC BP.out) Try.underlying48 rfl (by kernel_rfl) ?_)
  |(go_at_call 56;refine (progOk_calls p _ _ (kProg.K_below HB.out HPK.out) HPZ.out).mono ?_;rw [PO.out];rintro e w9 ⟨rfl,hb⟩;replace BP:=am (zb8 BP.out hb);replace BR:=am (zb8 BR.out hb);replace HB:=am (below_step HB.out hb);clear hb BPc BRc;have BPc:=zc8 BP.out;have BRc:=zc8 BR.out)
  |((with_reducible refine gate_store (t:=27) (p:=2) rfl ?_);refine store_block rfl rfl 27 (.tmp 2) (.tmp 9) rfl rfl rfl BR.out rfl (by kernel_rfl) (aB rfl) ?_;intro wz hbox hg;have BZ:=am hbox;have HG:=am hg;have HBz:=am (pw_below_grown HB.out _ HB.out.size hg (fun z hz=>by cases hz;exact LR.out));clear hbox hg))
  exact bodyPost_ret (results_ct Try.results117 _ wz gr 27 #[.slice none 0 0,.slice none 0 0,.int .i64 0,.slice none 0 0] (0,0) _ rfl BZ.out Try.underlying27 rfl (by kernel_rfl)) rfl ⟨_,_,_,rfl,HBz.out,(fun h=>by cases h),fun _=>⟨Kd.R_nil _ _ _ _ _,Kd.R_nil _ _ _ _ _,Kd.R_nil _ _ _ _ _⟩⟩
 | true=>
  go_wp2_with (first
  |((with_reducible refine gate_dst (N:=1) rfl ?_);refine box_event rfl (N:=1) rfl (t:=48) (by go_simp<;>rfl) ?_;intro gp hg w1 hbox hb;have BP:=am hbox;clear hbox hg;have HB2:=am hb;clear hb;have HB:=HB2;clear HB2;have BPc:=zc8 BP.out)
  |((with_reducible refine gate_dst (N:=2) rfl ?_);refine box_event rfl (N:=2) rfl (t:=27) (by go_simp<;>rfl) ?_;intro gr hg w2 hbox hb;have BR:=am hbox;have LR:=am (show w.heap.size<=gr from Nat.le_trans HB.out.size (Nat.le_of_eq hg.symm));clear hbox hg;replace BP:=am (zb8 BP.out hb);replace HB:=am (below_step HB.out hb);clear hb BPc;have BPc:=zc8 BP.out;have BRc:=zc8 BR.out)
  |((with_reducible refine gate_dst (N:=6) rfl ?_);refine wpList_load_mid rfl 48 (.tmp 1) rfl gp 0 rfl _ _ (lC BP.out) Try.underlying48 rfl (by kernel_rfl) ?_)
  |(go_at_call 56;refine (progOk_calls p _ _ (kProg.K_below HB.out HPK.out) HPZ.out).mono ?_;rw [PO.out];rintro e w9 ⟨rfl,hb⟩;replace BP:=am (zb8 BP.out hb);replace BR:=am (zb8 BR.out hb);replace HB:=am (below_step HB.out hb);clear hb BPc BRc;have BPc:=zc8 BP.out;have BRc:=zc8 BR.out)
  |((with_reducible refine gate_dst (N:=10) rfl ?_);refine Kd.R_lit kCell (w0:=w) w.heap.size 53 rfl (N:=10) rfl (xs:=([]:List Cell)) (inner:= []) (ok:=fun _=>True) (okp:=fun _=>False) (by go_simp<;>rfl) (Reps.none _ _) (fun _ hk=>hk.elim) trivial HB.out HB.out.size (by simp) ?_;intro v1 wl hv1 hb1 hg1 _;have hb:=grown_below hg1;clear hb1 hg1;obtain ⟨a0,c0,ev⟩:=Kd.R_slice hv1;subst ev;have VC:=am hv1;clear hv1;replace BP:=am (zb8 BP.out hb);replace BR:=am (zb8 BR.out hb);replace HB:=am (below_step HB.out hb);clear hb BPc BRc;have BPc:=zc8 BP.out;have BRc:=zc8 BR.out)
  |(go_at_call 135;refine (l11Task_calls 0 (-1) _).mono ?_;rintro e wl ⟨v3,v8,v9,v10,rfl,hN4,hb⟩;have hM:kTask.M wl w.heap.size (fun _=>True) (newTask 0 (-1)) [.int .i64 0,.int .i64 0,.int .i64 (-1),v3,.int .i64 0,.int .i64 0,.int .i64 0,.int .i64 0,v8,v9,v10,.int .i64 0,.int .i64 0]:=kTask_mkM (newTask 0 (-1)) (Kd.R_lower hN4.regs HB.out.size) (Kd.R_lower hN4.old HB.out.size) (Kd.R_lower hN4.reads HB.out.size) (Kd.R_lower hN4.puts HB.out.size);have HM:=am hM;clear hM hN4;replace VC:=am (Kd.R_below VC.out hb);replace BP:=am (zb8 BP.out hb);replace BR:=am (zb8 BR.out hb);replace HB:=am (below_step HB.out hb);clear hb BPc BRc;have BPc:=zc8 BP.out;have BRc:=zc8 BR.out)
  |((with_reducible refine gate_dst (N:=12) rfl ?_);refine Kd.R_lit kTask (w0:=w) w.heap.size 38 rfl (N:=12) rfl (xs:= [newTask 0 (-1)]) (inner:= [.int .i64 0,.int .i64 0,.int .i64 (-1),v3,.int .i64 0,.int .i64 0,.int .i64 0,.int .i64 0,v8,v9,v10,.int .i64 0,.int .i64 0]) (ok:=fun _=>True) (okp:=fun _=>True) (by unfold newCells;first|(go_simp;done)|(go_simp;rfl)) (Reps.front HM.out rfl (Reps.none _ _) (by simp)) (fun _ _=>trivial) trivial HB.out HB.out.size (by decide) ?_;intro v1 wl hv1 hb1 hg1 _;have hb:=grown_below hg1;clear hb1 hg1;obtain ⟨a1,c1,ev⟩:=Kd.R_slice hv1;subst ev;have VT:=am hv1;clear hv1 HM;replace VC:=am (Kd.R_below VC.out hb);replace BP:=am (zb8 BP.out hb);replace BR:=am (zb8 BR.out hb);replace HB:=am (below_step HB.out hb);clear hb BPc BRc;have BPc:=zc8 BP.out;have BRc:=zc8 BR.out)
  |((with_reducible refine gate_dst (N:=13) rfl ?_);refine Kd.R_lit kEntry (w0:=w) w.heap.size 119 rfl (N:=13) rfl (xs:=([]:List Entry)) (inner:= []) (ok:=fun _=>True) (okp:=fun _=>False) (by go_simp<;>rfl) (Reps.none _ _) (fun _ hk=>hk.elim) trivial HB.out HB.out.size (by simp) ?_;intro v1 wl hv1 hb1 hg1 _;have hb:=grown_below hg1;clear hb1 hg1;obtain ⟨a3,c3,ev⟩:=Kd.R_slice hv1;subst ev;have VL:=am hv1;clear hv1;replace VC:=am (Kd.R_below VC.out hb);replace VT:=am (Kd.R_below VT.out hb);replace BP:=am (zb8 BP.out hb);replace BR:=am (zb8 BR.out hb);replace HB:=am (below_step HB.out hb);clear hb BPc BRc;have BPc:=zc8 BP.out;have BRc:=zc8 BR.out)
  |((with_reducible refine gate_dst (N:=4) rfl ?_);refine box_event rfl (N:=4) rfl (t:=27) (by go_simp<;>rfl) ?_;intro gs hg wt hbox hb;have BS0:=am hbox;have GS:=am hg;have HBT:=am hb;clear hbox hb hg)
  |((with_reducible refine gate_store (t:=27) (p:=4) rfl ?_);refine store_block rfl rfl 27 (.tmp 4) (.tmp 14) rfl rfl rfl BS0.out rfl (by kernel_rfl) (aB rfl) ?_;intro wn hbox hg;have BS:=am hbox;have hb:=pw_below_grown HBT.out _ HBT.out.size hg (fun z hz=>by cases hz;exact Nat.le_of_eq GS.out.symm);have LS:=am (show w.heap.size<=gs from Nat.le_trans HB.out.size (Nat.le_of_eq GS.out.symm));have NRS:=am (show gr ≠ gs from fun he=>by have:=blk_lt BR.out;rw [GS.out] at he;omega);clear BS0 HBT hbox hg GS;replace VC:=am (Kd.R_below VC.out hb);replace VT:=am (Kd.R_below VT.out hb);replace VL:=am (Kd.R_below VL.out hb);replace BP:=am (zb8 BP.out hb);replace BR:=am (zb8 BR.out hb);replace HB:=am (below_step HB.out hb);clear hb BPc BRc;have BPc:=zc8 BP.out;have BRc:=zc8 BR.out;have BSc:=zc8 BS.out))
  go_loopw [5] (fun j w'=>∃ k:Nat,k<=p.cells.length/\j= .int .i64 k/\∃ vc,Aside0 (kCell.R 53 w' w.heap.size (fun _=>True) vc ((p.cells.take k).map fun n=>(⟨n,0,-1⟩:Cell)))/\Aside0 (kTask.R 38 w' w.heap.size (fun _=>True) (.slice a1 1 c1) [newTask 0 (-1)])/\Aside0 (kEntry.R 119 w' w.heap.size (fun _=>True) (.slice a3 0 c3) [])/\Aside0 (w'.heap[gp]? = some (.cells #[.slice Ac p.cells.length cc,.slice Ab p.bodies.length cb] 48 (0,0)))/\Aside0 (w'.heap[gr]? = some (.cells #[.slice none 0 0,.slice none 0 0,.int .i64 0,.slice none 0 0] 27 (0,0)))/\Aside0 (w'.heap[gs]? = some (.cells #[vc,.slice a1 1 c1,.int .i64 0,.slice a3 0 c3] 27 (0,0)))/\Aside0 (Below w.heap.size w w')) (fun j _=>p.cells.length - (intOf j).toNat)
  case atStart=>exact ⟨0,Nat.zero_le _,rfl,_,VC,VT,VL,BP,BR,BS,HB⟩
  case round=>
   clear VC VT VL BP BR BS HB BPc BRc BSc;obtain ⟨k,hk,rfl,vc,VC,VT,VL,BP,BR,BS,HB⟩:=hrel;obtain ⟨A,cA,ev⟩:=Kd.R_slice VC.out;subst ev;obtain ⟨lk,hlk⟩:∃ x:Nat,x=((p.cells.take k).map fun n=>(⟨n,0,-1⟩:Cell)).length:=⟨_,rfl⟩;rw [<-hlk] at VC BS;have LK:=am hlk;clear hlk;have BPc:=zc8 BP.out;have BRc:=zc8 BR.out;have BSc:=zc8 BS.out;by_cases hlt:k < p.cells.length
   ·have q0:(0:Int)<=(k:Int):=by omega
    have q1:(k:Int) < (p.cells.length:Int):=by omega
    obtain ⟨nk,hnk⟩:∃ x,x=rd p.cells (k:Int):=⟨_,rfl⟩;have NK:=am hnk;clear hnk;obtain ⟨adc,hac,-⟩:=Kd.at_int HCL.out (k:Int) q0 q1;cases hac;go_wp2;refine st9 (n:=12) (S:=fun W=>W.heap[gp]? = some (.cells #[.slice (some adc) p.cells.length cc,.slice Ab p.bodies.length cb] 48 (0,0))/\W.heap[gr]? = some (.cells #[.slice none 0 0,.slice none 0 0,.int .i64 0,.slice none 0 0] 27 (0,0))/\W.heap[gs]? = some (.cells #[.slice A lk cA,.slice a1 1 c1,.int .i64 0,.slice a3 0 c3] 27 (0,0))/\(Kd.int .i64).C W (some adc) p.cells.length p.cells) (ds:= [10,11]) (by kernel_rfl) rfl ⟨blk_drew BP.out,blk_drew BR.out,blk_drew BS.out,Kd.C_below (Kd.C_below HCL.out HB.out) (below_drew (Below.refl _ _))⟩ (fun hHeld=> ?_);have hb:=below_drew (Below.refl wr.heap.size wr);generalize wr.drew=w7 at hb hHeld ⊢;have HB7:=am (below_step HB.out hb);have VC7:=am (Kd.R_below VC.out hb);have VT7:=am (Kd.R_below VT.out hb);have VL7:=am (Kd.R_below VL.out hb);clear hb HB BP BR BS BPc BRc BSc VC VT VL;refine ba9 (fuel:=4) (n:=8) [0,1,2,3,4,5,6,7] (by kernel_rfl) (fun N _ _ _ _ h=>by cases N <;> exact h) hHeld ?_
    iterate 8 (
     refine stillS_step (v:= ?_) (a':= ?_) rfl (Or.inl ⟨by rfl, ?_⟩) ?_ ?_;rotate_left
     ·rintro W ⟨s0,s1,s2,s3⟩
      have t0:=zc8 s0;have t2:=zc8 s2;obtain ⟨ad1,hh,gx⟩:=Kd.at_int s3 (k:Int) q0 q1;cases hh;simp only [Int.toNat_natCast] at gx;rw [<-NK.out] at gx;clear s0 s1 s2 s3;go_simp;with_reducible rfl
     rotate_left
     ·simp only [Act.put,sA,sZ,sS,i64_w]
      rfl)
    refine stillS_nil ?_;refine on9 (i:=8) (N:=some 30) rfl rfl (by kernel_rfl) (by decide) (fun K hK=> ?_);refine value_ (v:=.slice (some ⟨w7.heap.size,0,none⟩) 1 1) (w1:=w7.alloc (.cells #[.int .i64 nk,.int .i64 0,.int .i64 (-1)] 53 (0,0))) (by rfl) rfl (by go_simp<;>rfl) ?_;have hHeld0:=hHeld;refine hK.out _ _ ⟨blk_alloc hHeld.1 _,blk_alloc hHeld.2.1 _,blk_alloc hHeld.2.2.1 _,Kd.C_below hHeld.2.2.2 (below_alloc (Below.refl _ _) _)⟩ (fun hHeld=> ?_);clear hK K;refine norm_ (a':= ?_) ?_ ?_;rotate_left
    ·show Act.put _ (some 30) _=_
     simp only [Act.put,sA,sZ,sS,i64_w];rfl
    refine on9 (i:=9) (N:=some 31) rfl rfl (by kernel_rfl) (by decide) (fun K hK=> ?_);refine Kd.R_append_step kCell (w0:=w) w.heap.size (by rfl) (.tmp 23) (.tmp 30) 23 53 (.agg #[.int .i64 0,.int .i64 0,.int .i64 0]) 24 rfl Try.underlying23 info_cell rfl (by decide) (by decide) (.slice A lk cA) ((p.cells.take k).map fun n=>(⟨n,0,-1⟩:Cell)) (⟨nk,0,-1⟩:Cell) [.int .i64 nk,.int .i64 0,.int .i64 (-1)] (fun _=>True) (fun _=>False) rfl rfl (kCell_mkM (⟨nk,0,-1⟩:Cell)) (fun _ hk=>hk.elim) (fun _ _=>trivial) VC7.out HB7.out HB7.out.size (by rw [List.length_map,List.length_take];omega) ?_;intro v1 w6 hv1 hb6 hg6 hat6;have hgp:some gp ≠ (Value.slice A lk cA).ownBlock:=fun he=>Kd.R_ne VC7.out hHeld0.1 (by decide) he
    have hgr:some gr ≠ (Value.slice A lk cA).ownBlock:=fun he=>Kd.R_ne VC7.out hHeld0.2.1 (by decide) he
    have hgs:some gs ≠ (Value.slice A lk cA).ownBlock:=fun he=>Kd.R_ne VC7.out hHeld0.2.2.1 (by decide) he
    refine hK.out _ _ ⟨blk_grown hHeld0.1 hg6 hgp,blk_grown hHeld0.2.1 hg6 hgr,blk_grown hHeld0.2.2.1 hg6 hgs,Kd.C_below HCL.out hb6⟩ (fun hHeld=> ?_);clear hK K;refine norm_ (a':= ?_) ?_ ?_;rotate_left
    ·show Act.put _ (some 31) _=_
     simp only [Act.put,sA,sZ,sS,i64_w];rfl
    have VT6:=am (R_other VT7.out VC7.out (by decide) hg6);have VL6:=am (R_other VL7.out VC7.out (by decide) hg6);have V:=am hv1;have HB6:=am hb6;have BP:=am hHeld.1;have BR:=am hHeld.2.1;have BS:=am hHeld.2.2.1;clear hHeld hHeld0 hv1 hb6 hg6 hat6 hgp hgr hgs VC7 VT7 VL7 HB7;have BSc:=zc8 BS.out;refine tail_ (fuel:=2) 10 (by kernel_rfl) ?_;simp only [List.drop_succ_cons,List.drop_zero]
    go_wp2_with (first
    |((with_reducible refine gate_store (t:=23) (p:=32) rfl ?_);refine set_ev (u:=v1) rfl rfl _ _ rfl (g:=gs) (off:=0) rfl rfl (R_cells V.out) (R_oneCell V.out) (by kernel_rfl) ⟨⟨_,by rw [zc8 BS.out];rfl⟩,blk_frozen BS.out _⟩ ?_;intro wz hwn;have BSz:=am (show wz.heap[gs]? = some (.cells #[v1,.slice a1 1 c1,.int .i64 0,.slice a3 0 c3] 27 (0,0)) by rw [hwn];exact blk_set BS.out 0 v1);have BPz:=am (show wz.heap[gp]? = some (.cells #[.slice (some adc) p.cells.length cc,.slice Ab p.bodies.length cb] 48 (0,0)) by rw [hwn];exact blk_far (p:=⟨gs,0,none⟩) BP.out (blk_ne BP.out BS.out (by decide)) v1);have BRz:=am (show wz.heap[gr]? = some (.cells #[.slice none 0 0,.slice none 0 0,.int .i64 0,.slice none 0 0] 27 (0,0)) by rw [hwn];exact blk_far (p:=⟨gs,0,none⟩) BR.out NRS.out v1);have VCz:=am (show kCell.R 53 wz w.heap.size (fun _=>True) v1 _ by rw [hwn];exact R_set V.out BS.out (by decide) 0 v1);have VTz:=am (show kTask.R 38 wz w.heap.size (fun _=>True) (.slice a1 1 c1) [newTask 0 (-1)] by rw [hwn];exact R_set VT6.out BS.out (by decide) 0 v1);have VLz:=am (show kEntry.R 119 wz w.heap.size (fun _=>True) (.slice a3 0 c3) [] by rw [hwn];exact R_set VL6.out BS.out (by decide) 0 v1);have HBz:=am (show Below w.heap.size w wz by rw [hwn];exact below_set HB6.out LS.out);clear hwn V VT6 VL6 BP BR BS HB6 BSc))
    go_roundw
    case rel=>exact ⟨k+1,by omega,by go_num,v1,⟨by rw [take_map_next _ _ hlt,<-rd_get hlt,<-NK.out];exact VCz.out⟩,VTz,VLz,BPz,BRz,BSz,HBz⟩
    case measure=>simp [intOf];omega
   ·obtain rfl:k=p.cells.length:=by omega
    have q1:¬ (p.cells.length:Int) < (p.cells.length:Int):=by omega
    go_wp2_with (first
    |((with_reducible refine gate_dst (N:=33) rfl ?_);refine wpList_load_mid rfl 27 (.tmp 4) rfl gs 0 rfl _ _ (lC BS.out) Try.underlying27 rfl (by kernel_rfl) ?_)
    |((with_reducible refine gate_store (t:=27) (p:=2) rfl ?_);refine store_block rfl rfl 27 (.tmp 2) (.tmp 33) rfl rfl rfl BR.out rfl (by kernel_rfl) (aB rfl) ?_;intro wz hbox hg;have BZ:=am hbox;have HG:=am hg;have HBz:=am (pw_below_grown HB.out _ HB.out.size hg (fun z hz=>by cases hz;exact LR.out));clear hbox hg))
    have VCz:=am (R_grownT VC.out BR.out (by decide) HG.out);have VTz:=am (R_grownT VT.out BR.out (by decide) HG.out);have VLz:=am (R_grownT VL.out BR.out (by decide) HG.out);have hc:(p.cells.take p.cells.length).map (fun n=>(⟨n,0,-1⟩:Cell))=(sysNew p).cells:=by rw [List.take_length];rfl
    have hl:lk=(sysNew p).cells.length:=by rw [<-hc];exact LK.out
    rw [hc] at VCz;rw [hl] at VCz BZ;refine bodyPost_ret (results_ct Try.results117 _ wz gr 27 #[.slice A (sysNew p).cells.length cA,.slice a1 1 c1,.int .i64 0,.slice a3 0 c3] (0,0) _ rfl BZ.out Try.underlying27 rfl (by kernel_rfl)) rfl ⟨_,_,_,rfl,HBz.out, ?_⟩;refine ⟨fun _=> ?_,fun h=>by cases h⟩;exact ⟨VCz.out,VTz.out,VLz.out⟩
section
variable {P:Program} {ops:Array Oper} {Q:Exit->Go.Act->World->Prop} {md:Region.Mode} {S:World->Prop} {ds:List Nat}
theorem dead_store {i j fuel:Nat} {N:Option Tmp} {oi oj:Oper} {l:Array Bool} {a:Go.Act} {w w1:World} {v:Value} {a':Go.Act} (hi:ops[i]? = some oi) (hj:ops[j]? = some oj) (hNi:oi.dst=N)
  (hc:(Region.ready md ops l == [i,j] && Region.ready md ops (l.setIfInBounds i true) == [j] && Region.ready md ops (l.setIfInBounds j true) == [i] && Region.ready md ops ((l.setIfInBounds i true).setIfInBounds j true) == [] && Region.ready md ops ((l.setIfInBounds j true).setIfInBounds i true) == [])=true) (hdj:j ∈ ds)
  (hwi:∀ x,Region.wanted oi x=true) (hwj:∀ x,Region.wanted oj x=true) (hri:∀ W,(execOp a.eval oi).run P W= .ok (.value v) W) (ha:a.put N v=a')
  (hj1:∀ K:Go.Act->World->Prop,K a w1->Oper.wp P oj a w K Q) (hj2:∀ K:Go.Act->World->Prop,K a' w1->Oper.wp P oj a' w K Q)
  (h:Q .normal a' w1):wpAnyLast P md ops Q S ds (fuel+1+1) l a w:=by
 subst ha;simp only [Bool.and_eq_true,beq_iff_eq] at hc;obtain ⟨⟨⟨⟨h1,h2⟩,h3⟩,h4⟩,h5⟩:=hc
 have same:∀ {fuel:Nat} {l:Array Bool} {a:Go.Act} {w:World},(∀ W,(execOp a.eval oi).run P W= .ok (.value v) W)->wpAnyLast P md ops Q S ds fuel (l.setIfInBounds i true) (a.put N v) w->wpOp P ops Q i (fun a' w'=>(i ∉ ds->S w->S w')/\wpAnyLast P md ops Q S ds fuel (l.setIfInBounds i true) a' w') a w:=by
  intro fuel l a w hr hn;refine wpOp_step hi (fun K' hK=> ?_);rw [hNi];exact value_ (hwi _) hNi (hr w) (hK _ _ ⟨fun _ h=>h,hn⟩)
 refine wpAnyLast_ready h1 (by simp) (fun q hq=> ?_);rcases List.mem_cons.1 hq with rfl | hq
 ·refine same hri ?_
  refine wpAnyLast_ready h2 (by simp) (AllReadyL.cons_last hj hdj (fun K2 hK2=> ?_) AllReadyL.nil);rw [if_pos (hwj _)];exact hj2 _ (hK2.out _ _ (wpAnyLast_done h4 h fuel))
 ·refine AllReadyL.cons_last hj hdj (fun K' hK=> ?_) AllReadyL.nil q hq
  rw [if_pos (hwj _)];refine hj1 _ (hK.out _ _ ?_);refine wpAnyLast_ready h3 (by simp) (fun q2 hq2=> ?_);rw [List.mem_singleton.1 hq2];exact same hri (wpAnyLast_done h5 h fuel)
end
theorem setCells_blk {W:World} {g:Nat} {c0:Array Value} {e:TypeId} {cs:List Value} (hb:W.heap[g]? = some (.cells c0 e (0,0))) (hl:cs.length=c0.size):(W.setCells g 0 cs).heap[g]? = some (.cells cs.toArray e (0,0))/\W.grownBy (W.setCells g 0 cs) (some g):=by
 obtain ⟨cur,hc,hsz,hcur⟩:=setCells_row cs 0 W c0 hb (by omega);obtain ⟨s1,s2,s3,s4⟩:=setCells_same g cs 0 W
 have e1:cur=cs.toArray:=by
  apply Array.toList_inj.1;rw [hcur,List.take_zero,List.nil_append,List.drop_eq_nil_of_le (by simp;omega),List.append_nil]
 subst e1;exact ⟨hc,⟨s1,s2,s3,by rw [s4];exact Nat.le_refl _,fun i hi hne=>setCells_far cs 0 i (fun he=>hne (by rw [he]))⟩⟩
theorem store_wp {P:Program} {op:Oper} {a:Go.Act} {W:World} {K:Go.Act->World->Prop} {Q:Exit->Go.Act->World->Prop} (hN:op.dst=none) (t:TypeId) (p x:Operand) (ho:op.op= .store t p x) {g:Nat} {c0:Array Value} {e:TypeId} {cs:List Value}
  (hp:a.eval p= .pointer (some ⟨g,0,none⟩)) (hx:a.eval x= .agg cs.toArray) (hb:W.heap[g]? = some (.cells c0 e (0,0))) (hl:cs.length=c0.size) (hi:(P.info? t).map (·.size)=some cs.length) (h1:∀ v ∈ cs,v.oneCell'=true)
  (h:K a (W.setCells g 0 cs)):Oper.wp P op a W K Q:=by
 refine wp_store_mid t p x ho g 0 cs.toArray hp hx (fun j hj=> ?_) (by simpa using hi) (all_oneCell_toArray h1) ?_
 ·rw [Nat.zero_add,zc8 hb j,blk_frozen hb j]
  simp at hj;simp [Array.getElem?_eq_getElem (show j < c0.size by omega)]
 ·rw [hN]
  exact h
def RunPost (p:Prog) (s:Sys) (ks:List Int) (w:World) (e:Ending) (w':World):Prop:=∃ (ss:List Value) (b:Bool),e= .returned (.tuple #[.agg ss.toArray,.bool b])/\Below w.heap.size w w'/\b=(sysOk p s && decide (ks.length<=300))/\(b=true->∃ own vc vt vl,ss= [vc,vt,.int .i64 (turns p s ks).clock,vl]/\Sy w.heap.size own (turns p s ks) vc vt vl w')/\(b=false->kSys.K w' zSys ss)
theorem SysSz.logIn {s:Sys} (h:SysSz s):∀ e ∈ s.log,e.reads.length<=1048576/\e.puts.length<=1048576:=by
 intro e he;obtain ⟨i,hi,rfl⟩:=List.mem_iff_getElem.1 he;have:=h.logs i hi;rwa [show entryAt s.log i=s.log[i] by simp [entryAt,List.getD_eq_getElem?_getD,List.getElem?_eq_getElem hi]] at this
theorem sysRun_calls (p:Prog) (ps:List Value) (s:Sys) (ss:List Value) (ks:List Int) (Ak:Option Addr) (ck:Nat) (w:World) (hp:kProg.K w p ps) (hs:kSys.K w s ss) (hz:ProgSz p) (hsz:SysSz s) (hN:s.log.length+s.tasks.length<=1000000) (hk:(Kd.int .i64).C w Ak ks.length ks):
  Calls Try.prog 55 #[.agg ps.toArray,.agg ss.toArray,.slice Ak ks.length ck] w fun e w'=>RunPost p s ks w e w':=by
 have HPK:=am hp;have HSK:=am hs;have HPZ:=am hz;have HSZ:=am hsz;have LOG:=am hsz.logIn;have HK:=am hk;obtain ⟨Ac,cc,Ab,cb,rfl,-⟩:=kProg_open hp;obtain ⟨A0,c0,A1,c1,A3,c3,rfl,-⟩:=kSys_open hs;obtain ⟨bSO,hbSO⟩:∃ x,sysOk p s=x:=⟨_,rfl⟩;have SO:=am hbSO;clear hp hs hz hsz hk hbSO;go_enter Try.func55,Try.ntmps55
 cases bSO with
 | false=>
  go_wp2_with (first
  |((with_reducible refine gate_dst (N:=3) rfl ?_);refine box_event rfl (N:=3) rfl (t:=48) (by go_simp<;>rfl) ?_;intro gp hg w3 hbox hb;have BP:=am hbox;clear hbox hg;have HB2:=am hb;clear hb;have HB:=HB2;clear HB2;have BPc:=zc8 BP.out)
  |((with_reducible refine gate_dst (N:=4) rfl ?_);refine box_event rfl (N:=4) rfl (t:=27) (by go_simp<;>rfl) ?_;intro gs hg w4 hbox hb;have BS:=am hbox;have LS:=am (show w.heap.size<=gs from Nat.le_trans HB.out.size (Nat.le_of_eq hg.symm));clear hbox hg;replace BP:=am (zb8 BP.out hb);replace HB:=am (below_step HB.out hb);clear hb BPc;have BPc:=zc8 BP.out;have BSc:=zc8 BS.out)
  |((with_reducible refine gate_dst (N:=6) rfl ?_);refine box_event rfl (N:=6) rfl (t:=27) (by go_simp<;>rfl) ?_;intro gr hg w6 hbox hb;have BR:=am hbox;have LR:=am (show w.heap.size<=gr from Nat.le_trans HB.out.size (Nat.le_of_eq hg.symm));have NRS:=am (show gs ≠ gr from fun he=>by have:=blk_lt BS.out;rw [<-he] at hg;omega);clear hbox hg;replace BP:=am (zb8 BP.out hb);replace BS:=am (zb8 BS.out hb);replace HB:=am (below_step HB.out hb);clear hb BPc BSc;have BPc:=zc8 BP.out;have BSc:=zc8 BS.out;have BRc:=zc8 BR.out)
  |((with_reducible refine gate_dst (N:=9) rfl ?_);refine wpList_load_mid rfl 48 (.tmp 3) rfl gp 0 rfl _ _ (lC BP.out) Try.underlying48 rfl (by kernel_rfl) ?_)
  |((with_reducible refine gate_dst (N:=10) rfl ?_);refine wpList_load_mid rfl 27 (.tmp 4) rfl gs 0 rfl _ _ (lC BS.out) Try.underlying27 rfl (by kernel_rfl) ?_)
  |(go_at_call 34;refine (sysOk_calls p _ s _ _ (kProg.K_below HB.out HPK.out) (kSys.K_below HB.out HSK.out) HPZ.out HSZ.out).mono ?_;rw [SO.out];rintro e w9 ⟨rfl,hb⟩;replace BP:=am (zb8 BP.out hb);replace BS:=am (zb8 BS.out hb);replace BR:=am (zb8 BR.out hb);replace HB:=am (below_step HB.out hb);clear hb BPc BSc BRc;have BPc:=zc8 BP.out;have BSc:=zc8 BS.out;have BRc:=zc8 BR.out)
  |((with_reducible refine gate_store (t:=27) (p:=6) rfl ?_);refine store_block rfl rfl 27 (.tmp 6) (.tmp 18) rfl rfl rfl BR.out rfl (by kernel_rfl) (aB rfl) ?_;intro wz hbox hg;have BZ:=am hbox;have HG:=am hg;have HBz:=am (pw_below_grown HB.out _ HB.out.size hg (fun z hz=>by cases hz;exact LR.out));clear hbox hg))
  exact bodyPost_ret (results_ct Try.results55 _ wz gr 27 #[.slice none 0 0,.slice none 0 0,.int .i64 0,.slice none 0 0] (0,0) _ rfl BZ.out Try.underlying27 rfl (by kernel_rfl)) rfl ⟨_,false,rfl,HBz.out,by rw [SO.out];rfl,(fun h=>by cases h),fun _=>kSys_mk zSys (Nat.zero_le _) (C_nil _ _) (Nat.zero_le _) (C_nil _ _) (Nat.zero_le _) (C_nil _ _)⟩
 | true=>
  by_cases hle:ks.length<=300
  ·have yG:decide ((300:Int) < (ks.length:Int))=false:=decide_eq_false (by omega)
   have nG:¬ (300:Int) < (ks.length:Int):=by omega
   have HN:Aside0 (s.log.length+s.tasks.length+2*ks.length<=1048576):=⟨by omega⟩
   go_wp2_with (first
   |((with_reducible refine gate_dst (N:=3) rfl ?_);refine box_event rfl (N:=3) rfl (t:=48) (by go_simp<;>rfl) ?_;intro gp hg w3 hbox hb;have BP:=am hbox;clear hbox hg;have HB2:=am hb;clear hb;have HB:=HB2;clear HB2;have BPc:=zc8 BP.out)
   |((with_reducible refine gate_dst (N:=4) rfl ?_);refine box_event rfl (N:=4) rfl (t:=27) (by go_simp<;>rfl) ?_;intro gs hg w4 hbox hb;have BS:=am hbox;have LS:=am (show w.heap.size<=gs from Nat.le_trans HB.out.size (Nat.le_of_eq hg.symm));clear hbox hg;replace BP:=am (zb8 BP.out hb);replace HB:=am (below_step HB.out hb);clear hb BPc;have BPc:=zc8 BP.out;have BSc:=zc8 BS.out)
   |((with_reducible refine gate_dst (N:=6) rfl ?_);refine box_event rfl (N:=6) rfl (t:=27) (by go_simp<;>rfl) ?_;intro gr hg w6 hbox hb;have BR:=am hbox;have LR:=am (show w.heap.size<=gr from Nat.le_trans HB.out.size (Nat.le_of_eq hg.symm));have NRS:=am (show gs ≠ gr from fun he=>by have:=blk_lt BS.out;rw [<-he] at hg;omega);clear hbox hg;replace BP:=am (zb8 BP.out hb);replace BS:=am (zb8 BS.out hb);replace HB:=am (below_step HB.out hb);clear hb BPc BSc;have BPc:=zc8 BP.out;have BSc:=zc8 BS.out;have BRc:=zc8 BR.out)
   |((with_reducible refine gate_dst (N:=9) rfl ?_);refine wpList_load_mid rfl 48 (.tmp 3) rfl gp 0 rfl _ _ (lC BP.out) Try.underlying48 rfl (by kernel_rfl) ?_)
   |((with_reducible refine gate_dst (N:=10) rfl ?_);refine wpList_load_mid rfl 27 (.tmp 4) rfl gs 0 rfl _ _ (lC BS.out) Try.underlying27 rfl (by kernel_rfl) ?_)
   |(go_at_call 34;refine (sysOk_calls p _ s _ _ (kProg.K_below HB.out HPK.out) (kSys.K_below HB.out HSK.out) HPZ.out HSZ.out).mono ?_;rw [SO.out];rintro e w9 ⟨rfl,hb⟩;replace BP:=am (zb8 BP.out hb);replace BS:=am (zb8 BS.out hb);replace BR:=am (zb8 BR.out hb);replace HB:=am (below_step HB.out hb);clear hb BPc BSc BRc;have BPc:=zc8 BP.out;have BSc:=zc8 BS.out;have BRc:=zc8 BR.out)
   |((with_reducible refine gate_dst (N:=19) rfl ?_);refine wpList_load_mid rfl 27 (.tmp 4) rfl gs 0 rfl _ _ (lC BS.out) Try.underlying27 rfl (by kernel_rfl) ?_)
   |(go_at_call 87;refine (l11Copy_calls s [.slice A0 s.cells.length c0,.slice A1 s.tasks.length c1,.int .i64 s.clock,.slice A3 s.log.length c3] _ (kSys.K_below HB.out HSK.out) HSZ.out.tasks HSZ.out.cells HSZ.out.log HSZ.out.task LOG.out).mono ?_;rintro e wc ⟨own,vc,vt,vl,rfl,hsy,hb⟩;obtain ⟨Vc,kc,e1⟩:=Kd.R_slice hsy.cells;obtain ⟨Vt,kt,e2⟩:=Kd.R_slice hsy.tasks;obtain ⟨Vl,kl,e3⟩:=Kd.R_slice hsy.log;rw [zip_len] at e2;subst e1 e2 e3;have OS:=am (hsy.low gs (blk_lt BS.out));have OR:=am (hsy.low gr (blk_lt BR.out));have HS:=am (hsy.lower HB.out.size);clear hsy;replace BP:=am (zb8 BP.out hb);replace BS:=am (zb8 BS.out hb);replace BR:=am (zb8 BR.out hb);replace HB:=am (below_step HB.out hb);clear hb BPc BSc BRc;have BPc:=zc8 BP.out;have BSc:=zc8 BS.out;have BRc:=zc8 BR.out)
   |((with_reducible refine gate_store (t:=27) (p:=4) rfl ?_);refine store_block rfl rfl 27 (.tmp 4) (.tmp 20) rfl rfl rfl BS.out rfl (by kernel_rfl) (aB rfl) ?_;intro wn hbox hg;have BSn:=am hbox;replace HS:=am (HS.out.move hg.size (fun q hq hl=>hg.block q hl (fun he=>hq (by injection he with he;rw [he];exact OS.out))));replace BP:=am (blk_grown BP.out hg (fun he=>blk_ne BP.out BS.out (by decide) (by injection he)));replace BR:=am (blk_grown BR.out hg (fun he=>NRS.out (by injection he with he;exact he.symm)));replace HB:=am (pw_below_grown HB.out _ HB.out.size hg (fun z hz=>by cases hz;exact LS.out));clear hbox hg BS BPc BSc BRc;have BS:=BSn;clear BSn;have BPc:=zc8 BP.out;have BSc:=zc8 BS.out;have BRc:=zc8 BR.out))
   clear BPc BSc BRc;go_loopw [8] (fun j w'=>∃ k:Nat,k<=ks.length/\j= .int .i64 k/\∃ own vc vt vl,Aside0 (Sy w.heap.size own (turns p s (ks.take k)) vc vt vl w')/\Aside0 (own gs=0)/\Aside0 (own gr=0)/\Aside0 (w'.heap[gp]? = some (.cells #[.slice Ac p.cells.length cc,.slice Ab p.bodies.length cb] 48 (0,0)))/\Aside0 (w'.heap[gr]? = some (.cells #[.slice none 0 0,.slice none 0 0,.int .i64 0,.slice none 0 0] 27 (0,0)))/\Aside0 (w'.heap[gs]? = some (.cells #[vc,vt,.int .i64 (turns p s (ks.take k)).clock,vl] 27 (0,0)))/\Aside0 (Below w.heap.size w w')) (fun j _=>ks.length - (intOf j).toNat)
   case atStart=>exact ⟨0,Nat.zero_le _,rfl,own,_,_,_,HS,OS,OR,BP,BR,BS,HB⟩
   case round=>
    clear HS OS OR BP BR BS HB;clear own;obtain ⟨k,hk,rfl,own,vc,vt,vl,HS,OS,OR,BP,BR,BS,HB⟩:=hrel;have hinv:Inv p (turns p s (ks.take k)) (s.log.length+s.tasks.length+2*(ks.take k).length):=(Inv.ofOk SO.out).turns _;obtain ⟨sk,hsk⟩:∃ x,x=(turns p s (ks.take k)):=⟨_,rfl⟩;rw [<-hsk] at HS BS hinv;have HSKK:=am hsk;have HINV:=am hinv;clear hsk hinv;obtain ⟨Vc,kc,e1⟩:=Kd.R_slice HS.out.cells;obtain ⟨Vt,kt,e2⟩:=Kd.R_slice HS.out.tasks;obtain ⟨Vl,kl,e3⟩:=Kd.R_slice HS.out.log;rw [zip_len] at e2;subst e1 e2 e3;have BPc:=zc8 BP.out;have BSc:=zc8 BS.out;have BRc:=zc8 BR.out;by_cases hlt:k < ks.length
    ·have q0:(0:Int)<=(k:Int):=by omega
     have q1:(k:Int) < (ks.length:Int):=by omega
     obtain ⟨tk0,htk0⟩:∃ x,x=rd ks (k:Int):=⟨_,rfl⟩;have TKX:=am htk0;clear htk0;obtain ⟨adc,hac,-⟩:=Kd.at_int HK.out (k:Int) q0 q1;cases hac;go_wp2;refine st9 (n:=11) (S:=fun W=>W.heap[gp]? = some (.cells #[.slice Ac p.cells.length cc,.slice Ab p.bodies.length cb] 48 (0,0))/\W.heap[gr]? = some (.cells #[.slice none 0 0,.slice none 0 0,.int .i64 0,.slice none 0 0] 27 (0,0))/\W.heap[gs]? = some (.cells #[.slice Vc sk.cells.length kc,.slice Vt sk.tasks.length kt,.int .i64 sk.clock,.slice Vl sk.log.length kl] 27 (0,0))/\(Kd.int .i64).C W (some adc) ks.length ks) (ds:= [10]) (by kernel_rfl) rfl ⟨blk_drew BP.out,blk_drew BR.out,blk_drew BS.out,Kd.C_below (Kd.C_below HK.out HB.out) (below_drew (Below.refl _ _))⟩ (fun hHeld=> ?_);have hb:=below_drew (Below.refl wr.heap.size wr);generalize wr.drew=w7 at hb hHeld ⊢;have HB7:=am (below_step HB.out hb);have HS7:=am (HS.out.grow hb);clear hb HB BP BR BS BPc BRc BSc HS;refine ba9 (fuel:=5) (n:=6) [0,1,2,3,4,5] (by kernel_rfl) (fun N _ _ _ _ h=>by cases N <;> exact h) hHeld ?_
     iterate 6 (
      refine stillS_step (v:= ?_) (a':= ?_) rfl (Or.inl ⟨by rfl, ?_⟩) ?_ ?_;rotate_left
      ·rintro W ⟨s0,s1,s2,s3⟩
       have t0:=zc8 s0;have t2:=zc8 s2;obtain ⟨ad1,hh,gx⟩:=Kd.at_int s3 (k:Int) q0 q1;cases hh;simp only [Int.toNat_natCast] at gx;rw [<-TKX.out] at gx;clear s0 s1 s2 s3;go_simp;with_reducible rfl
      rotate_left
      ·simp only [Act.put,sA,sZ,sS,i64_w]
       rfl)
     refine stillS_nil ?_;refine on9 (i:=6) (N:=some 34) rfl rfl (by kernel_rfl) (by decide) (fun K hK=> ?_);refine goes_ Try.func88 (by kernel_rfl) rfl #[.agg #[.slice Ac p.cells.length cc,.slice Ab p.bodies.length cb],.agg #[.slice Vc sk.cells.length kc,.slice Vt sk.tasks.length kt,.int .i64 sk.clock,.slice Vl sk.log.length kl],.int .i64 tk0] (by rfl) rfl rfl (by (try simp only [List.map_toArray,List.map_cons,List.map_nil]);first | done | rfl) ?_;refine (l11Do_calls p sk _ [.slice Vc sk.cells.length kc,.slice Vt sk.tasks.length kt,.int .i64 sk.clock,.slice Vl sk.log.length kl] tk0 _ (kProg.K_below HB7.out HPK.out) HS7.out.read HINV.out (by have:=HN.out;rw [List.length_take];omega)).mono ?_;rintro e wn ⟨cs2,rfl,hb,hor⟩;obtain ⟨sn,hsn⟩:∃ x,x=turns p s (ks.take (k+1)):=⟨_,rfl⟩;have hstep:sn=turn p sk tk0:=by rw [hsn,turns_next p s ks hlt,<-HSKK.out,TKX.out];rfl
     have hnx:∃ own2 vc2 vt2 vl2,cs2= [vc2,vt2,.int .i64 sn.clock,vl2]/\Sy w.heap.size own2 sn vc2 vt2 vl2 wn/\own2 gs=0/\own2 gr=0:=by
      rcases hor with ⟨h1,h2⟩ | ⟨h1,own2,vc2,vt2,vl2,h2,h3⟩
      ·have he:sn=sk:=by rw [hstep];unfold turn;rw [h1];rfl
       subst he;exact ⟨own,_,_,_,h2,HS7.out.grow hb,OS.out,OR.out⟩
      ·have he:sn=step p sk tk0.toNat:=by rw [hstep];unfold turn;rw [h1];rfl
       rw [<-he] at h2 h3;exact ⟨own2,vc2,vt2,vl2,h2,h3.lower HB7.out.size,h3.low gs (blk_lt hHeld.2.2.1),h3.low gr (blk_lt hHeld.2.1)⟩
     obtain ⟨own2,vc2,vt2,vl2,rfl,hsy2,ho2,hr2⟩:=hnx;clear hor;obtain ⟨Uc,uc,e1⟩:=Kd.R_slice hsy2.cells;obtain ⟨Ut,ut,e2⟩:=Kd.R_slice hsy2.tasks;obtain ⟨Ul,ul,e3⟩:=Kd.R_slice hsy2.log;rw [zip_len] at e2;subst e1 e2 e3;have HSN:=am hsn;have HS2:=am hsy2;have OS2:=am ho2;have OR2:=am hr2;clear hsy2 ho2 hr2 hstep hsn;refine ⟨_,rfl, ?_⟩;refine hK.out _ _ ⟨zb8 hHeld.1 hb,zb8 hHeld.2.1 hb,zb8 hHeld.2.2.1 hb,Kd.C_below hHeld.2.2.2 hb⟩ (fun hHeld=> ?_);clear hK K;have HB9:=am (below_step HB7.out hb);clear hb HS7 HB7;refine norm_ (a':= ?_) ?_ ?_;rotate_left
     ·show Act.put _ (some 34) _=_
      simp only [Act.put,sA,sZ,sS,i64_w];rfl
     refine ba9 (fuel:=2) (n:=2) [7,8] (by kernel_rfl) (fun N _ _ _ _ h=>by cases N <;> exact h) hHeld ?_
     iterate 2 (
      refine stillS_step (v:= ?_) (a':= ?_) rfl (Or.inl ⟨by rfl, ?_⟩) ?_ ?_;rotate_left
      ·intro W hW
       go_simp
       with_reducible rfl
      rotate_left
      ·simp only [Act.put,sA,sZ,sS,i64_w]
       rfl)
     refine stillS_nil ?_;have BSo:=am hHeld.2.2.1;obtain ⟨hblk,hgr⟩:=setCells_blk (cs:= [.slice Uc sn.cells.length uc,.slice Ut sn.tasks.length ut,.int .i64 sn.clock,.slice Ul sn.log.length ul]) BSo.out rfl;refine dead_store (i:=9) (j:=10) (N:=some 36) (fuel:=0) (a':= ?a2) (v:=.bool (canDo sk tk0)) (w1:=wn.setCells gs 0 [.slice Uc sn.cells.length uc,.slice Ut sn.tasks.length ut,.int .i64 sn.clock,.slice Ul sn.log.length ul]) rfl rfl rfl (by kernel_rfl) (by decide) (fun _=>rfl) (fun _=>rfl) (by intro W;first|(go_simp;done)|(go_simp;rfl)) ?ha ?hj1 ?hj2 ?h
     case ha=>
      simp only [Act.put,sA,sZ,sS,i64_w];rfl
     case hj1=>exact fun K hK=>store_wp rfl 27 (.tmp 4) (.tmp 35) rfl rfl rfl BSo.out rfl (by kernel_rfl) (aB rfl) hK
     case hj2=>exact fun K hK=>store_wp rfl 27 (.tmp 4) (.tmp 35) rfl rfl rfl BSo.out rfl (by kernel_rfl) (aB rfl) hK
     case h=>
      have BPn:=am (blk_grown hHeld.1 hgr (fun he=>blk_ne hHeld.1 BSo.out (by decide) (by injection he)));have BRn:=am (blk_grown hHeld.2.1 hgr (fun he=>NRS.out (by injection he with he;exact he.symm)));have HSn:=am (HS2.out.move hgr.size (fun q hq hl=>hgr.block q hl (fun he=>hq (by injection he with he;rw [he];exact OS2.out))));have HBn:=am (pw_below_grown HB9.out _ HB9.out.size hgr (fun z hz=>by cases hz;exact LS.out));have BSn:=am hblk;generalize wn.setCells gs 0 [.slice Uc sn.cells.length uc,.slice Ut sn.tasks.length ut,.int .i64 sn.clock,.slice Ul sn.log.length ul]=wz at BPn BRn HSn HBn BSn ⊢;clear hHeld HB9 HS2 hblk hgr BSo OS OR;have BP:=BPn;have BR:=BRn;have BS:=BSn;have HS:=HSn;have HB:=HBn;have OS:=OS2;have OR:=OR2;clear BPn BRn BSn HSn HBn OS2 OR2;go_wp2;go_roundw
      case rel=>exact ⟨k+1,by omega,by go_num,own2,_,_,_,⟨by rw [<-HSN.out];exact HS.out⟩,OS,OR,BP,BR,⟨by rw [<-HSN.out];exact BS.out⟩,HB⟩
      case measure=>simp [intOf];omega
    ·obtain rfl:k=ks.length:=by omega
     have q1:¬ (ks.length:Int) < (ks.length:Int):=by omega
     go_wp2_with (first
     |((with_reducible refine gate_dst (N:=37) rfl ?_);refine wpList_load_mid rfl 27 (.tmp 4) rfl gs 0 rfl _ _ (lC BS.out) Try.underlying27 rfl (by kernel_rfl) ?_)
     |((with_reducible refine gate_store (t:=27) (p:=6) rfl ?_);refine store_block rfl rfl 27 (.tmp 6) (.tmp 37) rfl rfl rfl BR.out rfl (by kernel_rfl) (aB rfl) ?_;intro wz hbox hg;have BZ:=am hbox;have HG:=am hg;have HBz:=am (pw_below_grown HB.out _ HB.out.size hg (fun z hz=>by cases hz;exact LR.out));clear hbox hg))
     have hfin:sk=turns p s ks:=by rw [HSKK.out,List.take_length]
     have HSz:=HS.out.move HG.out.size (fun q hq hl=>HG.out.block q hl (fun he=>hq (by injection he with he;rw [he];exact OR.out)));rw [hfin] at HSz;rw [hfin] at BZ;exact bodyPost_ret (results_ct Try.results55 _ wz gr 27 #[.slice Vc (turns p s ks).cells.length kc,.slice Vt (turns p s ks).tasks.length kt,.int .i64 (turns p s ks).clock,.slice Vl (turns p s ks).log.length kl] (0,0) _ rfl BZ.out Try.underlying27 rfl (by kernel_rfl)) rfl ⟨_,true,rfl,HBz.out,by rw [SO.out,decide_eq_true hle];rfl,(fun _=>⟨own,_,_,_,rfl,HSz⟩),fun h=>by cases h⟩
  ·have yG:decide ((300:Int) < (ks.length:Int))=true:=decide_eq_true (by omega)
   have nG:(300:Int) < (ks.length:Int):=by omega
   go_wp2_with (first
   |((with_reducible refine gate_dst (N:=3) rfl ?_);refine box_event rfl (N:=3) rfl (t:=48) (by go_simp<;>rfl) ?_;intro gp hg w3 hbox hb;have BP:=am hbox;clear hbox hg;have HB2:=am hb;clear hb;have HB:=HB2;clear HB2;have BPc:=zc8 BP.out)
   |((with_reducible refine gate_dst (N:=4) rfl ?_);refine box_event rfl (N:=4) rfl (t:=27) (by go_simp<;>rfl) ?_;intro gs hg w4 hbox hb;have BS:=am hbox;have LS:=am (show w.heap.size<=gs from Nat.le_trans HB.out.size (Nat.le_of_eq hg.symm));clear hbox hg;replace BP:=am (zb8 BP.out hb);replace HB:=am (below_step HB.out hb);clear hb BPc;have BPc:=zc8 BP.out;have BSc:=zc8 BS.out)
   |((with_reducible refine gate_dst (N:=6) rfl ?_);refine box_event rfl (N:=6) rfl (t:=27) (by go_simp<;>rfl) ?_;intro gr hg w6 hbox hb;have BR:=am hbox;have LR:=am (show w.heap.size<=gr from Nat.le_trans HB.out.size (Nat.le_of_eq hg.symm));have NRS:=am (show gs ≠ gr from fun he=>by have:=blk_lt BS.out;rw [<-he] at hg;omega);clear hbox hg;replace BP:=am (zb8 BP.out hb);replace BS:=am (zb8 BS.out hb);replace HB:=am (below_step HB.out hb);clear hb BPc BSc;have BPc:=zc8 BP.out;have BSc:=zc8 BS.out;have BRc:=zc8 BR.out)
   |((with_reducible refine gate_dst (N:=9) rfl ?_);refine wpList_load_mid rfl 48 (.tmp 3) rfl gp 0 rfl _ _ (lC BP.out) Try.underlying48 rfl (by kernel_rfl) ?_)
   |((with_reducible refine gate_dst (N:=10) rfl ?_);refine wpList_load_mid rfl 27 (.tmp 4) rfl gs 0 rfl _ _ (lC BS.out) Try.underlying27 rfl (by kernel_rfl) ?_)
   |(go_at_call 34;refine (sysOk_calls p _ s _ _ (kProg.K_below HB.out HPK.out) (kSys.K_below HB.out HSK.out) HPZ.out HSZ.out).mono ?_;rw [SO.out];rintro e w9 ⟨rfl,hb⟩;replace BP:=am (zb8 BP.out hb);replace BS:=am (zb8 BS.out hb);replace BR:=am (zb8 BR.out hb);replace HB:=am (below_step HB.out hb);clear hb BPc BSc BRc;have BPc:=zc8 BP.out;have BSc:=zc8 BS.out;have BRc:=zc8 BR.out)
   |((with_reducible refine gate_store (t:=27) (p:=6) rfl ?_);refine store_block rfl rfl 27 (.tmp 6) (.tmp 18) rfl rfl rfl BR.out rfl (by kernel_rfl) (aB rfl) ?_;intro wz hbox hg;have BZ:=am hbox;have HG:=am hg;have HBz:=am (pw_below_grown HB.out _ HB.out.size hg (fun z hz=>by cases hz;exact LR.out));clear hbox hg))
   exact bodyPost_ret (results_ct Try.results55 _ wz gr 27 #[.slice none 0 0,.slice none 0 0,.int .i64 0,.slice none 0 0] (0,0) _ rfl BZ.out Try.underlying27 rfl (by kernel_rfl)) rfl ⟨_,false,rfl,HBz.out,by rw [decide_eq_false hle,Bool.and_false],(fun h=>by cases h),fun _=>kSys_mk zSys (Nat.zero_le _) (C_nil _ _) (Nat.zero_le _) (C_nil _ _) (Nat.zero_le _) (C_nil _ _)⟩
end Go.Proofs.Ytimamoimphjakaa.Eq
namespace Go.Proofs.Ytimamoimphjakaa.Rd
open Go.RowKit Go.Proofs.YtimamoimphjakaaW.PrintWords
open Go.Proofs.Ytimamoimphjakaa.Eq (Deed kDeed kAct)
def IsS101 (w0 W:World) (g:Nat) (b:List Int) (q:Int):Prop:=∃ A0 c0,W.heap[g]? = some (.cells #[.slice A0 b.length c0,.int .i64 q] 101 (0,0))/\w0.heap.size<=g/\(Kd.int .u8).C w0 A0 b.length b
section
variable {w0 W W1:World} {g:Nat} {b:List Int} {q:Int}
theorem IsS101.grown {row:Option Nat} (h:IsS101 w0 W g b q) (hw:W.grownBy W1 row) (hne:some g ≠ row):IsS101 w0 W1 g b q:=by
 obtain ⟨A0,c0,h1,h2,h3⟩:=h;exact ⟨A0,c0,blk_grown h1 hw hne,h2,h3⟩
theorem IsS101.lt (h:IsS101 w0 W g b q):g < W.heap.size:=by
 obtain ⟨A0,c0,h1,h2,h3⟩:=h;exact blk_lt h1
theorem IsS101.ge (h:IsS101 w0 W g b q):w0.heap.size<=g:=by
 obtain ⟨A0,c0,h1,h2,h3⟩:=h;exact h2
theorem IsS101.ne_blk {a:Nat} {cs:Array Value} {t:TypeId} {fr:Nat × Nat} (h:IsS101 w0 W g b q) (hb2:W.heap[a]? = some (.cells cs t fr)) (ht:t ≠ 101):g ≠ a:=by
 obtain ⟨A0,c0,h1,h2,h3⟩:=h;rintro rfl;rw [h1] at hb2;injection hb2 with hb2;injection hb2 with _ ht2;exact ht ht2.symm
end
structure Code (b:List Int):Prop where
 byte:∀ i:Nat,0<=b.getD i 0/\b.getD i 0<=255
 len:b.length<=2000
theorem wrap_in {x:Int} (h0:0<=x) (h1:x<=1099511627776):wrap64 x=x:=by unfold wrap64;omega
theorem xor_nat (a b:Nat) (ha:a < 2 ^ 63) (hb:b < 2 ^ 63):Go.bits .xor .i64 (a:Int) (b:Int)=((a ^^^ b:Nat):Int):=by
 have ha':a % 2 ^ 64=a:=Nat.mod_eq_of_lt (Nat.lt_of_lt_of_le ha (by decide));have hb':b % 2 ^ 64=b:=Nat.mod_eq_of_lt (Nat.lt_of_lt_of_le hb (by decide));have hx:a ^^^ b < 2 ^ 63:=Nat.xor_lt_two_pow ha hb;simp only [Go.bits,BitVec.ofInt_natCast,BitVec.toNat_xor,BitVec.toNat_ofNat,show IntKind.i64.bits=64 from rfl,ha',hb'];rw [IntKind.wrap_i64];omega
theorem xor_pos {x y:Int} (hx:0<=x) (hx1:x<=1099511627776) (hy:0<=y) (hy1:y<=1099511627776):0<=Go.bits .xor .i64 x y:=by
 obtain ⟨a,rfl⟩:=Int.eq_ofNat_of_zero_le hx;obtain ⟨b,rfl⟩:=Int.eq_ofNat_of_zero_le hy;rw [xor_nat a b (by omega) (by omega)];exact Int.natCast_nonneg _
theorem tmod_in {x n:Int} (hx:0<=x) (hn:1<=n):0<=Int.tmod x n/\Int.tmod x n < n:=⟨Int.tmod_nonneg _ hx,Int.tmod_lt_of_pos _ (by omega)⟩
theorem tdiv_in {x n:Int} (hx:0<=x) (hn:1<=n):0<=Int.tdiv x n/\Int.tdiv x n<=x:=⟨Int.tdiv_nonneg hx (by omega),by rw [Int.tdiv_eq_ediv_of_nonneg hx];exact Int.ediv_le_self _ hx⟩
def ActIn (a:Eq.Act):Prop:=a.deeds.length<=5/\a.kids.length<=2
theorem snoc_in {P:Eq.Act->Prop} {l:List Eq.Act} {a:Eq.Act} (h:∀ x ∈ l,P x) (ha:P a):∀ x ∈ l ++ [a],P x:=by
 intro x hx;rcases List.mem_append.1 hx with hx | hx
 ·exact h x hx
 ·rw [List.mem_singleton.1 hx];exact ha
end Go.Proofs.Ytimamoimphjakaa.Rd
namespace Go.Proofs.Ytimamoimphjakaa.Eq
open Go.RowKit Go.Proofs.YtimamoimphjakaaW.PrintWords Go.Proofs.YtimamoimphjakaaW.PrintLast Go.Proofs.YtimamoimphjakaaW.PrintMore
open Go.Proofs.Ytimamoimphjakaa.Rd (IsS101 Code wrap_in)
structure Rds (w0 w:World) (g:Nat) (b:List Int) (q:Int) (W:World):Prop where
 rd:IsS101 w0 W g b q
 below:Below w0.heap.size w0 W
 keep:KeepBut w W g none
 lt:g < w.heap.size
 pos:0<=q
section
variable {w0 w W W1:World} {g:Nat} {b:List Int} {q q2:Int}
theorem Rds.start (hI:IsS101 w0 w g b q) (hB:Below w0.heap.size w0 w) (h0:0<=q):Rds w0 w g b q w:=⟨hI,hB,KeepBut.refl _ _ _,hI.lt,h0⟩
theorem Rds.blk (h:Rds w0 w g b q W):∃ cs,W.heap[g]? = some (.cells cs 101 (0,0)):=by
 obtain ⟨A0,c0,h1,-⟩:=h.rd;exact ⟨_,h1⟩
theorem Rds.low (h:Rds w0 w g b q W):w0.heap.size<=w.heap.size:=Nat.le_of_lt (Nat.lt_of_le_of_lt h.rd.ge h.lt)
theorem Rds.size (h:Rds w0 w g b q W):w.heap.size<=W.heap.size:=h.keep.1
theorem Rds.next (h:Rds w0 w g b q W) (hi:IsS101 w0 W1 g b q2) (hb:Below w0.heap.size w0 W1) (hk:KeepBut W W1 g none) (h0:0<=q2):Rds w0 w g b q2 W1:=⟨hi,hb,h.keep.trans hk (.inl rfl),h.lt,h0⟩
theorem Rds.blkK (h:Rds w0 w g b q W) (hk:KeepBut W W1 g none) {a:Nat} {cs:Array Value} {t:TypeId} (hb:W.heap[a]? = some (.cells cs t (0,0))) (ht:t ≠ 101):W1.heap[a]? = some (.cells cs t (0,0)):=hk.blk hb (Ne.symm (h.rd.ne_blk hb ht)) (by simp)
theorem Rds.rowK (h:Rds w0 w g b q W) (hk:KeepBut W W1 g none) {α:Type} {d:Kd α} {e base:Nat} {ok:Nat->Prop} {v:Value} {xs:List α} (hr:d.R e W base ok v xs) (ht:∀ q ∈ e :: d.E,q ≠ 101):d.R e W1 base ok v xs:=by
 obtain ⟨cs,hb⟩:=h.blk;exact R_keepT hr hb ht hk
theorem Rds.grown (h:Rds w0 w g b q W) {row:Option Nat} (hg:W.grownBy W1 row) (hr:∀ k,row=some k->w.heap.size<=k):Rds w0 w g b q W1:=
 ⟨h.rd.grown hg (fun he=>by have:=hr g he.symm;have:=h.lt;omega),pw_below_grown h.below row h.below.size hg (fun k hk=>Nat.le_trans h.low (hr k hk)),by
  cases row with
  | none=>exact h.keep.trans (KeepBut.of_grown hg g) (.inl rfl)
  | some k=>exact h.keep.trans (KeepBut.of_grown hg g) (.inr ⟨k,rfl,hr k rfl⟩),h.lt,h.pos⟩
theorem Rds.grow (h:Rds w0 w g b q W) (hb:Below W.heap.size W W1):Rds w0 w g b q W1:=h.grown (grown_of_below hb none) (fun _ hk=>by cases hk)
theorem Rds.row (h:Rds w0 w g b q W) {α:Type} {d:Kd α} {e:Nat} {ok:Nat->Prop} {v:Value} {xs:List α} (hr:d.R e W w.heap.size ok v xs) (hg:W.grownBy W1 v.ownBlock):Rds w0 w g b q W1:=h.grown hg (fun k hk=>Kd.R_base hr k hk)
theorem Rds.set (h:Rds w0 w g b q W) {a:Nat} (ha:w.heap.size<=a) (o:Nat) (u:Value):Rds w0 w g b q (W.setCell ⟨a,o,none⟩ u):=
 h.grown (row:=some a) ⟨rfl,rfl,rfl,by simp [World.setCell],fun k _ hne=>Below.heap_setCell W ⟨a,o,none⟩ u k (fun he=>hne (by rw [show k=a from he]))⟩ (fun k hk=>by injection hk with hk;omega)
end
theorem Rds.back {w0 w W W1:World} {g:Nat} {b:List Int} {q q2:Int} (h:Rds w0 w g b q W) (k:Rds w0 W g b q2 W1):Rds w0 w g b q2 W1:=h.next k.rd k.below k.keep k.pos
theorem drawn_sz {p:Prog} (hc:p.cells.length<=4) (hb:p.bodies.length<=4) (ha:∀ b ∈ p.bodies,b.length<=3/\∀ a ∈ b,Rd.ActIn a):ProgSz p:=
 ⟨by omega,by omega,fun b hbm=>⟨by have:=(ha b hbm).1;omega,fun a ham=>by have:=(ha b hbm).2 a ham;exact ⟨by have:=this.1;omega,by have:=this.2;omega⟩⟩⟩
end Go.Proofs.Ytimamoimphjakaa.Eq
namespace Go.Proofs.Ytimamoimphjakaa.Eq
open Go.Proofs.Ytimamoimphjakaa.Rd (IsS101 Code wrap_in tmod_in tdiv_in xor_pos)
open Go.RowKit Go.Proofs.YtimamoimphjakaaW.PrintWords Go.Proofs.YtimamoimphjakaaW.PrintLast Go.Proofs.YtimamoimphjakaaW.PrintMore
theorem one_all {cs:List Value} (h:cs.all (fun v=>v.oneCell')=true):∀ v ∈ cs,v.oneCell'=true:=by simpa using h
section
variable {w0 w W:World} {g:Nat} {b:List Int} {q:Int}
def PickPost (w0 w W:World) (g:Nat) (b:List Int) (q n:Int) (e:Ending) (W':World):Prop:=∃ (x:Nat) (q2:Int),e= .returned (.int .i64 x)/\((x:Int) < n\/x=0)/\q2=q+1/\Rds w0 w g b q2 W'/\KeepBut W W' g none
theorem pick_out {n x:Int} {W1 W':World} (hx:0<=x) (hn:x < n\/x=0) (h:Rds w0 w g b (q+1) W1) (hk:KeepBut W W1 g none) (hb:Below W1.heap.size W1 W'):PickPost w0 w W g b q n (.returned (.int .i64 x)) W':=by
 obtain ⟨m,rfl⟩:=Int.eq_ofNat_of_zero_le hx;exact ⟨m,_,rfl,by rcases hn with h | h;exact .inl h;exact .inr (by omega),rfl,h.grow hb,hk.trans (KeepBut.of_grown (grown_of_below hb none) g) (.inl rfl)⟩
theorem Rds.turn (h:Rds w0 w g b q W) (x:Int) (hx:0<=x):Rds w0 w g b x (W.setCell ⟨g,1,none⟩ (.int .i64 x))/\KeepBut W (W.setCell ⟨g,1,none⟩ (.int .i64 x)) g none:=by
 obtain ⟨A0,c0,h1,h2,h3⟩:=h.rd;have hk:KeepBut W (W.setCell ⟨g,1,none⟩ (.int .i64 x)) g none:=KeepBut.set_ (KeepBut.refl _ _ _) _ _;exact ⟨h.next ⟨A0,c0,by simpa using blk_set h1 1 (.int .i64 x),h2,h3⟩ (below_set h.below h2) hk hx,hk⟩
theorem pick_rds (h:Rds w0 w g b q W) (hc:Rd.Code b) (hq:q<=1000000) (n:Int):
  Calls Try.prog 49 #[.pointer (some ⟨g,0,none⟩),.int .i64 n] W fun e W'=>PickPost w0 w W g b q n e W':=by
 have HD:=am h;have h0:=h.pos;have HQ1:Aside0 (0<=q+1):=⟨by omega⟩;obtain ⟨A0,c0,hblk,hge,hrow⟩:=h.rd;have BK:=am hblk;have BKc:=zc8 hblk;have HR:=am hrow;have w1:wrap64 (q+1)=q+1:=wrap_in (by omega) (by omega);have w2:wrap64 q=q:=wrap_in (by omega) (by omega);have HC:=am hc;have HQ:=am hq;have H0:=am h0;clear h hblk hge hrow hc hq;have hfz:=blk_frozen BK.out 1;go_enter Try.func49,Try.ntmps49;go_upto_region 2 with (fail);obtain ⟨hd,hk⟩:=HD.out.turn (q+1) HQ1.out;have BK2:(W.setCell ⟨g,1,none⟩ (.int .i64 (q+1))).heap[g]? = some (.cells #[.slice A0 b.length c0,.int .i64 (q+1)] 101 (0,0)):=by simpa using blk_set BK.out 1 (.int .i64 (q+1))
 generalize W.setCell ⟨g,1,none⟩ (.int .i64 (q+1))=wz at hd hk BK2 ⊢;clear HD BK BKc hfz;have HD:=am hd;have HK:=am hk;have BKc:=zc8 BK2;clear hd hk BK2;by_cases hn:n < 1
 ·have y0:decide (n < 1)=true:=decide_eq_true hn
  clear hn;go_wp2;go_ret;exact pick_out (Int.le_refl 0) (.inr rfl) HD.out HK.out (Below.refl _ _)
 have y0:decide (n < 1)=false:=decide_eq_false hn;have HN:=am hn;clear hn;by_cases hz:b.length=0
 ·have y1:((b.length:Int) == 0)=true:=by simp [hz]
  clear hz;go_wp2;go_ret;exact pick_out (Int.le_refl 0) (.inr rfl) HD.out HK.out (Below.refl _ _)
 have y1:((b.length:Int) == 0)=false:=by simpa using hz
 have HZ:=am hz;clear hz;have z9:¬ n=0:=by have:=HN.out;omega
 have z0:(n == 0)=false:=beq_eq_false_iff_ne.mpr (by have:=HN.out;omega);have z1:(n != 0)=true:=bne_iff_ne.mpr (by have:=HN.out;omega);by_cases hlt:q < (b.length:Int)
 ·have y2:decide (q < (b.length:Int))=true:=decide_eq_true hlt
  obtain ⟨ad,ed,hx⟩:=Kd.at_int HR.out q h0 hlt;cases ed;obtain ⟨y,hy⟩:∃ y,y=rd b q:=⟨_,rfl⟩;rw [<-hy] at hx;have HY:Aside0 (0<=y/\y<=255):=⟨by rw [hy];exact HC.out.byte _⟩;have wy:wrap64 y=y:=wrap_in HY.out.1 (by have:=HY.out.2;omega);have p0:(0<=q)=True:=eq_true h0;have p1:(q < (b.length:Int))=True:=eq_true hlt;replace hx:=pw_cell_below HD.out.below hx;clear hy h0 hlt;go_wp2;go_ret;have ht:=tmod_in (n:=n) HY.out.1 (by have:=HN.out;omega);exact pick_out ht.1 (.inl ht.2) HD.out HK.out (Below.refl _ _)
 ·have y2:decide (q < (b.length:Int))=false:=decide_eq_false hlt
  have hl:1<=(b.length:Int):=by have:=HZ.out;omega
  have z8:¬ (b.length:Int)=0:=by omega
  have z7:¬ b= []:=fun h=>z8 (by rw [h];rfl)
  have z2:((b.length:Int) != 0)=true:=bne_iff_ne.mpr (by omega);have w7:wrap64 (q*7)=q*7:=wrap_in (by omega) (by have:=HQ.out;omega);have w73:wrap64 (q*7+3)=q*7+3:=wrap_in (by omega) (by have:=HQ.out;omega);obtain ⟨j,hj⟩:∃ j,Int.tmod q (b.length:Int)=j:=⟨_,rfl⟩;obtain ⟨k,hk⟩:∃ k,Int.tmod (q*7+3) (b.length:Int)=k:=⟨_,rfl⟩;obtain ⟨d,hd⟩:∃ d,Int.tdiv q (b.length:Int)=d:=⟨_,rfl⟩;have mj:=tmod_in h0 hl;have mk:=tmod_in (x:=q*7+3) (by omega) hl;have md:=tdiv_in h0 hl;rw [hj] at mj;rw [hk] at mk;rw [hd] at md;obtain ⟨ad,ed,hx⟩:=Kd.at_int HR.out j mj.1 mj.2;obtain ⟨ad2,ed2,hx2⟩:=Kd.at_int HR.out k mk.1 mk.2;cases ed;obtain rfl:ad=ad2:=(by injection ed2);obtain ⟨y,hy⟩:∃ y,y=rd b j:=⟨_,rfl⟩;obtain ⟨z,hz⟩:∃ z,z=rd b k:=⟨_,rfl⟩;rw [<-hy] at hx;rw [<-hz] at hx2;have hY:0<=y/\y<=255:=by rw [hy];exact HC.out.byte _
  have hZ:0<=z/\z<=255:=by rw [hz];exact HC.out.byte _
  have hQ:=HQ.out;have wy:wrap64 y=y:=wrap_in hY.1 (by omega);have wz1:wrap64 z=z:=wrap_in hZ.1 (by omega);have wd:wrap64 d=d:=wrap_in md.1 (by omega);obtain ⟨X,hX⟩:∃ X,y*131+z*1117+q*29+d*53=X:=⟨_,rfl⟩;have hX1:0<=X/\X<=1099511627776:=by omega
  have W1:wrap64 (y*131)=y*131:=wrap_in (by omega) (by omega);have W2:wrap64 (z*1117)=z*1117:=wrap_in (by omega) (by omega);have W3:wrap64 (y*131+z*1117)=y*131+z*1117:=wrap_in (by omega) (by omega);have W4:wrap64 (q*29)=q*29:=wrap_in (by omega) (by omega);have W5:wrap64 (y*131+z*1117+q*29)=y*131+z*1117+q*29:=wrap_in (by omega) (by omega);have W6:wrap64 (d*53)=d*53:=wrap_in (by omega) (by omega);have W8:wrap64 (y*131+z*1117+q*29+d*53)=X:=by rw [hX];exact wrap_in hX1.1 hX1.2
  have d2:=tdiv_in (x:=X) hX1.1 (n:=64) (by decide);have W9:wrap64 (Int.tdiv X 64)=Int.tdiv X 64:=wrap_in d2.1 (by omega);have HXX:=am (xor_pos hX1.1 hX1.2 d2.1 (by omega));have p0:(0<=j)=True:=eq_true mj.1;have p1:(j < (b.length:Int))=True:=eq_true mj.2;have p2:(0<=k)=True:=eq_true mk.1;have p3:(k < (b.length:Int))=True:=eq_true mk.2;clear hy hz h0 hlt hX hX1 d2 mj mk md hY hZ hQ ed2 hl;replace hx:=pw_cell_below HD.out.below hx;replace hx2:=pw_cell_below HD.out.below hx2;go_wp2;go_quiet (fail);rw [W8];go_wp2;go_ret;have ht:=tmod_in (n:=n) HXX.out (by have:=HN.out;omega);exact pick_out ht.1 (.inl ht.2) HD.out HK.out (pw_below_drewN (Below.refl _ _) _)
def DeedPost (w0 w W:World) (g:Nat) (b:List Int) (q:Int) (e:Ending) (W':World):Prop:=∃ (x y z q2:Int),e= .returned (.agg #[.int .i64 x,.int .i64 y,.int .i64 z])/\q<=q2/\q2<=q+3/\Rds w0 w g b q2 W'/\KeepBut W W' g none
theorem deed_rds (h:Rds w0 w g b q W) (hc:Rd.Code b) (hq:q<=900000) (n:Int):
  Calls Try.prog 119 #[.pointer (some ⟨g,0,none⟩),.int .i64 n] W fun e W'=>DeedPost w0 w W g b q e W':=by
 have HD:=am (Rds.start h.rd h.below h.pos);have HC:=am hc;have HE:=am hq;have HH:=am h;clear h hc hq;go_enter Try.func119,Try.ntmps119;by_cases hn:n=0
 ·have y0:(n == 0)=true:=by simp [hn]
  go_wp2_with (first
  |((with_reducible refine gate_dst (N:=4) rfl ?_);refine box_event rfl (N:=4) rfl (t:=111) (by go_simp<;>rfl) ?_;intro gd hg0 wn hbox hb;have BD_0:=am hbox;have LBD:=am (show W.heap.size<=gd from Nat.le_trans HD.out.size (Nat.le_of_eq hg0.symm));clear hbox hg0;replace HD:=am (HD.out.grow hb);clear hb;have BD:=BD_0;clear BD_0;have BDc:=zc8 BD.out)
  |(go_at_call 49;refine (pick_rds HD.out HC.out (by have:=HE.out;omega) _).mono ?_;rintro e wn ⟨x,_,rfl,hx,rfl,hd,hk⟩;replace BD:=am (HD.out.blkK hk BD.out (by decide));replace HD:=am (hd);clear BDc;have BDc:=zc8 BD.out;clear hk hd)
  |((with_reducible refine gate_store (t:=111) (p:=4) rfl ?_);refine store_block rfl rfl 111 (.tmp 4) _ rfl rfl rfl BD.out rfl (by kernel_rfl) (one_all rfl) ?_;intro wn hbox hg;have BF:=am hbox;replace HD:=am (HD.out.grown hg (fun k hk=>by cases hk;exact LBD.out));clear BD BDc hbox hg))
  refine bodyPost_ret (results_single Try.results119 (.cell gd 111 _ (0,0) _ rfl BF.out Try.underlying111 rfl (by kernel_rfl) .nil)) rfl ?_;exact ⟨_,_,_,_,rfl,by omega,by omega,HH.out.back HD.out,HD.out.keep⟩
 have y0:(n == 0)=false:=by simpa using hn
 go_upto_if 14 with (first
 |((with_reducible refine gate_dst (N:=4) rfl ?_);refine box_event rfl (N:=4) rfl (t:=111) (by go_simp<;>rfl) ?_;intro gd hg0 wn hbox hb;have BD_0:=am hbox;have LBD:=am (show W.heap.size<=gd from Nat.le_trans HD.out.size (Nat.le_of_eq hg0.symm));clear hbox hg0;replace HD:=am (HD.out.grow hb);clear hb;have BD:=BD_0;clear BD_0;have BDc:=zc8 BD.out)
 |(go_at_call 49;refine (pick_rds HD.out HC.out (by have:=HE.out;omega) 10).mono ?_;rintro e wn ⟨x,_,rfl,hx,rfl,hd,hk⟩;replace BD:=am (HD.out.blkK hk BD.out (by decide));replace HD:=am (hd);clear BDc;have BDc:=zc8 BD.out;clear hk hd))
 have hx9:x=0\/x=1\/x=2\/x=3\/x=4\/x=5\/x=6\/x=7\/x=8\/x=9:=by omega
 clear hx;rcases hx9 with rfl|rfl|rfl|rfl|rfl|rfl|rfl|rfl|rfl|rfl
 all_goals
  go_wp2_with (first
  |(go_at_call 49;refine (pick_rds HD.out HC.out (by have:=HE.out;omega) _).mono ?_;rintro e wn ⟨x,_,rfl,hx,rfl,hd,hk⟩;replace BD:=am (HD.out.blkK hk BD.out (by decide));replace HD:=am (hd);clear BDc;have BDc:=zc8 BD.out;clear hk hd)
  |((with_reducible refine gate_store (t:=111) (p:=4) rfl ?_);refine store_block rfl rfl 111 (.tmp 4) _ rfl rfl rfl BD.out rfl (by kernel_rfl) (one_all rfl) ?_;intro wn hbox hg;have BF:=am hbox;replace HD:=am (HD.out.grown hg (fun k hk=>by cases hk;exact LBD.out));clear BD BDc hbox hg))
  refine bodyPost_ret (results_single Try.results119 (.cell gd 111 _ (0,0) _ rfl BF.out Try.underlying111 rfl (by kernel_rfl) .nil)) rfl ?_;exact ⟨_,_,_,_,rfl,by omega,by omega,HH.out.back HD.out,HD.out.keep⟩
def DeedsPost (w0 w W:World) (g:Nat) (b:List Int) (q:Int) (e:Ending) (W':World):Prop:=∃ (v:Value) (ds:List Deed) (q2:Int),e= .returned v/\kDeed.R 111 W' W.heap.size (fun _=>True) v ds/\ds.length<=5/\q<=q2/\q2<=q+20/\Rds w0 w g b q2 W'/\KeepBut W W' g none
theorem deeds_rds (h:Rds w0 w g b q W) (hc:Rd.Code b) (hq:q<=800000) (n:Int):
  Calls Try.prog 86 #[.pointer (some ⟨g,0,none⟩),.int .i64 n] W fun e W'=>DeedsPost w0 w W g b q e W':=by
 have HD:=am (Rds.start h.rd h.below h.pos);have HC:=am hc;have HE:=am hq;have HH:=am h;clear h hc hq;go_enter Try.func86,Try.ntmps86;refine (Classical.em (0 < n)).elim (fun h0=> ?gA) (fun h0=> ?gB)
 case' gA=>
  have y0:decide (0 < n)=true:=decide_eq_true h0;clear h0
  go_upto_if 14 with (first
  |(go_at_call 49;refine (pick_rds HD.out HC.out (by have:=HE.out;omega) 3).mono ?_;rintro e wn ⟨x,_,rfl,hx,rfl,hd,hk⟩;replace HD:=am (hd);clear hk hd))
  refine (Classical.em (x=0)).elim (fun hx0=> ?gC) (fun hx0=> ?gD)
  case gC=>
   have y1:((x:Int) == 0)=true:=by simp [hx0]
   have y2:(x == 0)=true:=by simp [hx0]
   have fl:True:=trivial;clear hx hx0
   go_wp2_with (first
   |(go_at_call 49;clear fl;refine (pick_rds HD.out HC.out (by have:=HE.out;omega) n).mono ?_;rintro e wn ⟨c,_,rfl,hc,rfl,hd,hk⟩;replace HD:=am (hd);clear hk hd)
   |(go_at_call 49;refine (pick_rds HD.out HC.out (by have:=HE.out;omega) 4).mono ?_;rintro e wn ⟨y,_,rfl,hy,rfl,hd,hk⟩;replace HD:=am (hd);clear hk hd;have wy:wrap64 (1+(y:Int))=1+(y:Int):=wrap_in (by omega) (by omega))
   |((with_reducible refine gate_dst (N:=27) rfl ?_);refine Kd.R_lit kDeed (w0:=_) W.heap.size 111 rfl (N:=27) rfl (xs:=([⟨1,0,(c:Int)⟩,⟨3,1,1+(y:Int)⟩,⟨4,0,1⟩,⟨2,(c:Int),0⟩]:List Deed)) (inner:= [.int .i64 1,.int .i64 0,.int .i64 (c:Int),.int .i64 3,.int .i64 1,.int .i64 (1+(y:Int)),.int .i64 4,.int .i64 0,.int .i64 1,.int .i64 2,.int .i64 (c:Int),.int .i64 0]) (ok:=(fun _=>True)) (okp:=(fun _=>True)) (by go_simp<;>rfl) (Reps.c3 (kDeed_mkM (⟨1,0,(c:Int)⟩:Deed)) (Reps.c3 (kDeed_mkM (⟨3,1,1+(y:Int)⟩:Deed)) (Reps.c3 (kDeed_mkM (⟨4,0,1⟩:Deed)) (Reps.c3 (kDeed_mkM (⟨2,(c:Int),0⟩:Deed)) (Reps.none _ _))))) (fun _ _=>trivial) trivial (Below.refl _ _) HD.out.size (by simp) ?_;intro v1 wl hv1 hb1 hg hx9;clear hb1 hx9;obtain ⟨A,cA,ev⟩:=Kd.R_slice hv1;subst ev;have VO_0:=am hv1;clear hv1;have hb:=grown_below hg;replace HD:=am (HD.out.grow hb);clear hb;clear hg;have VO:=VO_0;clear VO_0))
   go_ret;exact ⟨_,_,_,rfl,VO.out,by simp,by omega,by omega,HH.out.back HD.out,HD.out.keep⟩
  have y1:((x:Int) == 0)=false:=by simp [hx0]
  have y2:(x == 0)=false:=by simp [hx0]
  clear hx hx0;obtain ⟨q1,hq1,HD1⟩:∃ q1,(q<=q1/\q1<=q+1)/\Aside0 (Rds w0 W g b q1 wn):=⟨_,by omega,HD⟩;clear HD
 case' gB=>
  have y0:decide (0 < n)=false:=decide_eq_false h0;clear h0;obtain ⟨q1,hq1,HD1⟩:∃ q1,(q<=q1/\q1<=q+1)/\Aside0 (Rds w0 W g b q1 W):=⟨_,by omega,HD⟩;clear HD
 all_goals
  have HD:=HD1;clear HD1;have HQ:=am hq1;have HE0:=HE;replace HE:=am (show q1<=900000 by have:=HE.out;omega);clear hq1
  go_wp2_with (first
  |((with_reducible refine gate_dst (N:=28) rfl ?_);refine Kd.R_lit kDeed (w0:=_) W.heap.size 111 rfl (N:=28) rfl (xs:=([]:List Deed)) (inner:= []) (ok:=(fun _=>True)) (okp:=(fun _=>True)) (by go_simp<;>rfl) (Reps.none _ _) (fun _ _=>trivial) trivial (Below.refl _ _) HD.out.size (by simp) ?_;intro v1 wl hv1 hb1 hg hx9;clear hb1 hx9;obtain ⟨A,cA,ev⟩:=Kd.R_slice hv1;subst ev;have VO_0:=am hv1;clear hv1;have hb:=grown_below hg;replace HD:=am (HD.out.grow hb);clear hb;clear hg;have VO:=VO_0;clear VO_0)
  |(go_at_call 49;refine (pick_rds HD.out HC.out (by have:=HE.out;omega) 5).mono ?_;rintro e wn ⟨x,_,rfl,hx,rfl,hd,hk⟩;replace VO:=am (HD.out.rowK hk VO.out (by decide));replace HD:=am (hd);clear hk hd;have bx_:x<=4:=(by omega)))
  obtain ⟨m,hm⟩:∃ m:Nat,(m:Int)=1+(x:Int):=⟨1+x,by omega⟩;rw [<-hm];have HM:=am (show m<=5 by omega);have HE2:=HQ;clear hm bx_ hx;go_loopw [6,7] (fun v j w'=>∃ (m:Nat) (q2:Int) (ds:List Deed),j= .int .i64 m/\ds.length+m<=5/\q<=q2/\q2+3*m<=q+20/\Aside0 (Rds w0 W g b q2 w')/\Aside0 (kDeed.R 111 w' W.heap.size (fun _=>True) v ds)) (fun _ j _=>(intOf j).toNat)
  case atStart=>exact ⟨m,_, [],rfl,by have:=HM.out;simp;omega,by have:=HE2.out;omega,by have:=HE2.out;have:=HM.out;omega,HD,VO⟩
  case round=>
   clear HD VO;obtain ⟨m,q2,ds,rfl,hl,hq3,hq4,HD,VO⟩:=hrel;obtain ⟨A,cA,ev⟩:=Kd.R_slice VO.out;subst ev;by_cases hm:0 < m
   ·have y3:(0:Int) < (m:Int):=by omega
    have wm:wrap64 ((m:Int) - 1)=((m - 1:Nat):Int):=by rw [wrap_in (by omega) (by omega)];omega
    replace HE:=am (show q2<=900000 by have:=HE0.out;omega);have HL:=am hl
    go_wp2_with (first
    |(go_at_call 119;refine (deed_rds HD.out HC.out HE.out n).mono ?_;rintro e wn ⟨x,y,z,q3,rfl,hq5,hq6,hd,hk⟩;replace VO:=am (HD.out.rowK hk VO.out (by decide));replace HD:=am (hd);clear hk hd)
    |((with_reducible refine gate_builtin (b:=.append) (xs:=#[.tmp 36,.tmp 40]) rfl ?_);at_builtin;refine Kd.R_append kDeed (w0:=_) W.heap.size rfl (.tmp 36) (.tmp 40) 106 111 (.agg #[.int .i64 0,.int .i64 0,.int .i64 0]) 24 rfl Try.underlying106 (by kernel_rfl) rfl (by decide) (by decide) _ ds (⟨x,y,z⟩:Deed) [.int .i64 x,.int .i64 y,.int .i64 z] (fun _=>True) (fun _=>False) rfl rfl (kDeed_mkM (⟨x,y,z⟩:Deed)) (fun _ hk=>hk.elim) (fun _ _=>trivial) VO.out (Below.refl _ _) HD.out.size (by have:=HL.out;omega) ?_;intro v1 w1 ho hb hg _;clear hb;have VO_:=am ho;replace HD:=am (HD.out.row VO.out hg);clear ho hg VO;have VO:=VO_;clear VO_))
    go_roundw
    case rel=>exact ⟨m - 1,_,ds ++ [⟨x,y,z⟩],by go_num,by rw [List.length_append];simp only [List.length_singleton];omega,by omega,by omega,HD,VO⟩
    case measure=>simp [intOf];omega
   ·have y3:¬ (0:Int) < (m:Int):=by omega
    go_wp2;go_ret;exact ⟨_,_,_,rfl,VO.out,by omega,hq3,by omega,HH.out.back HD.out,HD.out.keep⟩
def BodyPost (w0 w W:World) (g:Nat) (b:List Int) (q:Int) (e:Ending) (W':World):Prop:=∃ (v:Value) (acts:List Act) (q2:Int),e= .returned v/\kAct.R 108 W' W.heap.size (fun _=>True) v acts/\(acts.length<=3/\∀ a ∈ acts,Rd.ActIn a)/\q<=q2/\q2<=q+91/\Rds w0 w g b q2 W'/\KeepBut W W' g none
theorem body_rds (h:Rds w0 w g b q W) (hc:Rd.Code b) (hq:q<=600000) (bd bs n:Int):
  Calls Try.prog 85 #[.pointer (some ⟨g,0,none⟩),.int .i64 bd,.int .i64 bs,.int .i64 n] W fun e W'=>BodyPost w0 w W g b q e W':=by
 have HD:=am (Rds.start h.rd h.below h.pos);have HC:=am hc;have HE:=am hq;have HH:=am h;clear h hc hq;go_enter Try.func85,Try.ntmps85
 go_wp2_with (first
 |((with_reducible refine gate_dst (N:=12) rfl ?_);refine Kd.R_lit kAct (w0:=_) W.heap.size 108 rfl (N:=12) rfl (xs:=([]:List Act)) (inner:= []) (ok:=(fun _=>True)) (okp:=(fun _=>True)) (by go_simp<;>rfl) (Reps.none _ _) (fun _ _=>trivial) trivial (Below.refl _ _) HD.out.size (by simp) ?_;intro v1 wl hv1 hb1 hg hx9;clear hb1 hx9;obtain ⟨A,cA,ev⟩:=Kd.R_slice hv1;subst ev;have VO_0:=am hv1;clear hv1;have hb:=grown_below hg;replace HD:=am (HD.out.grow hb);clear hb;clear hg;have VO:=VO_0;clear VO_0)
 |(go_at_call 49;refine (pick_rds HD.out HC.out (by have:=HE.out;omega) 3).mono ?_;rintro e wn ⟨x,_,rfl,hx,rfl,hd,hk⟩;replace VO:=am (HD.out.rowK hk VO.out (by decide));replace HD:=am (hd);clear hk hd;have bx_:x<=2:=(by omega)))
 obtain ⟨m,hm⟩:∃ m:Nat,(m:Int)=1+(x:Int):=⟨1+x,by omega⟩;rw [<-hm];have HM:=am (show m<=3 by omega);have HE0:=HE;clear hm bx_ hx;go_loopw [9,10] (fun v j w'=>∃ (m:Nat) (q2:Int) (acts:List Act),j= .int .i64 m/\acts.length+m<=3/\q<=q2/\q2+30*m<=q+91/\Aside0 (∀ a ∈ acts,Rd.ActIn a)/\Aside0 (Rds w0 W g b q2 w')/\Aside0 (kAct.R 108 w' W.heap.size (fun _=>True) v acts)) (fun _ j _=>(intOf j).toNat)
 case atStart=>exact ⟨m,_, [],rfl,by have:=HM.out;simp;omega,by omega,by have:=HM.out;omega,⟨fun _ h=>by cases h⟩,HD,VO⟩
 case round=>
  clear HD VO;obtain ⟨m,q2,acts,rfl,hl,hq3,hq4,HA,HD,VO⟩:=hrel;obtain ⟨A,cA,ev⟩:=Kd.R_slice VO.out;subst ev;by_cases hm:0 < m
  ·have y3:(0:Int) < (m:Int):=by omega
   have wm:wrap64 ((m:Int) - 1)=((m - 1:Nat):Int):=by rw [wrap_in (by omega) (by omega)];omega
   replace HE:=am (show q2<=700000 by have:=HE0.out;omega);have HL:=am hl;have HM:=am hm
   go_upto_if 29 with (first
   |(go_at_call 49;refine (pick_rds HD.out HC.out (by have:=HE.out;omega) _).mono ?_;rintro e wn ⟨x,_,rfl,hx,rfl,hd,hk⟩;replace VO:=am (HD.out.rowK hk VO.out (by decide));replace HD:=am (hd);clear hk hd))
   have hx9:x=0\/x=1\/(x=2\/x=3\/x=4\/x=5)\/6<=x:=by omega
   clear hx;rcases hx9 with rfl|rfl | hx9 | h6
   ·go_upto_if 33 with (first
    |(go_at_call 49;refine (pick_rds HD.out HC.out (by have:=HE.out;omega) _).mono ?_;rintro e wn ⟨y,_,rfl,hy,rfl,hd,hk⟩;replace VO:=am (HD.out.rowK hk VO.out (by decide));replace HD:=am (hd);clear hk hd))
    by_cases hy0:y=0
    ·have y1:((y:Int) == 0)=true:=by simp [hy0]
     have y2:(y == 0)=true:=by simp [hy0]
     clear hy hy0
     go_wp2_with (first
     |((with_reducible refine gate_builtin (b:=.append) (xs:=#[.tmp 34,.tmp 36]) rfl ?_);at_builtin;refine Kd.R_append kAct (w0:=_) W.heap.size rfl (.tmp 34) (.tmp 36) 104 108 (.agg #[.int .i64 0,.slice none 0 0,.slice none 0 0,.int .i64 0]) 64 rfl Try.underlying104 (by kernel_rfl) rfl (by decide) (by decide) _ acts (⟨3, [], [],0⟩:Act) [.int .i64 3,.slice none 0 0,.slice none 0 0,.int .i64 0] (fun _=>True) (fun _=>False) rfl rfl (kAct_mkM (⟨3, [], [],0⟩:Act) (Kd.R_nil _ _ _ _ _) (Kd.R_nil _ _ _ _ _)) (fun _ hk=>hk.elim) (fun _ _=>trivial) VO.out (Below.refl _ _) HD.out.size (by have:=HL.out;omega) ?_;intro v1 w1 ho hb hg _;clear hb;have VO_:=am ho;replace HD:=am (HD.out.row VO.out hg);clear ho hg VO;have VO:=VO_;clear VO_))
     go_roundw
     case rel=>exact ⟨m - 1,_,acts ++ [⟨3, [], [],0⟩],by go_num,by rw [List.length_append];simp only [List.length_singleton];omega,by omega,by omega,⟨Rd.snoc_in HA.out ⟨by simp,by simp⟩⟩,HD,VO⟩
     case measure=>simp [intOf];omega
    ·have y1:((y:Int) == 0)=false:=by simp [hy0]
     have y2:(y == 0)=false:=by simp [hy0]
     clear hy hy0;go_wp2;go_roundw
     case rel=>exact ⟨m - 1,_,acts,by go_num,by omega,by omega,by omega,HA,HD,VO⟩
     case measure=>simp [intOf];omega
   ·go_wp2_with (first
    |(go_at_call 49;refine (pick_rds HD.out HC.out (by have:=HE.out;omega) _).mono ?_;rintro e wn ⟨y,_,rfl,hy,rfl,hd,hk⟩;replace VO:=am (HD.out.rowK hk VO.out (by decide));replace HD:=am (hd);clear hk hd)
    |((with_reducible refine gate_builtin (b:=.append) (xs:=#[.tmp 40,.tmp 44]) rfl ?_);at_builtin;refine Kd.R_append kAct (w0:=_) W.heap.size rfl (.tmp 40) (.tmp 44) 104 108 (.agg #[.int .i64 0,.slice none 0 0,.slice none 0 0,.int .i64 0]) 64 rfl Try.underlying104 (by kernel_rfl) rfl (by decide) (by decide) _ acts (⟨4, [], [],(y:Int)⟩:Act) [.int .i64 4,.slice none 0 0,.slice none 0 0,.int .i64 (y:Int)] (fun _=>True) (fun _=>False) rfl rfl (kAct_mkM (⟨4, [], [],(y:Int)⟩:Act) (Kd.R_nil _ _ _ _ _) (Kd.R_nil _ _ _ _ _)) (fun _ hk=>hk.elim) (fun _ _=>trivial) VO.out (Below.refl _ _) HD.out.size (by have:=HL.out;omega) ?_;intro v1 w1 ho hb hg _;clear hb;have VO_:=am ho;replace HD:=am (HD.out.row VO.out hg);clear ho hg VO;have VO:=VO_;clear VO_))
    go_roundw
    case rel=>exact ⟨m - 1,_,acts ++ [⟨4, [], [],(y:Int)⟩],by go_num,by rw [List.length_append];simp only [List.length_singleton];omega,by omega,by omega,⟨Rd.snoc_in HA.out ⟨by simp,by simp⟩⟩,HD,VO⟩
    case measure=>simp [intOf];omega
   ·rcases hx9 with rfl|rfl|rfl|rfl
    all_goals
     by_cases hlt:wrap64 (bd+1) < bs
     ·have y5:decide (wrap64 (bd+1) < bs)=true:=decide_eq_true hlt
      clear hlt;have fl:True:=trivial
      go_upto_if 67 with (first
      |(go_at_call 49;clear fl;refine (pick_rds HD.out HC.out (by have:=HE.out;omega) _).mono ?_;rintro e wn ⟨z,_,rfl,hz,rfl,hd,hk⟩;replace VO:=am (HD.out.rowK hk VO.out (by decide));replace HD:=am (hd);clear hk hd)
      |((with_reducible refine gate_dst (N:=64) rfl ?_);obtain ⟨z0,hz0⟩:∃ z,z=wn.heap.size:=⟨_,rfl⟩;replace VO:=am (Kd.R_mono (ok':=fun k=>k < z0) (Kd.R_bound VO.out) (fun k hk=>by rw [hz0];exact hk.2.2.1));refine Kd.R_lit (Kd.int .i64) (w0:=_) W.heap.size 3 rfl (N:=64) rfl (xs:=([wrap64 (wrap64 (bd+1)+(z:Int))]:List Int)) (inner:= [.int .i64 (wrap64 (wrap64 (bd+1)+(z:Int)))]) (ok:=(fun k=>some k ≠ (Value.slice A acts.length cA).ownBlock)) (okp:=(fun _=>False)) (by go_simp<;>rfl) (Reps.one rfl (Reps.none _ _)) (fun _ hk=>hk.elim) (fun he=>by have:=Kd.R_lt VO.out _ he.symm;omega) (Below.refl _ _) HD.out.size (by simp) ?_;intro v1 wl hv1 hb1 hg hx9;have LK:=am (show ∀ k,v1.ownBlock=some k->z0<=k from fun k hk=>by obtain ⟨b0,hb0,hle⟩:=hx9;rw [hb0] at hk;cases hk;rw [hz0];exact hle);clear hz0;clear hb1 hx9;obtain ⟨ak,ck,ev⟩:=Kd.R_slice hv1;subst ev;have VK_0:=am hv1;clear hv1;have hb:=grown_below hg;replace VO:=am (Kd.R_below VO.out hb);replace HD:=am (HD.out.grow hb);clear hb;clear hg;have VK:=VK_0;clear VK_0)
      |(go_at_call 49;refine (pick_rds HD.out HC.out (by have:=HE.out;omega) _).mono ?_;rintro e wn ⟨y,_,rfl,hy,rfl,hd,hk⟩;replace VO:=am (HD.out.rowK hk VO.out (by decide));replace VK:=am (HD.out.rowK hk VK.out (by decide));replace HD:=am (hd);clear hk hd))
      by_cases hy0:0 < y
      ·have y6:(0:Int) < (y:Int):=by omega
       clear hy
       go_wp2_with (first
       |(go_at_call 49;refine (pick_rds HD.out HC.out (by have:=HE.out;omega) _).mono ?_;rintro e wn ⟨z2,_,rfl,hz2,rfl,hd,hk⟩;replace VO:=am (HD.out.rowK hk VO.out (by decide));replace VK:=am (HD.out.rowK hk VK.out (by decide));replace HD:=am (hd);clear hk hd)
       |((with_reducible refine gate_builtin (b:=.append) (xs:=#[.tmp 68,.tmp 78]) rfl ?_);at_builtin;refine Kd.R_append (Kd.int .i64) (w0:=_) W.heap.size rfl (.tmp 68) (.tmp 78) 29 3 (.int .i64 0) 8 rfl Try.underlying29 info_int rfl (by decide) (by decide) _ [wrap64 (wrap64 (bd+1)+(z:Int))] (wrap64 (wrap64 (bd+1)+(z2:Int))) [.int .i64 (wrap64 (wrap64 (bd+1)+(z2:Int)))] (fun k=>some k ≠ (Value.slice A acts.length cA).ownBlock) (fun _=>False) rfl rfl rfl (fun _ hk=>hk.elim) (fun k hk he=>by have:=Kd.R_lt VO.out k he.symm;omega) VK.out (Below.refl _ _) HD.out.size (by simp) ?_;intro v1 w1 ho hb hg _;clear hb;have VK_:=am ho;replace HD:=am (HD.out.row VK.out hg);have VKO:=VK;have hgk:=am hg;clear ho hg VK;have VK:=VK_;clear VK_;replace VO:=am (Kd.R_mono (ok':=fun _=>True) (Kd.R_step VO.out (fun k hk hlt=>hgk.out.5 k hlt (fun he=>by have:=LK.out k he.symm;omega))) (fun _ _=>trivial));clear VKO hgk LK;obtain ⟨ak2,ck2,ev⟩:=Kd.R_slice VK.out;subst ev)
       |((with_reducible refine gate_builtin (b:=.append) (xs:=#[.tmp 80,.tmp 83]) rfl ?_);at_builtin;refine Kd.R_append kAct (w0:=_) W.heap.size rfl (.tmp 80) (.tmp 83) 104 108 (.agg #[.int .i64 0,.slice none 0 0,.slice none 0 0,.int .i64 0]) 64 rfl Try.underlying104 (by kernel_rfl) rfl (by decide) (by decide) _ acts (⟨2, [], [wrap64 (wrap64 (bd+1)+(z:Int)),wrap64 (wrap64 (bd+1)+(z2:Int))],0⟩:Act) [.int .i64 2,.slice none 0 0,.slice ak2 2 ck2,.int .i64 0] (fun _=>True) (fun k=>some k ≠ (Value.slice A acts.length cA).ownBlock) rfl rfl (kAct_mkM (⟨2, [], [wrap64 (wrap64 (bd+1)+(z:Int)),wrap64 (wrap64 (bd+1)+(z2:Int))],0⟩:Act) (Kd.R_nil _ _ _ _ _) VK.out) (fun k hk=>⟨trivial,hk⟩) (fun _ _=>trivial) VO.out (Below.refl _ _) HD.out.size (by have:=HL.out;omega) ?_;intro v1 w1 ho hb hg _;clear hb;have VO_:=am ho;replace HD:=am (HD.out.row VO.out hg);clear ho hg VO VK;have VO:=VO_;clear VO_))
       go_roundw
       case rel=>exact ⟨m - 1,_,acts ++ [⟨2, [], [wrap64 (wrap64 (bd+1)+(z:Int)),wrap64 (wrap64 (bd+1)+(z2:Int))],0⟩],by go_num,by rw [List.length_append];simp only [List.length_singleton];omega,by omega,by omega,⟨Rd.snoc_in HA.out ⟨by simp,by simp⟩⟩,HD,VO⟩
       case measure=>simp [intOf];omega
      ·have y6:¬ (0:Int) < (y:Int):=by omega
       replace VO:=am (Kd.R_mono (ok':=fun _=>True) VO.out (fun _ _=>trivial));clear hy LK
       go_wp2_with (first
       |((with_reducible refine gate_builtin (b:=.append) (xs:=#[.tmp 80,.tmp 83]) rfl ?_);at_builtin;refine Kd.R_append kAct (w0:=_) W.heap.size rfl (.tmp 80) (.tmp 83) 104 108 (.agg #[.int .i64 0,.slice none 0 0,.slice none 0 0,.int .i64 0]) 64 rfl Try.underlying104 (by kernel_rfl) rfl (by decide) (by decide) _ acts (⟨2, [], [wrap64 (wrap64 (bd+1)+(z:Int))],0⟩:Act) [.int .i64 2,.slice none 0 0,.slice ak 1 ck,.int .i64 0] (fun _=>True) (fun k=>some k ≠ (Value.slice A acts.length cA).ownBlock) rfl rfl (kAct_mkM (⟨2, [], [wrap64 (wrap64 (bd+1)+(z:Int))],0⟩:Act) (Kd.R_nil _ _ _ _ _) VK.out) (fun k hk=>⟨trivial,hk⟩) (fun _ _=>trivial) VO.out (Below.refl _ _) HD.out.size (by have:=HL.out;omega) ?_;intro v1 w1 ho hb hg _;clear hb;have VO_:=am ho;replace HD:=am (HD.out.row VO.out hg);clear ho hg VO VK;have VO:=VO_;clear VO_))
       go_roundw
       case rel=>exact ⟨m - 1,_,acts ++ [⟨2, [], [wrap64 (wrap64 (bd+1)+(z:Int))],0⟩],by go_num,by rw [List.length_append];simp only [List.length_singleton];omega,by omega,by omega,⟨Rd.snoc_in HA.out ⟨by simp,by simp⟩⟩,HD,VO⟩
       case measure=>simp [intOf];omega
     ·have y5:decide (wrap64 (bd+1) < bs)=false:=decide_eq_false hlt
      clear hlt;go_wp2;go_roundw
      case rel=>exact ⟨m - 1,_,acts,by go_num,by omega,by omega,by omega,HA,HD,VO⟩
      case measure=>simp [intOf];omega
   ·have n0:((x:Int) == 0)=false:=by simp;omega
    have n1:((x:Int) == 1)=false:=by simp;omega
    have n2:((x:Int) == 2)=false:=by simp;omega
    have n3:((x:Int) == 3)=false:=by simp;omega
    have n4:((x:Int) == 4)=false:=by simp;omega
    have n5:((x:Int) == 5)=false:=by simp;omega
    have LB:=am (Kd.R_lt VO.out);have LW:=am HD.out.size
    go_wp2_with (first
    |(go_at_call 86;refine (deeds_rds HD.out HC.out (by have:=HE.out;omega) n).mono ?_;rintro e wd ⟨v,ds,q3,rfl,hv,hds,hq5,hq6,hd,hk⟩;replace VO:=am (HD.out.rowK hk VO.out (by decide));replace HD:=am (hd);clear hk hd;obtain ⟨av,cv,ev⟩:=Kd.R_slice hv;subst ev;have VD:=am hv;have HDS:=am hds;clear hv hds)
    |((with_reducible refine gate_builtin (b:=.append) (xs:=#[.tmp 22,.tmp 27]) rfl ?_);at_builtin;refine Kd.R_append kAct (w0:=_) W.heap.size rfl (.tmp 22) (.tmp 27) 104 108 (.agg #[.int .i64 0,.slice none 0 0,.slice none 0 0,.int .i64 0]) 64 rfl Try.underlying104 (by kernel_rfl) rfl (by decide) (by decide) _ acts (⟨1,ds, [],0⟩:Act) [.int .i64 1,.slice av ds.length cv,.slice none 0 0,.int .i64 0] (fun _=>True) (fun k=>wn.heap.size<=k) rfl rfl (kAct_mkM (⟨1,ds, [],0⟩:Act) (Kd.R_lower (Kd.R_mono (Kd.R_bound VD.out) (fun k hk=>hk.2.1)) LW.out) (Kd.R_nil _ _ _ _ _)) (fun k hk=>⟨trivial,fun he=>by have:=LB.out k he.symm;omega⟩) (fun _ _=>trivial) VO.out (Below.refl _ _) HD.out.size (by have:=HL.out;omega) ?_;intro v1 w1 ho hb hg _;clear hb;have VO_:=am ho;replace HD:=am (HD.out.row VO.out hg);clear ho hg VO VD;have VO:=VO_;clear VO_))
    go_roundw
    case rel=>exact ⟨m - 1,_,acts ++ [⟨1,ds, [],0⟩],by go_num,by rw [List.length_append];simp only [List.length_singleton];omega,by omega,by omega,⟨Rd.snoc_in HA.out ⟨HDS.out,by simp⟩⟩,HD,VO⟩
    case measure=>simp [intOf];omega
  ·have y3:¬ (0:Int) < (m:Int):=by omega
   go_wp2;go_ret;exact ⟨_,_,_,rfl,VO.out,⟨by omega,HA.out⟩,hq3,by omega,HH.out.back HD.out,HD.out.keep⟩
def TurnsPost (w0 w W:World) (g:Nat) (b:List Int) (q:Int) (e:Ending) (W':World):Prop:=∃ (v:Value) (ks:List Int) (q2:Int),e= .returned v/\(Kd.int .i64).R 3 W' W.heap.size (fun _=>True) v ks/\ks.length<=200/\q<=q2/\q2<=q+1000/\Rds w0 w g b q2 W'/\KeepBut W W' g none
def lenOf:Value->Nat
 | .slice _ n _=>n
 | _=>0
theorem turns_rds (h:Rds w0 w g b q W) (hc:Rd.Code b) (hq:q<=600000) {n:Int} (hn0:0<=n) (hn1:n<=190):
  Calls Try.prog 118 #[.pointer (some ⟨g,0,none⟩),.int .i64 n] W fun e W'=>TurnsPost w0 w W g b q e W':=by
 have HD:=am (Rds.start h.rd h.below h.pos);have HC:=am hc;have HE:=am hq;have HH:=am h;clear h hc hq;have N0:=am hn0;have N1:=am hn1;clear hn0 hn1;go_enter Try.func118,Try.ntmps118
 go_wp2_with (first
 |((with_reducible refine gate_dst (N:=8) rfl ?_);refine Kd.R_lit (Kd.int .i64) (w0:=_) W.heap.size 3 rfl (N:=8) rfl (xs:=([]:List Int)) (inner:= []) (ok:=(fun _=>True)) (okp:=(fun _=>True)) (by go_simp<;>rfl) (Reps.none _ _) (fun _ _=>trivial) trivial (Below.refl _ _) HD.out.size (by simp) ?_;intro v1 wl hv1 hb1 hg hx9;clear hb1 hx9;obtain ⟨A,cA,ev⟩:=Kd.R_slice hv1;subst ev;have VO_0:=am hv1;clear hv1;have hb:=grown_below hg;replace HD:=am (HD.out.grow hb);clear hb;clear hg;have VO:=VO_0;clear VO_0))
 have HE0:=HE;go_loopw [5] (fun v w'=>∃ (q2:Int) (ks:List Int),(ks.length:Int)<=n+4/\q<=q2/\q2<=q+3*ks.length/\Aside0 (Rds w0 W g b q2 w')/\Aside0 ((Kd.int .i64).R 3 w' W.heap.size (fun _=>True) v ks)) (fun v _=>(n+5).toNat - lenOf v)
 case atStart=>exact ⟨_, [],by have:=N0.out;simp;omega,by omega,by simp,HD,VO⟩
 case round=>
  clear HD VO;obtain ⟨q2,ks,hl,hq3,hq4,HD,VO⟩:=hrel;obtain ⟨A,cA,ev⟩:=Kd.R_slice VO.out;subst ev;have HL:=am hl;have HQ3:=am hq3;have HQ4:=am hq4;replace HE:=am (show q2<=700000 by have:=HE0.out;have:=N1.out;omega);clear hl hq3 hq4;by_cases hlt:(ks.length:Int) < n
  ·have HLT:=am hlt
   have fl:True:=trivial
   go_wp2_with (first
   |(go_at_call 49;clear fl;refine (pick_rds HD.out HC.out (by have:=HE.out;omega) _).mono ?_;rintro e wn ⟨t,_,rfl,ht,rfl,hd,hk⟩;replace VO:=am (HD.out.rowK hk VO.out (by decide));replace HD:=am (hd);clear hk hd)
   |(go_at_call 49;refine (pick_rds HD.out HC.out (by have:=HE.out;omega) 5).mono ?_;rintro e wn ⟨x,_,rfl,hx,rfl,hd,hk⟩;replace VO:=am (HD.out.rowK hk VO.out (by decide));replace HD:=am (hd);clear hk hd;have bx_:x<=4:=(by omega)))
   obtain ⟨m,hm⟩:∃ m:Nat,(m:Int)=1+(x:Int):=⟨1+x,by omega⟩;rw [<-hm];have HM:=am (show 1<=m/\m<=5 by omega);clear hm bx_ hx ht hlt;go_loopw [5,7] (fun v j w'=>∃ (m2:Nat) (ks2:List Int),j= .int .i64 m2/\ks2.length+m2=ks.length+m/\Aside0 (Rds w0 W g b (q2+1+1) w')/\Aside0 ((Kd.int .i64).R 3 w' W.heap.size (fun _=>True) v ks2)) (fun _ j _=>(intOf j).toNat)
   case atStart=>exact ⟨m,ks,rfl,rfl,HD,VO⟩
   case round=>
    clear HD VO;obtain ⟨m2,ks2,rfl,hl2,HD,VO⟩:=hrel;obtain ⟨A2,cA2,ev⟩:=Kd.R_slice VO.out;subst ev;have HL2:=am hl2;by_cases hm:0 < m2
    ·have y3:(0:Int) < (m2:Int):=by omega
     have wm:wrap64 ((m2:Int) - 1)=((m2 - 1:Nat):Int):=by rw [wrap_in (by omega) (by have:=HM.out;have:=HL.out;have:=N1.out;omega)];omega
     go_wp2_with (first
     |((with_reducible refine gate_builtin (b:=.append) (xs:=#[.tmp 22,.tmp 24]) rfl ?_);at_builtin;refine Kd.R_append (Kd.int .i64) (w0:=_) W.heap.size rfl (.tmp 22) (.tmp 24) 29 3 (.int .i64 0) 8 rfl Try.underlying29 info_int rfl (by decide) (by decide) _ ks2 (t:Int) [.int .i64 (t:Int)] (fun _=>True) (fun _=>False) rfl rfl rfl (fun _ hk=>hk.elim) (fun _ _=>trivial) VO.out (Below.refl _ _) HD.out.size (by have:=HL2.out;have:=HL.out;have:=HM.out;have:=N1.out;omega) ?_;intro v1 w1 ho hb hg _;clear hb;have VO_:=am ho;replace HD:=am (HD.out.row VO.out hg);clear ho hg VO;have VO:=VO_;clear VO_))
     go_roundw
     case rel=>exact ⟨m2 - 1,ks2 ++ [(t:Int)],by go_num,by rw [List.length_append];simp only [List.length_singleton];omega,HD,VO⟩
     case measure=>simp [intOf];omega
    ·have y3:¬ (0:Int) < (m2:Int):=by omega
     have HM2:=am (show m2=0 by omega);clear hl2
     go_upto_if 28 with (first
     |(go_at_call 49;refine (pick_rds HD.out HC.out (by have:=HE.out;omega) 40).mono ?_;rintro e wn ⟨x,_,rfl,hx,rfl,hd,hk⟩;replace VO:=am (HD.out.rowK hk VO.out (by decide));replace HD:=am (hd);clear hk hd))
     have hb2:(ks2.length:Int)=ks.length+m:=by have:=HL2.out;have:=HM2.out;omega
     have b1:=HM.out;have b2:=HL.out;have b3:=HLT.out;have b4:=HQ3.out;have b5:=HQ4.out;have b6:=N1.out;have HB:=am (show ks2.length<=200/\(ks2.length:Int)<=n+4/\q<=q2+1+1+1/\q2+1+1+1<=q+3*ks2.length/\ks.length < ks2.length/\(ks.length:Int) < n by omega);clear hb2 b1 b2 b3 b4 b5 b6 hx;by_cases hx0:x=0
     ·have y1:((x:Int) == 0)=true:=by simp [hx0]
      have y2:(x == 0)=true:=by simp [hx0]
      clear hx0;go_wp2;go_ret;exact ⟨_,_,_,rfl,VO.out,HB.out.1,HB.out.2.2.1,by have:=HB.out;omega,HH.out.back HD.out,HD.out.keep⟩
     ·have y1:((x:Int) == 0)=false:=by simp [hx0]
      have y2:(x == 0)=false:=by simp [hx0]
      clear hx0;go_wp2;go_roundw
      case rel=>exact ⟨_,ks2,HB.out.2.1,HB.out.2.2.1,HB.out.2.2.2.1,HD,VO⟩
      case measure=>have:=HB.out;simp [lenOf];omega
  ·have hle:n<=(ks.length:Int):=by omega
   obtain ⟨i0,hi0,_,hsz,_⟩:=info_parts info_int;have hcut:=cut_to (P:=Try.prog) 29 3 .i64 Try.underlying29 hi0 A ks.length cA n N0.out hle (Kd.R_reads' VO.out).2.1;have hr:=Kd.R_take (m:=n.toNat) VO.out (by omega);obtain ⟨ys,hys⟩:∃ ys,ys=ks.take n.toNat:=⟨_,rfl⟩;have hyl:ys.length=n.toNat:=by rw [hys,List.length_take];omega
   rw [<-hys] at hr;rw [<-hyl] at hr hcut;have p0:(0<=n)=True:=eq_true N0.out;have p1:(n<=(ks.length:Int))=True:=eq_true hle;have VT:=am hr;have HB:=am (show ys.length<=200/\q2<=q+1000 by have:=N1.out;have:=HL.out;have:=HQ4.out;omega);clear hr VO hys hi0 hsz hle hyl;go_wp2;go_ret;exact ⟨_,ys,_,rfl,VT.out,HB.out.1,HQ3.out,HB.out.2,HH.out.back HD.out,HD.out.keep⟩
end
theorem info_u8:(Try.prog.info? 5).map (fun i=>(i.zero,i.size,i.bytes))=some (some (.int .u8 0),1,1):=by kernel_rfl
theorem open_rds (A:Option Addr) (c:Nat) (l:List Int) (w:World) (hC:(Kd.int .u8).C w A l.length l) (hc:l.length<=c) (hb:∀ i:Nat,0<=l.getD i 0/\l.getD i 0<=255):
  Calls Try.prog 47 #[.slice A l.length c] w fun e w'=>∃ g b,e= .returned (.pointer (some ⟨g,0,none⟩))/\Rd.IsS101 w w' g b 0/\Rd.Code b/\Below w.heap.size w w':=by
 have HC:=am hC;have HY:=am hb;go_enter Try.func47,Try.ntmps47;by_cases h:(l.length:Int) > 2000
 ·have y0:decide (2000 < (l.length:Int))=true:=decide_eq_true h
  have y1:decide (2000 < l.length)=true:=decide_eq_true (by omega);obtain ⟨i0,hi0,_,hsz,_⟩:=info_parts info_u8;obtain ⟨hcut,hA,hC4⟩:=print_take_of (P:=Try.prog) (Value.int .u8) 0 22 5 .i64 Try.underlying22 hi0 hsz A c l 2000 (by omega) (by omega) hc;have HR:=am (Kd.C_of_reads (h1:=fun _=>rfl) (hA _ (Kd.reads_of_C HC.out)))
  have p1:(2000<=(l.length:Int))=True:=eq_true (by omega);clear hA hC4 hi0 hsz hb h hC
  go_wp2_with (first
  |((with_reducible refine gate_dst (N:=10) rfl ?_);refine box_event rfl (N:=10) rfl (cs:=(#[.slice A (l.take 2000).length c,.int .i64 0])) (t:=101) (by go_simp<;>rfl) ?_;intro gb hg0 wn hbox hb9;have BK:=am hbox;have HB:=am hb9;have GE:=am (Nat.le_of_eq hg0.symm);clear hbox hg0 hb9))
  go_ret;refine ⟨gb,_,rfl,⟨_,_,BK.out,GE.out,HR.out⟩,⟨fun i=> ?_,by rw [List.length_take];omega⟩,HB.out⟩;by_cases hi:i < 2000
  ·rw [show (l.take 2000).getD i 0=l.getD i 0 by simp [List.getD_eq_getElem?_getD,List.getElem?_take,hi]]
   exact HY.out i
  ·rw [show (l.take 2000).getD i 0=0 by simp [List.getD_eq_getElem?_getD,List.getElem?_take,hi]]
   omega
 ·have y0:decide (2000 < (l.length:Int))=false:=decide_eq_false h
  have y1:decide (2000 < l.length)=false:=decide_eq_false (by omega);have HLL:=am (show l.length<=2000 by omega);clear hC hb h
  go_wp2_with (first
  |((with_reducible refine gate_dst (N:=10) rfl ?_);refine box_event rfl (N:=10) rfl (cs:=(#[.slice A l.length c,.int .i64 0])) (t:=101) (by go_simp<;>rfl) ?_;intro gb hg0 wn hbox hb9;have BK:=am hbox;have HB:=am hb9;have GE:=am (Nat.le_of_eq hg0.symm);clear hbox hg0 hb9))
  go_ret;exact ⟨gb,l,rfl,⟨_,_,BK.out,GE.out,HC.out⟩,⟨HY.out,HLL.out⟩,HB.out⟩
end Go.Proofs.Ytimamoimphjakaa.Eq
