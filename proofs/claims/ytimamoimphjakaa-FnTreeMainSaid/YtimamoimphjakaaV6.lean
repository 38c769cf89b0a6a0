import Derived.Test.YtimamoimphjakaaV5
set_option maxHeartbeats 8000000
set_option maxRecDepth 100000
set_option linter.unusedVariables false
set_option linter.unusedSimpArgs false
namespace Go.Proofs.Ytimamoimphjakaa.Eq
open Go.RowKit Go.Proofs.YtimamoimphjakaaW.PrintWords Go.Proofs.YtimamoimphjakaaW.PrintLast Go.Proofs.YtimamoimphjakaaW.PrintMore
def Sta (B:Nat) (own:Nat->Nat) (W:World) (s:Sys) (ss:List Value):Prop:=∀ W2:World,W.heap.size<=W2.heap.size->(∀ k,B<=k->own k ≠ 0->k < W.heap.size->W2.heap[k]? = W.heap[k]?)->kSys.K W2 s ss
theorem Sta.move {B:Nat} {own:Nat->Nat} {W W1:World} {s:Sys} {ss:List Value} (h:Sta B own W s ss) (hs:W.heap.size<=W1.heap.size) (hm:∀ k,own k ≠ 0->k < W.heap.size->W1.heap[k]? = W.heap[k]?):Sta B own W1 s ss:=
 fun W2 h2 hm2=>h W2 (Nat.le_trans hs h2) (fun k hB ho hl=>(hm2 k hB ho (Nat.lt_of_lt_of_le hl hs)).trans (hm k ho hl))
theorem Sta.grow {B:Nat} {own:Nat->Nat} {W W1:World} {s:Sys} {ss:List Value} (h:Sta B own W s ss) (hb:Below W.heap.size W W1):Sta B own W1 s ss:=h.move hb.size (fun k _ hl=>hb.block k hl)
theorem Sy.above {B:Nat} {own:Nat->Nat} {W:World} {s:Sys} {vc vt vl:Value} (h:Sy B own s vc vt vl W) {k:Nat} (hk:own k ≠ 0):B<=k:=Nat.le_of_not_lt fun hlt=>hk (h.low k hlt)
theorem Sy.sta {B:Nat} {own:Nat->Nat} {W:World} {s:Sys} {vc vt vl:Value} (h:Sy B own s vc vt vl W):Sta B own W s [vc,vt,.int .i64 s.clock,vl]:=fun W2 hs hm=>(h.move hs (fun k ho hl=>hm k (h.above ho) ho hl)).read
structure Held (B N g:Nat) (s:Sys) (ss:List Value) (W:World):Prop where
 size:N<=W.heap.size
 read:∀ W2:World,N<=W2.heap.size->(∀ k,B<=k->k < N->k ≠ g->W2.heap[k]? = W.heap[k]?)->kSys.K W2 s ss
section
variable {B N g:Nat} {s:Sys} {ss:List Value} {W W1:World}
theorem Held.now (h:Held B N g s ss W):kSys.K W s ss:=h.read W h.size (fun _ _ _ _=>rfl)
theorem Held.move (h:Held B N g s ss W) (hs:W.heap.size<=W1.heap.size) (hm:∀ k,B<=k->k < N->k ≠ g->W1.heap[k]? = W.heap[k]?):Held B N g s ss W1:=
 ⟨Nat.le_trans h.size hs,fun W2 h2 hm2=>h.read W2 h2 (fun k hB hl hg=>(hm2 k hB hl hg).trans (hm k hB hl hg))⟩
theorem Held.keep (h:Held B N g s ss W) (hk:KeepBut W W1 g none):Held B N g s ss W1:=h.move hk.1 (fun k _ hl hg=>hk.2 k (Nat.lt_of_lt_of_le hl h.size) hg (by simp))
theorem Held.grow (h:Held B N g s ss W) (hb:Below W.heap.size W W1):Held B N g s ss W1:=h.move hb.size (fun k _ hl _=>hb.block k (Nat.lt_of_lt_of_le hl h.size))
theorem Held.grown (h:Held B N g s ss W) {row:Option Nat} (hg:W.grownBy W1 row) (hr:∀ k,row=some k->k < B\/N<=k):Held B N g s ss W1:=
 h.move hg.size (fun k hB hl _=>hg.block k (Nat.lt_of_lt_of_le hl h.size) (fun he=>by have:=hr k he.symm;omega))
end
theorem setTask_sz {s:Sys} {k:Nat} {t:Task} (h:SysSz s) (hk:k < s.tasks.length) (h3:t.regs=(tk s k).regs) (h8:t.old=(tk s k).old) (h9:t.reads=(tk s k).reads) (h10:t.puts=(tk s k).puts):SysSz (setTask s k t) where
 cells:=h.cells
 tasks:=by rw [set_len];exact h.tasks
 log:=h.log
 logs:=h.logs
 task:=fun i hi=>by
  rw [set_len] at hi;show (tk (setTask s k t) i).regs.length<=_/\(tk (setTask s k t) i).old.length<=_/\(tk (setTask s k t) i).reads.length<=_/\(tk (setTask s k t) i).puts.length<=_;by_cases he:i=k
  ·subst he
   rw [tk_set hk,h3,h8,h9,h10];exact h.task i hk
  ·rw [tk_other he]
   exact h.task i hi
def OffPost (w0 w:World) (g:Nat) (b:List Int) (q0:Int) (e:Ending) (w':World):Prop:=∃ (p:Prog) (s:Sys) (vc vb:Value) (ss:List Value) (q:Int),e= .returned (.tuple #[.agg #[vc,vb],.agg ss.toArray])/\progOk p=true/\ProgSz p/\(Kd.int .i64).R 3 w' w.heap.size (fun _=>True) vc p.cells/\(Kd.slice 108 kAct).R 104 w' w.heap.size (fun _=>True) vb p.bodies/\Held w.heap.size w'.heap.size g s ss w'/\SysSz s/\s.log.length+s.tasks.length<=1000/\1<=s.tasks.length/\Rds w0 w g b q w'/\q0<=q/\q<=q0+8000
theorem l71Off_calls (w0 w:World) (g:Nat) (b:List Int) (q0:Int) (hI:Rd.IsS101 w0 w g b q0) (hB:Below w0.heap.size w0 w) (hc:Rd.Code b) (h0:0<=q0) (h1:q0<=500000):
  Calls Try.prog 48 #[.pointer (some ⟨g,0,none⟩)] w fun e w'=>OffPost w0 w g b q0 e w':=by
 have HD:=am (Rds.start hI hB h0);have HC:=am hc;have HQ0:=am h1;have HQ:=am (show q0<=q0/\q0<=q0 from ⟨Int.le_refl _,Int.le_refl _⟩);clear hI hB hc h0 h1;go_enter Try.func48,Try.ntmps48
 go_wp2_with (first
 |((with_reducible refine gate_dst (N:=2) rfl ?_);refine box_event rfl (N:=2) rfl (t:=48) (by go_simp<;>rfl) ?_;intro gz hg0 wn hbox hb;have BZ_0:=am hbox;have LBZ:=am (show w.heap.size<=gz from Nat.le_trans HD.out.size (Nat.le_of_eq hg0.symm));clear hbox hg0;replace HD:=am (HD.out.grow hb);clear hb;have BZ:=BZ_0;clear BZ_0;have BZc:=zc8 BZ.out)
 |((with_reducible refine gate_dst (N:=3) rfl ?_);refine box_event rfl (N:=3) rfl (t:=27) (by go_simp<;>rfl) ?_;intro gy hg0 wn hbox hb;have BY_0:=am hbox;have LBY:=am (show w.heap.size<=gy from Nat.le_trans HD.out.size (Nat.le_of_eq hg0.symm));have NBZBY:=am (show gz ≠ gy from fun he=>by have:=blk_lt BZ.out;omega);clear hbox hg0;replace BZ:=am (zb8 BZ.out hb);replace HD:=am (HD.out.grow hb);clear BZc;have BZc:=zc8 BZ.out;clear hb;have BY:=BY_0;clear BY_0;have BYc:=zc8 BY.out)
 |(go_at_call 84;refine (l71Sys_calls w0 _ g b q0 HD.out.rd HD.out.below HC.out HD.out.pos HQ0.out).mono ?_;rintro e wn ⟨p,sn,vc,vb,sc,st,sl,own,q2,NN,rfl,hok,hsz,hcl,hvc,hvb,hinv,hN,htl,hsy,hd,hq2,hq3⟩;have LW:=HD.out.size;have hk:=hd.keep;replace HQ:=am (show q0<=q2/\q2<=q0+7000 from ⟨hq2,hq3⟩);have OG:=am (hsy.low g (Nat.lt_of_lt_of_le HD.out.lt LW));have OZ:=am (hsy.low gz (blk_lt BZ.out));have OY:=am (hsy.low gy (blk_lt BY.out));replace hd:=HD.out.next hd.rd hd.below hk hd.pos;clear hq2 hq3;replace BZ:=am (HD.out.blkK hk BZ.out (by decide));replace BY:=am (HD.out.blkK hk BY.out (by decide));replace HD:=am (hd);clear BZc BYc;have BZc:=zc8 BZ.out;have BYc:=zc8 BY.out;clear hk hd;obtain ⟨A,cA,ev⟩:=Kd.R_slice hvc;subst ev;obtain ⟨B,cB,ev⟩:=Kd.R_slice hvb;subst ev;obtain ⟨Uc,uc,e1⟩:=Kd.R_slice hsy.cells;obtain ⟨Ut,ut,e2⟩:=Kd.R_slice hsy.tasks;obtain ⟨Ul,ul,e3⟩:=Kd.R_slice hsy.log;rw [zip_len] at e2;subst e1 e2 e3;obtain ⟨lk,hlk⟩:∃ z:Nat,z=p.cells.length:=⟨_,rfl⟩;obtain ⟨lb,hlb⟩:∃ z:Nat,z=p.bodies.length:=⟨_,rfl⟩;rw [<-hlk] at hvc;rw [<-hlb] at hvb;rw [<-hlk,<-hlb];have VC:=am (Kd.R_lower hvc LW);have VB:=am (Kd.R_lower hvb LW);have OK:=am hok;have HSZ:=am hsz;have HCL:=am (show 1<=sn.cells.length by rw [hinv.cells];exact hcl);have HIV:=am hinv;have HN:=am hN;have HTL:=am htl;have HS:=am (hsy.lower LW);clear hvc hvb LW hlk hlb hok hsz hcl hinv hN htl hsy)
 |((with_reducible refine gate_dst (N:=4) rfl ?_);refine box_event rfl (N:=4) rfl (t:=48) (by go_simp<;>rfl) ?_;intro gp hg0 wn hbox hb;have BP_0:=am hbox;have LBP:=am (show w.heap.size<=gp from Nat.le_trans HD.out.size (Nat.le_of_eq hg0.symm));have NBZBP:=am (show gz ≠ gp from fun he=>by have:=blk_lt BZ.out;omega);have OP:=am (HS.out.new0 gp (Nat.le_of_eq hg0.symm));replace HS:=am (HS.out.grow hb);clear hbox hg0;replace VC:=am (Kd.R_below VC.out hb);replace VB:=am (Kd.R_below VB.out hb);replace BZ:=am (zb8 BZ.out hb);replace BY:=am (zb8 BY.out hb);replace HD:=am (HD.out.grow hb);clear BZc BYc;have BZc:=zc8 BZ.out;have BYc:=zc8 BY.out;clear hb;have BP:=BP_0;clear BP_0;have BPc:=zc8 BP.out)
 |((with_reducible refine gate_dst (N:=5) rfl ?_);refine box_event rfl (N:=5) rfl (t:=27) (by go_simp<;>rfl) ?_;intro gs hg0 wn hbox hb;have BS_0:=am hbox;have LBS:=am (show w.heap.size<=gs from Nat.le_trans HD.out.size (Nat.le_of_eq hg0.symm));have NBYBS:=am (show gy ≠ gs from fun he=>by have:=blk_lt BY.out;omega);have OS:=am (HS.out.new0 gs (Nat.le_of_eq hg0.symm));replace HS:=am (HS.out.grow hb);clear hbox hg0;replace VC:=am (Kd.R_below VC.out hb);replace VB:=am (Kd.R_below VB.out hb);replace BZ:=am (zb8 BZ.out hb);replace BY:=am (zb8 BY.out hb);replace BP:=am (zb8 BP.out hb);replace HD:=am (HD.out.grow hb);clear BZc BYc BPc;have BZc:=zc8 BZ.out;have BYc:=zc8 BY.out;have BPc:=zc8 BP.out;clear hb;have BS:=BS_0;clear BS_0;have BSc:=zc8 BS.out)
 |((with_reducible refine gate_store (t:=48) (p:=4) rfl ?_);refine store_block rfl rfl 48 (.tmp 4) (.tmp 10) rfl rfl rfl BP.out rfl (by kernel_rfl) (aB rfl) ?_;intro wn hbox hg;have BP_0:=am hbox;replace VC:=am (R_grownT VC.out BP.out (by decide) hg);replace VB:=am (R_grownT VB.out BP.out (by decide) hg);replace BZ:=am (blk_grown BZ.out hg (fun he=>NBZBP.out (by injection he)));replace BY:=am (blk_grown BY.out hg (fun he=>blk_ne BY.out BP.out (by decide) (by injection he)));replace BS:=am (blk_grown BS.out hg (fun he=>blk_ne BS.out BP.out (by decide) (by injection he)));replace HS:=am (HS.out.move hg.size (fun q hq hl=>hg.block q hl (fun he=>hq (by injection he with he;rw [he];exact OP.out))));replace HD:=am (HD.out.grown hg (fun k hk=>by cases hk;exact LBP.out));clear BP BZc BYc BPc BSc;have BP:=BP_0;clear BP_0 hbox hg;have BZc:=zc8 BZ.out;have BYc:=zc8 BY.out;have BPc:=zc8 BP.out;have BSc:=zc8 BS.out)
 |((with_reducible refine gate_store (t:=27) (p:=5) rfl ?_);refine store_block rfl rfl 27 (.tmp 5) (.tmp 11) rfl rfl rfl BS.out rfl (by kernel_rfl) (aB rfl) ?_;intro wn hbox hg;have BS_0:=am hbox;replace VC:=am (R_grownT VC.out BS.out (by decide) hg);replace VB:=am (R_grownT VB.out BS.out (by decide) hg);replace BZ:=am (blk_grown BZ.out hg (fun he=>blk_ne BZ.out BS.out (by decide) (by injection he)));replace BY:=am (blk_grown BY.out hg (fun he=>NBYBS.out (by injection he)));replace BP:=am (blk_grown BP.out hg (fun he=>blk_ne BP.out BS.out (by decide) (by injection he)));replace HS:=am (HS.out.move hg.size (fun q hq hl=>hg.block q hl (fun he=>hq (by injection he with he;rw [he];exact OS.out))));replace HD:=am (HD.out.grown hg (fun k hk=>by cases hk;exact LBS.out));clear BS BZc BYc BPc BSc;have BS:=BS_0;clear BS_0 hbox hg;have BZc:=zc8 BZ.out;have BYc:=zc8 BY.out;have BPc:=zc8 BP.out;have BSc:=zc8 BS.out))
 refine (pick_rds HD.out HC.out (by have:=HQ.out;have:=HQ0.out;(try have:=HNX.out);(try have:=HNB.out);omega) 14).mono ?_;rintro e wn ⟨x,q2,rfl,hx,hq2,hd,hk⟩;replace HS:=am (HS.out.move hk.1 (fun q9 ho hl=>hk.2 q9 hl (fun he=>ho (by rw [he];exact OG.out)) (by simp)));replace HQ:=am (show q0<=q2/\q2<=q0+7001 from by have:=HQ.out;(try have:=HNX.out);(try have:=HNB.out);omega);clear hq2;replace VC:=am (HD.out.rowK hk VC.out (by decide));replace VB:=am (HD.out.rowK hk VB.out (by decide));replace BZ:=am (HD.out.blkK hk BZ.out (by decide));replace BY:=am (HD.out.blkK hk BY.out (by decide));replace BP:=am (HD.out.blkK hk BP.out (by decide));replace BS:=am (HD.out.blkK hk BS.out (by decide));replace HD:=am (hd);clear BZc BYc BPc BSc;have BZc:=zc8 BZ.out;have BYc:=zc8 BY.out;have BPc:=zc8 BP.out;have BSc:=zc8 BS.out;clear hk hd;by_cases hx0:x=0
 ·have q4:¬ (0:Int) < (x:Int):=by omega
  have q6:(0 < x)=False:=eq_false (by omega);clear hx hx0
  go_wp2_with (first
  |(go_at_call 49;fail))
  refine (pick_rds HD.out HC.out (by have:=HQ.out;have:=HQ0.out;(try have:=HNX.out);(try have:=HNB.out);omega) (sn.tasks.length:Int)).mono ?_;rintro e wn ⟨k,q2,rfl,hk,hq2,hd,hk⟩;replace HS:=am (HS.out.move hk.1 (fun q9 ho hl=>hk.2 q9 hl (fun he=>ho (by rw [he];exact OG.out)) (by simp)));replace HQ:=am (show q0<=q2/\q2<=q0+7002 from by have:=HQ.out;(try have:=HNX.out);(try have:=HNB.out);omega);clear hq2;replace VC:=am (HD.out.rowK hk VC.out (by decide));replace VB:=am (HD.out.rowK hk VB.out (by decide));replace BZ:=am (HD.out.blkK hk BZ.out (by decide));replace BY:=am (HD.out.blkK hk BY.out (by decide));replace BP:=am (HD.out.blkK hk BP.out (by decide));replace BS:=am (HD.out.blkK hk BS.out (by decide));replace HD:=am (hd);clear BZc BYc BPc BSc;have BZc:=zc8 BZ.out;have BYc:=zc8 BY.out;have BPc:=zc8 BP.out;have BSc:=zc8 BS.out;clear hk hd;have hkl:k < sn.tasks.length:=by have:=HTL.out;omega
  clear hk
  go_wp2_with (first
  |(go_at_call 49;fail))
  refine (pick_rds HD.out HC.out (by have:=HQ.out;have:=HQ0.out;(try have:=HNX.out);(try have:=HNB.out);omega) 8).mono ?_;rintro e wn ⟨y,q2,rfl,hy,hq2,hd,hk⟩;replace HS:=am (HS.out.move hk.1 (fun q9 ho hl=>hk.2 q9 hl (fun he=>ho (by rw [he];exact OG.out)) (by simp)));replace HQ:=am (show q0<=q2/\q2<=q0+7003 from by have:=HQ.out;(try have:=HNX.out);(try have:=HNB.out);omega);clear hq2;replace VC:=am (HD.out.rowK hk VC.out (by decide));replace VB:=am (HD.out.rowK hk VB.out (by decide));replace BZ:=am (HD.out.blkK hk BZ.out (by decide));replace BY:=am (HD.out.blkK hk BY.out (by decide));replace BP:=am (HD.out.blkK hk BP.out (by decide));replace BS:=am (HD.out.blkK hk BS.out (by decide));replace HD:=am (hd);clear BZc BYc BPc BSc;have BZc:=zc8 BZ.out;have BYc:=zc8 BY.out;have BPc:=zc8 BP.out;have BSc:=zc8 BS.out;clear hk hd;have hy8:y=0\/y=1\/y=2\/y=3\/y=4\/y=5\/y=6\/y=7:=by omega
  clear hy;rename_i K3 h3 K2 h2 K1 h1
  have TL:∀ {u0 u1 u6 u7 u8 u9 u10 u11 u12 u13 u14 u15 u16 u17 u18 u19 u20 u21 u22 u23 u24 u25 u26 u27 u28 u29 u30 u31 u32 u33 u34 u35 u36 u37 u38 u39 u40 u41 u42 u43 u44 u45 u46 u47 u48 u49 u50 u51 u52 u53 u54 u55 u56 u57 u58 u59 u60 u61 u62 u63 u64 u65 u66 u67 u68 u69 u70 u71 u72 u73 u74 u75 u76 u77 u78 u79 u80 u81 u82 u83 u84 u85 u86 u87 u88 u89 u90 u91 u92 u93 u94 u95 u96 u97 u98 u99 u100 u101 u102 u103 u104 u105 u106 u107:Value} {wz:World} {s2:Sys} {own2:Nat->Nat} {X0 X1 X3:Option Addr} {n0 n1 n3 k0 k1 k3:Nat} {zc qq:Int},Aside0 (wz.heap[gz]? = some (.cells #[.slice none 0 0,.slice none 0 0] 48 (0,0)))->Aside0 (wz.heap[gy]? = some (.cells #[.slice none 0 0,.slice none 0 0,.int .i64 0,.slice none 0 0] 27 (0,0)))->Aside0 (wz.heap[gp]? = some (.cells #[.slice A lk cA,.slice B lb cB] 48 (0,0)))->Aside0 (wz.heap[gs]? = some (.cells #[.slice X0 n0 k0,.slice X1 n1 k1,.int .i64 zc,.slice X3 n3 k3] 27 (0,0)))->Aside0 ((Kd.int .i64).R 3 wz w.heap.size (fun _=>True) (.slice A lk cA) p.cells)->Aside0 ((Kd.slice 108 kAct).R 104 wz w.heap.size (fun _=>True) (.slice B lb cB) p.bodies)->Aside0 (Sta w.heap.size own2 wz s2 [.slice X0 n0 k0,.slice X1 n1 k1,.int .i64 zc,.slice X3 n3 k3])->Aside0 (Rds w0 w g b qq wz)->Aside0 (q0<=qq/\qq<=q0+7004)->Aside0 (own2 g=0)->Aside0 (own2 gz=0)->Aside0 (own2 gy=0)->Aside0 (own2 gp=0)->Aside0 (own2 gs=0)->Aside0 (SysSz s2)->Aside0 (s2.log.length+s2.tasks.length<=1000)->Aside0 (1<=s2.tasks.length)->K3 {tmps:=#[u0,u1,.pointer (some ⟨gz,0,none⟩),.pointer (some ⟨gy,0,none⟩),.pointer (some ⟨gp,0,none⟩),.pointer (some ⟨gs,0,none⟩),u6,u7,u8,u9,u10,u11,u12,u13,u14,u15,u16,u17,u18,u19,u20,u21,u22,u23,u24,u25,u26,u27,u28,u29,u30,u31,u32,u33,u34,u35,u36,u37,u38,u39,u40,u41,u42,u43,u44,u45,u46,u47,u48,u49,u50,u51,u52,u53,u54,u55,u56,u57,u58,u59,u60,u61,u62,u63,u64,u65,u66,u67,u68,u69,u70,u71,u72,u73,u74,u75,u76,u77,u78,u79,u80,u81,u82,u83,u84,u85,u86,u87,u88,u89,u90,u91,u92,u93,u94,u95,u96,u97,u98,u99,u100,u101,u102,u103,u104,u105,u106,u107,undef,undef],defers:= []} wz:=by
   clear OG OZ OY OP OS HS VC VB BZ BY BP BS HD HQ BZc BYc BPc BSc;intro u0 u1 u6 u7 u8 u9 u10 u11 u12 u13 u14 u15 u16 u17 u18 u19 u20 u21 u22 u23 u24 u25 u26 u27 u28 u29 u30 u31 u32 u33 u34 u35 u36 u37 u38 u39 u40 u41 u42 u43 u44 u45 u46 u47 u48 u49 u50 u51 u52 u53 u54 u55 u56 u57 u58 u59 u60 u61 u62 u63 u64 u65 u66 u67 u68 u69 u70 u71 u72 u73 u74 u75 u76 u77 u78 u79 u80 u81 u82 u83 u84 u85 u86 u87 u88 u89 u90 u91 u92 u93 u94 u95 u96 u97 u98 u99 u100 u101 u102 u103 u104 u105 u106 u107 wz s2 own2 X0 X1 X3 n0 n1 n3 k0 k1 k3 zc qq BZ BY BP BS VC VB HS HD HQ OG OZ OY OP OS HZ2 HL2 HT2;have BZc:=zc8 BZ.out;have BYc:=zc8 BY.out;have BPc:=zc8 BP.out;have BSc:=zc8 BS.out;refine h3 _ _ ?_;go_wp2;refine st9 (n:=4) (S:=fun W=>W.heap[gp]? = some (.cells #[.slice A lk cA,.slice B lb cB] 48 (0,0))/\W.heap[gs]? = some (.cells #[.slice X0 n0 k0,.slice X1 n1 k1,.int .i64 zc,.slice X3 n3 k3] 27 (0,0))) (ds:= [3]) (by kernel_rfl) rfl ⟨blk_drew BP.out,blk_drew BS.out⟩ (fun hHeld=> ?_);have hb:=below_drew (Below.refl wz.heap.size wz);generalize wz.drew=w7 at hb hHeld ⊢;replace HS:=am (HS.out.grow hb);replace VC:=am (Kd.R_below VC.out hb);replace VB:=am (Kd.R_below VB.out hb);replace BZ:=am (zb8 BZ.out hb);replace BY:=am (zb8 BY.out hb);replace BP:=am (zb8 BP.out hb);replace BS:=am (zb8 BS.out hb);replace HD:=am (HD.out.grow hb);clear BZc BYc BPc BSc;have BZc:=zc8 BZ.out;have BYc:=zc8 BY.out;have BPc:=zc8 BP.out;have BSc:=zc8 BS.out;clear hb;refine ba9 (fuel:=3) (n:=1) [0] (by kernel_rfl) (fun N _ _ _ _ h=>by cases N <;> exact h) hHeld ?_
   iterate 1 (
    refine stillS_step (v:= ?_) (a':= ?_) rfl (Or.inl ⟨by rfl, ?_⟩) ?_ ?_;rotate_left
    ·rintro W ⟨s0,s1⟩
     have t0:=zc8 s0;have t1:=zc8 s1;clear s0 s1;go_simp;with_reducible rfl
    rotate_left
    ·simp only [Act.put,sA,sZ,sS,i64_w]
     rfl)
   refine stillS_nil ?_;refine tw9 (i:=1) (j:=2) (Ni:=some 109) (Nj:=none) rfl rfl rfl rfl (by kernel_rfl) (by decide) (by decide) (fun K hK=> ?_) (fun K hK=> ?_)
   ·have t1:=zc8 hHeld.2
    refine value_ (v:=.agg #[.slice X0 n0 k0,.slice X1 n1 k1,.int .i64 zc,.slice X3 n3 k3]) (w1:=_) (by rfl) rfl (by go_simp<;>rfl) ?_;clear t1;refine hK.out _ _ (hHeld) (fun hHeld=> ?_);clear hK K;refine norm_ (a':= ?_) ?_ ?_;rotate_left
    ·show Act.put _ (some 109) _=_
     simp only [Act.put,sA,sZ,sS,i64_w];rfl
    refine on9 (i:=2) (N:=none) rfl rfl (by kernel_rfl) (by decide) (fun K hK=> ?_);obtain ⟨hbox,hg⟩:=setCells_blk (cs:= [.slice A lk cA,.slice B lb cB]) BZ.out rfl;rw [if_pos (by rfl)];refine store_wp rfl 48 (.tmp 2) (.tmp 108) rfl rfl rfl BZ.out rfl (by kernel_rfl) (aB rfl) ?_;generalize World.setCells _ gz 0 [.slice A lk cA,.slice B lb cB]=wy at hbox hg ⊢;refine hK.out _ _ ⟨blk_grown hHeld.1 hg (fun he=>Ne.symm NBZBP.out (by injection he)),blk_grown hHeld.2 hg (fun he=>blk_ne hHeld.2 BZ.out (by decide) (by injection he))⟩ (fun hHeld=> ?_);clear hK K;have BZ_0:=am hbox;replace VC:=am (R_grownT VC.out BZ.out (by decide) hg);replace VB:=am (R_grownT VB.out BZ.out (by decide) hg);replace BY:=am (blk_grown BY.out hg (fun he=>blk_ne BY.out BZ.out (by decide) (by injection he)));replace BP:=am (blk_grown BP.out hg (fun he=>Ne.symm NBZBP.out (by injection he)));replace BS:=am (blk_grown BS.out hg (fun he=>blk_ne BS.out BZ.out (by decide) (by injection he)));replace HS:=am (HS.out.move hg.size (fun q hq hl=>hg.block q hl (fun he=>hq (by injection he with he;rw [he];exact OZ.out))));replace HD:=am (HD.out.grown hg (fun k hk=>by cases hk;exact LBZ.out));clear BZ BZc BYc BPc BSc;have BZ:=BZ_0;clear BZ_0 hbox hg;have BZc:=zc8 BZ.out;have BYc:=zc8 BY.out;have BPc:=zc8 BP.out;have BSc:=zc8 BS.out;clear hHeld;refine tail_ (fuel:=1) 3 (by kernel_rfl) ?_;simp only [List.drop_succ_cons,List.drop_zero]
    go_wp2_with (first
    |((with_reducible refine gate_store (t:=27) (p:=3) rfl ?_);refine store_block rfl rfl 27 (.tmp 3) (.tmp 109) rfl rfl rfl BY.out rfl (by kernel_rfl) (aB rfl) ?_;intro wn hbox hg;have BY_0:=am hbox;replace VC:=am (R_grownT VC.out BY.out (by decide) hg);replace VB:=am (R_grownT VB.out BY.out (by decide) hg);replace BZ:=am (blk_grown BZ.out hg (fun he=>blk_ne BZ.out BY.out (by decide) (by injection he)));replace BP:=am (blk_grown BP.out hg (fun he=>blk_ne BP.out BY.out (by decide) (by injection he)));replace BS:=am (blk_grown BS.out hg (fun he=>Ne.symm NBYBS.out (by injection he)));replace HS:=am (HS.out.move hg.size (fun q hq hl=>hg.block q hl (fun he=>hq (by injection he with he;rw [he];exact OY.out))));replace HD:=am (HD.out.grown hg (fun k hk=>by cases hk;exact LBY.out));clear BY BZc BYc BPc BSc;have BY:=BY_0;clear BY_0 hbox hg;have BZc:=zc8 BZ.out;have BYc:=zc8 BY.out;have BPc:=zc8 BP.out;have BSc:=zc8 BS.out))
    refine bodyPost_ret (results_list (rs:= [.cell 2 48,.cell 3 27]) rfl (by simp) (.cell gz 48 #[.slice A lk cA,.slice B lb cB] (0,0) _ rfl BZ.out Try.underlying48 rfl (by kernel_rfl) (.cell gy 27 #[.slice X0 n0 k0,.slice X1 n1 k1,.int .i64 zc,.slice X3 n3 k3] (0,0) _ rfl BY.out Try.underlying27 rfl (by kernel_rfl) .nil))) rfl ?_;exact ⟨p,s2,_,_,_,_,rfl,OK.out,HSZ.out,VC.out,VB.out,⟨Nat.le_refl _,fun W2 hs2 hm2=>HS.out W2 hs2 (fun q9 hB ho hl=>hm2 q9 hB hl (fun he=>ho (by rw [he];exact OG.out)))⟩,HZ2.out,HL2.out,HT2.out,HD.out,HQ.out.1,by have:=HQ.out.2;omega⟩
   ·obtain ⟨hbox,hg⟩:=setCells_blk (cs:= [.slice A lk cA,.slice B lb cB]) BZ.out rfl
    rw [if_pos (by rfl)];refine store_wp rfl 48 (.tmp 2) (.tmp 108) rfl rfl rfl BZ.out rfl (by kernel_rfl) (aB rfl) ?_;generalize World.setCells _ gz 0 [.slice A lk cA,.slice B lb cB]=wy at hbox hg ⊢;refine hK.out _ _ ⟨blk_grown hHeld.1 hg (fun he=>Ne.symm NBZBP.out (by injection he)),blk_grown hHeld.2 hg (fun he=>blk_ne hHeld.2 BZ.out (by decide) (by injection he))⟩ (fun hHeld=> ?_);clear hK K;have BZ_0:=am hbox;replace VC:=am (R_grownT VC.out BZ.out (by decide) hg);replace VB:=am (R_grownT VB.out BZ.out (by decide) hg);replace BY:=am (blk_grown BY.out hg (fun he=>blk_ne BY.out BZ.out (by decide) (by injection he)));replace BP:=am (blk_grown BP.out hg (fun he=>Ne.symm NBZBP.out (by injection he)));replace BS:=am (blk_grown BS.out hg (fun he=>blk_ne BS.out BZ.out (by decide) (by injection he)));replace HS:=am (HS.out.move hg.size (fun q hq hl=>hg.block q hl (fun he=>hq (by injection he with he;rw [he];exact OZ.out))));replace HD:=am (HD.out.grown hg (fun k hk=>by cases hk;exact LBZ.out));clear BZ BZc BYc BPc BSc;have BZ:=BZ_0;clear BZ_0 hbox hg;have BZc:=zc8 BZ.out;have BYc:=zc8 BY.out;have BPc:=zc8 BP.out;have BSc:=zc8 BS.out;refine on9 (i:=1) (N:=some 109) rfl rfl (by kernel_rfl) (by decide) (fun K hK=> ?_);have t1:=zc8 hHeld.2;refine value_ (v:=.agg #[.slice X0 n0 k0,.slice X1 n1 k1,.int .i64 zc,.slice X3 n3 k3]) (w1:=_) (by rfl) rfl (by go_simp<;>rfl) ?_;clear t1;refine hK.out _ _ (hHeld) (fun hHeld=> ?_);clear hK K;refine norm_ (a':= ?_) ?_ ?_;rotate_left
    ·show Act.put _ (some 109) _=_
     simp only [Act.put,sA,sZ,sS,i64_w];rfl
    clear hHeld;refine tail_ (fuel:=1) 3 (by kernel_rfl) ?_;simp only [List.drop_succ_cons,List.drop_zero]
    go_wp2_with (first
    |((with_reducible refine gate_store (t:=27) (p:=3) rfl ?_);refine store_block rfl rfl 27 (.tmp 3) (.tmp 109) rfl rfl rfl BY.out rfl (by kernel_rfl) (aB rfl) ?_;intro wn hbox hg;have BY_0:=am hbox;replace VC:=am (R_grownT VC.out BY.out (by decide) hg);replace VB:=am (R_grownT VB.out BY.out (by decide) hg);replace BZ:=am (blk_grown BZ.out hg (fun he=>blk_ne BZ.out BY.out (by decide) (by injection he)));replace BP:=am (blk_grown BP.out hg (fun he=>blk_ne BP.out BY.out (by decide) (by injection he)));replace BS:=am (blk_grown BS.out hg (fun he=>Ne.symm NBYBS.out (by injection he)));replace HS:=am (HS.out.move hg.size (fun q hq hl=>hg.block q hl (fun he=>hq (by injection he with he;rw [he];exact OY.out))));replace HD:=am (HD.out.grown hg (fun k hk=>by cases hk;exact LBY.out));clear BY BZc BYc BPc BSc;have BY:=BY_0;clear BY_0 hbox hg;have BZc:=zc8 BZ.out;have BYc:=zc8 BY.out;have BPc:=zc8 BP.out;have BSc:=zc8 BS.out))
    refine bodyPost_ret (results_list (rs:= [.cell 2 48,.cell 3 27]) rfl (by simp) (.cell gz 48 #[.slice A lk cA,.slice B lb cB] (0,0) _ rfl BZ.out Try.underlying48 rfl (by kernel_rfl) (.cell gy 27 #[.slice X0 n0 k0,.slice X1 n1 k1,.int .i64 zc,.slice X3 n3 k3] (0,0) _ rfl BY.out Try.underlying27 rfl (by kernel_rfl) .nil))) rfl ?_;exact ⟨p,s2,_,_,_,_,rfl,OK.out,HSZ.out,VC.out,VB.out,⟨Nat.le_refl _,fun W2 hs2 hm2=>HS.out W2 hs2 (fun q9 hB ho hl=>hm2 q9 hB hl (fun he=>ho (by rw [he];exact OG.out)))⟩,HZ2.out,HL2.out,HT2.out,HD.out,HQ.out.1,by have:=HQ.out.2;omega⟩
  clear h3;rcases hy8 with rfl|rfl|rfl|rfl|rfl|rfl|rfl|rfl
  ·skip
   go_wp2_with (first
   |((with_reducible refine gate_dst (N:=30) rfl ?_);refine Kd.R_lit (Kd.int .i64) (w0:=_) w.heap.size 3 rfl (N:=30) rfl (xs:=([-1,201]:List Int)) (inner:= [.int .i64 (-1),.int .i64 201]) (ok:=(fun _=>True)) (okp:=(fun _=>True)) (by go_simp<;>rfl) (Reps.one rfl (Reps.one rfl (Reps.none _ _))) (fun _ _=>trivial) trivial (Below.refl _ _) HD.out.size (by simp) ?_;intro v1 wl hv1 hb1 hg hx9;clear hb1 hx9;obtain ⟨a9,c9,ev⟩:=Kd.R_slice hv1;subst ev;have V9_0:=am (show (Kd.int .i64).R 3 wl w.heap.size (fun _=>True) (.slice a9 2 c9) ([-1,201]:List Int) from hv1);clear hv1;have hb:=grown_below hg;replace HS:=am (HS.out.grow hb);replace VC:=am (Kd.R_below VC.out hb);replace VB:=am (Kd.R_below VB.out hb);replace BZ:=am (zb8 BZ.out hb);replace BY:=am (zb8 BY.out hb);replace BP:=am (zb8 BP.out hb);replace BS:=am (zb8 BS.out hb);replace HD:=am (HD.out.grow hb);clear BZc BYc BPc BSc;have BZc:=zc8 BZ.out;have BYc:=zc8 BY.out;have BPc:=zc8 BP.out;have BSc:=zc8 BS.out;clear hb hg;have V9:=V9_0;clear V9_0)
   |(go_at_call 49;refine (pick_rds HD.out HC.out (by have:=HQ.out;have:=HQ0.out;(try have:=HNX.out);(try have:=HNB.out);omega) 2).mono ?_;rintro e wn ⟨z,q2,rfl,hz,hq2,hd,hk⟩;replace HS:=am (HS.out.move hk.1 (fun q9 ho hl=>hk.2 q9 hl (fun he=>ho (by rw [he];exact OG.out)) (by simp)));replace HQ:=am (show q0<=q2/\q2<=q0+7004 from by have:=HQ.out;(try have:=HNX.out);(try have:=HNB.out);omega);clear hq2;replace VC:=am (HD.out.rowK hk VC.out (by decide));replace VB:=am (HD.out.rowK hk VB.out (by decide));replace V9:=am (HD.out.rowK hk V9.out (by decide));replace BZ:=am (HD.out.blkK hk BZ.out (by decide));replace BY:=am (HD.out.blkK hk BY.out (by decide));replace BP:=am (HD.out.blkK hk BP.out (by decide));replace BS:=am (HD.out.blkK hk BS.out (by decide));replace HD:=am (hd);clear BZc BYc BPc BSc;have BZc:=zc8 BZ.out;have BYc:=zc8 BY.out;have BPc:=zc8 BP.out;have BSc:=zc8 BS.out;clear hk hd;have hz2:(z:Int) < 2:=(by omega);have hz0:(0:Int)<=(z:Int):=(by omega);clear hz;obtain ⟨g5,k5,ev5,-⟩:=Kd.R_form V9.out (by decide);injection ev5 with ev5 ev6 ev7;subst ev5;obtain ⟨v,cy⟩:∃ v:Int,wn.cell? ⟨g5,z,none⟩=some (.int .i64 v):=⟨_,by have h:=Kd.R_celln 0 V9.out (z:Int) hz0 hz2;rw [Int.toNat_natCast] at h;exact h.1⟩;clear ev6 ev7)
   |((with_reducible refine gate_store (t:=3) (p:=35) rfl ?_);refine set_ev (u:=.int .i64 v) rfl rfl _ _ rfl (g:=gs) (off:=2) rfl rfl rfl rfl (by kernel_rfl) ⟨⟨_,by rw [zc8 BS.out];rfl⟩,blk_frozen BS.out _⟩ ?_;intro wz hwn;have BS_0:=am (show wz.heap[gs]? = some (.cells #[.slice Uc sn.cells.length uc,.slice Ut sn.tasks.length ut,.int .i64 v,.slice Ul sn.log.length ul] 27 (0,0)) by rw [hwn];exact blk_set BS.out 2 (.int .i64 v));replace BZ:=am (show wz.heap[gz]? = some (.cells #[.slice none 0 0,.slice none 0 0] 48 (0,0)) by rw [hwn];exact blk_far (p:=⟨gs,2,none⟩) BZ.out (blk_ne BZ.out BS.out (by decide)) (.int .i64 v));replace BY:=am (show wz.heap[gy]? = some (.cells #[.slice none 0 0,.slice none 0 0,.int .i64 0,.slice none 0 0] 27 (0,0)) by rw [hwn];exact blk_far (p:=⟨gs,2,none⟩) BY.out (NBYBS.out) (.int .i64 v));replace BP:=am (show wz.heap[gp]? = some (.cells #[.slice A lk cA,.slice B lb cB] 48 (0,0)) by rw [hwn];exact blk_far (p:=⟨gs,2,none⟩) BP.out (blk_ne BP.out BS.out (by decide)) (.int .i64 v));replace VC:=am (show (Kd.int .i64).R 3 wz w.heap.size (fun _=>True) (.slice A lk cA) p.cells by rw [hwn];exact R_set VC.out BS.out (by decide) 2 (.int .i64 v));replace VB:=am (show (Kd.slice 108 kAct).R 104 wz w.heap.size (fun _=>True) (.slice B lb cB) p.bodies by rw [hwn];exact R_set VB.out BS.out (by decide) 2 (.int .i64 v));replace HS:=am (show Sy _ _ _ _ _ _ wz by rw [hwn];exact HS.out.far OS.out 2 (.int .i64 v));replace HD:=am (show Rds w0 w g b _ wz by rw [hwn];exact HD.out.set LBS.out 2 (.int .i64 v));clear hwn BS BSc BZc BYc BPc;have BS:=BS_0;clear BS_0;have BZc:=zc8 BZ.out;have BYc:=zc8 BY.out;have BPc:=zc8 BP.out;have BSc:=zc8 BS.out))
   replace HS:=am (Sy.sta (s:={sn with clock:=v}) ⟨HS.out.low,HS.out.new0,HS.out.cells,HS.out.tasks,HS.out.town,HS.out.log⟩);have HZ9:=am (HIV.out.sysSz (by have:=HN.out;omega));exact TL BZ BY BP BS VC VB HS HD (am (by have:=HQ.out;omega)) OG OZ OY OP OS (am ⟨HZ9.out.cells,HZ9.out.tasks,HZ9.out.log,HZ9.out.task,HZ9.out.logs⟩) (am (by have:=HIV.out.room;have:=HIV.out.many;have:=HN.out;show sn.log.length+sn.tasks.length<=1000;omega)) (am HTL.out)
  ·obtain ⟨bt,ct,evt⟩:=HS.out.tform (by have:=HTL.out;omega)
   injection evt with evt1 evt2 evt3;subst evt1;clear evt2 evt3;have qk0:(0:Int)<=(k:Int):=by omega
   have qk1:(k:Int) < (sn.tasks.length:Int):=by omega
   go_wp2_with (first
   |(go_at_call 49;fail))
   refine st9 (n:=11) (S:=fun W=>W.heap[gs]? = some (.cells #[.slice Uc sn.cells.length uc,.slice (some ⟨bt,0,none⟩) sn.tasks.length ut,.int .i64 sn.clock,.slice Ul sn.log.length ul] 27 (0,0))) (ds:= [8,9,10]) (by kernel_rfl) rfl (by exact blk_drew BS.out) (fun hHeld=> ?_);have hb:=below_drew (Below.refl wn.heap.size wn);generalize wn.drew=w7 at hb hHeld ⊢;replace HS:=am (HS.out.grow hb);replace VC:=am (Kd.R_below VC.out hb);replace VB:=am (Kd.R_below VB.out hb);replace BZ:=am (zb8 BZ.out hb);replace BY:=am (zb8 BY.out hb);replace BP:=am (zb8 BP.out hb);replace BS:=am (zb8 BS.out hb);replace HD:=am (HD.out.grow hb);clear BZc BYc BPc BSc;have BZc:=zc8 BZ.out;have BYc:=zc8 BY.out;have BPc:=zc8 BP.out;have BSc:=zc8 BS.out;clear hb;refine ba9 (fuel:=7) (n:=4) [0,1,2,4] (by kernel_rfl) (fun N _ _ _ _ h=>by cases N <;> exact h) hHeld ?_
   iterate 4 (
    refine stillS_step (v:= ?_) (a':= ?_) rfl (Or.inl ⟨by rfl, ?_⟩) ?_ ?_;rotate_left
    ·intro W s0
     have t0:=zc8 s0;clear s0;go_simp;with_reducible rfl
    rotate_left
    ·simp only [Act.put,sA,sZ,sS,i64_w]
     rfl)
   refine stillS_nil ?_;refine tw9 (i:=3) (j:=5) (Ni:=some 41) (Nj:=some 43) rfl rfl rfl rfl (by kernel_rfl) (by decide) (by decide) (fun K hK=> ?_) (fun K hK=> ?_)
   ·refine Kd.R_lit_step (w0:=_) (Kd.int .i64) w.heap.size 3 (by rfl) (N:=41) rfl (xs:=([-1,5,2,3,4]:List Int)) (inner:= [.int .i64 (-1),.int .i64 5,.int .i64 2,.int .i64 3,.int .i64 4]) (ok:=(fun _=>True)) (okp:=(fun _=>True)) (by go_simp<;>rfl) (Reps.one rfl (Reps.one rfl (Reps.one rfl (Reps.one rfl (Reps.one rfl (Reps.none _ _)))))) (fun _ _=>trivial) trivial (Below.refl _ _) HD.out.size (by simp) ?_
    intro v1 wl hv1 hb1 hg hx9;clear hb1 hx9;obtain ⟨a9,c9,ev⟩:=Kd.R_slice hv1;subst ev;have V9_0:=am (show (Kd.int .i64).R 3 wl w.heap.size (fun _=>True) (.slice a9 5 c9) ([-1,5,2,3,4]:List Int) from hv1);refine hK.out _ _ (zb8 hHeld (grown_below hg)) (fun hHeld=> ?_);clear hK K;refine norm_ (a':= ?_) ?_ ?_;rotate_left
    ·show Act.put _ (some 41) _=_
     simp only [Act.put,sA,sZ,sS,i64_w];rfl
    clear hv1;have hb:=grown_below hg;replace HS:=am (HS.out.grow hb);replace VC:=am (Kd.R_below VC.out hb);replace VB:=am (Kd.R_below VB.out hb);replace BZ:=am (zb8 BZ.out hb);replace BY:=am (zb8 BY.out hb);replace BP:=am (zb8 BP.out hb);replace BS:=am (zb8 BS.out hb);replace HD:=am (HD.out.grow hb);clear BZc BYc BPc BSc;have BZc:=zc8 BZ.out;have BYc:=zc8 BY.out;have BPc:=zc8 BP.out;have BSc:=zc8 BS.out;clear hb hg;have V9:=V9_0;clear V9_0;refine on9 (i:=5) (N:=some 43) rfl rfl (by kernel_rfl) (by decide) (fun K hK=> ?_);refine goes_ Try.func49 (by kernel_rfl) rfl #[.pointer (some ⟨g,0,none⟩),.int .i64 5] (by rfl) rfl rfl (by (try simp only [List.map_toArray,List.map_cons,List.map_nil]);first | done | rfl) ?_;refine (pick_rds HD.out HC.out (by have:=HQ.out;have:=HQ0.out;omega) 5).mono ?_;rintro e wn ⟨z,q2,rfl,hz,hq2,hd,hk⟩;refine ⟨_,rfl, ?_⟩;refine hK.out _ _ (HD.out.blkK hk hHeld (by decide)) (fun hHeld=> ?_);clear hK K;refine norm_ (a':= ?_) ?_ ?_;rotate_left
    ·show Act.put _ (some 43) _=_
     simp only [Act.put,sA,sZ,sS,i64_w];rfl
    replace HS:=am (HS.out.move hk.1 (fun q9 ho hl=>hk.2 q9 hl (fun he=>ho (by rw [he];exact OG.out)) (by simp)));replace HQ:=am (show q0<=q2/\q2<=q0+7004 from by have:=HQ.out;(try have:=HNX.out);(try have:=HNB.out);omega);clear hq2;replace VC:=am (HD.out.rowK hk VC.out (by decide));replace VB:=am (HD.out.rowK hk VB.out (by decide));replace V9:=am (HD.out.rowK hk V9.out (by decide));replace BZ:=am (HD.out.blkK hk BZ.out (by decide));replace BY:=am (HD.out.blkK hk BY.out (by decide));replace BP:=am (HD.out.blkK hk BP.out (by decide));replace BS:=am (HD.out.blkK hk BS.out (by decide));replace HD:=am (hd);clear BZc BYc BPc BSc;have BZc:=zc8 BZ.out;have BYc:=zc8 BY.out;have BPc:=zc8 BP.out;have BSc:=zc8 BS.out;clear hk hd;have hz5:(z:Int) < 5:=by omega
    have hz0:(0:Int)<=(z:Int):=by omega
    clear hz;obtain ⟨g5,k5,ev5,-⟩:=Kd.R_form V9.out (by decide);injection ev5 with ev5 ev6 ev7;subst ev5;obtain ⟨v,cy⟩:∃ v:Int,wn.cell? ⟨g5,z,none⟩=some (.int .i64 v):=⟨_,by have h:=Kd.R_celln 0 V9.out (z:Int) hz0 hz5;rw [Int.toNat_natCast] at h;exact h.1⟩;clear ev6 ev7;refine on9 (i:=6) (N:=some 44) rfl rfl (by kernel_rfl) (by decide) (fun K hK=> ?_);refine value_ (v:=.pointer (some ⟨g5,z,none⟩)) (w1:=wn) (by rfl) rfl (by go_simp<;>rfl) ?_;refine hK.out _ _ (hHeld) (fun hHeld=> ?_);clear hK K;refine norm_ (a':= ?_) ?_ ?_;rotate_left
    ·show Act.put _ (some 44) _=_
     simp only [Act.put,sA,sZ,sS,i64_w];rfl
    refine on9 (i:=7) (N:=some 45) rfl rfl (by kernel_rfl) (by decide) (fun K hK=> ?_);refine value_ (v:=.int .i64 v) (w1:=wn) (by rfl) rfl (by go_simp<;>rfl) ?_;refine hK.out _ _ (hHeld) (fun hHeld=> ?_);clear hK K;refine norm_ (a':= ?_) ?_ ?_;rotate_left
    ·show Act.put _ (some 45) _=_
     simp only [Act.put,sA,sZ,sS,i64_w];rfl
    clear hHeld cy V9;refine tail_ (fuel:=3) 8 (by kernel_rfl) ?_;simp only [List.drop_succ_cons,List.drop_zero]
    go_wp2_with (first
    |((with_reducible refine gate_store (t:=3) (p:=47) rfl ?_);obtain ⟨hS,ob,lb9,hex,hfr⟩:=HS.out.setInt hkl 4 (by decide) (v) {tk sn k with way:=v} (fun _ _ _ _=>rfl) ⟨rfl,rfl,rfl,rfl⟩;obtain ⟨ctt,htt⟩:=Kd.R_typed HS.out.tasks bt rfl;refine set_ev (u:=.int .i64 (v)) rfl rfl _ _ rfl (g:=bt) (off:=k*13+4) rfl rfl rfl rfl (by kernel_rfl) ⟨hex,hfr⟩ ?_;intro wz hwn;replace HS:=am (show Sy _ _ _ _ _ _ wz by rw [hwn];exact hS);replace BZ:=am (show wz.heap[gz]? = some (.cells #[.slice none 0 0,.slice none 0 0] 48 (0,0)) by rw [hwn];exact blk_far (p:=⟨bt,k*13+4,none⟩) BZ.out (fun he=>(by rw [<-show gz=bt from he,OZ.out] at ob;cases ob)) (.int .i64 (v)));replace BY:=am (show wz.heap[gy]? = some (.cells #[.slice none 0 0,.slice none 0 0,.int .i64 0,.slice none 0 0] 27 (0,0)) by rw [hwn];exact blk_far (p:=⟨bt,k*13+4,none⟩) BY.out (fun he=>(by rw [<-show gy=bt from he,OY.out] at ob;cases ob)) (.int .i64 (v)));replace BP:=am (show wz.heap[gp]? = some (.cells #[.slice A lk cA,.slice B lb cB] 48 (0,0)) by rw [hwn];exact blk_far (p:=⟨bt,k*13+4,none⟩) BP.out (fun he=>(by rw [<-show gp=bt from he,OP.out] at ob;cases ob)) (.int .i64 (v)));replace BS:=am (show wz.heap[gs]? = some (.cells #[.slice Uc sn.cells.length uc,.slice (some ⟨bt,0,none⟩) sn.tasks.length ut,.int .i64 sn.clock,.slice Ul sn.log.length ul] 27 (0,0)) by rw [hwn];exact blk_far (p:=⟨bt,k*13+4,none⟩) BS.out (fun he=>(by rw [<-show gs=bt from he,OS.out] at ob;cases ob)) (.int .i64 (v)));replace VC:=am (show (Kd.int .i64).R 3 wz w.heap.size (fun _=>True) (.slice A lk cA) p.cells by rw [hwn];exact R_set VC.out htt (by decide) (k*13+4) (.int .i64 (v)));replace VB:=am (show (Kd.slice 108 kAct).R 104 wz w.heap.size (fun _=>True) (.slice B lb cB) p.bodies by rw [hwn];exact R_set VB.out htt (by decide) (k*13+4) (.int .i64 (v)));replace HD:=am (show Rds w0 w g b _ wz by rw [hwn];exact HD.out.set lb9 (k*13+4) (.int .i64 (v)));clear hwn BSc BZc BYc BPc hS ob lb9 hex hfr htt;have BZc:=zc8 BZ.out;have BYc:=zc8 BY.out;have BPc:=zc8 BP.out;have BSc:=zc8 BS.out))
    replace HS:=am HS.out.sta;have HZ9:=am (HIV.out.sysSz (by have:=HN.out;omega));exact TL BZ BY BP BS VC VB HS HD (am (by have:=HQ.out;omega)) OG OZ OY OP OS (am (setTask_sz HZ9.out hkl rfl rfl rfl rfl)) (am (by have:=HIV.out.room;have:=HIV.out.many;have:=HN.out;show sn.log.length+(sn.tasks.set _ _).length<=1000;rw [List.length_set];omega)) (am (by show 1<=(sn.tasks.set _ _).length;rw [List.length_set];exact HTL.out))
   ·refine goes_ Try.func49 (by kernel_rfl) rfl #[.pointer (some ⟨g,0,none⟩),.int .i64 5] (by rfl) rfl rfl (by (try simp only [List.map_toArray,List.map_cons,List.map_nil]);first | done | rfl) ?_
    refine (pick_rds HD.out HC.out (by have:=HQ.out;have:=HQ0.out;omega) 5).mono ?_;rintro e wn ⟨z,q2,rfl,hz,hq2,hd,hk⟩;refine ⟨_,rfl, ?_⟩;refine hK.out _ _ (HD.out.blkK hk hHeld (by decide)) (fun hHeld=> ?_);clear hK K;refine norm_ (a':= ?_) ?_ ?_;rotate_left
    ·show Act.put _ (some 43) _=_
     simp only [Act.put,sA,sZ,sS,i64_w];rfl
    replace HS:=am (HS.out.move hk.1 (fun q9 ho hl=>hk.2 q9 hl (fun he=>ho (by rw [he];exact OG.out)) (by simp)));replace HQ:=am (show q0<=q2/\q2<=q0+7004 from by have:=HQ.out;(try have:=HNX.out);(try have:=HNB.out);omega);clear hq2;replace VC:=am (HD.out.rowK hk VC.out (by decide));replace VB:=am (HD.out.rowK hk VB.out (by decide));replace BZ:=am (HD.out.blkK hk BZ.out (by decide));replace BY:=am (HD.out.blkK hk BY.out (by decide));replace BP:=am (HD.out.blkK hk BP.out (by decide));replace BS:=am (HD.out.blkK hk BS.out (by decide));replace HD:=am (hd);clear BZc BYc BPc BSc;have BZc:=zc8 BZ.out;have BYc:=zc8 BY.out;have BPc:=zc8 BP.out;have BSc:=zc8 BS.out;clear hk hd;refine on9 (i:=3) (N:=some 41) rfl rfl (by kernel_rfl) (by decide) (fun K hK=> ?_);refine Kd.R_lit_step (w0:=_) (Kd.int .i64) w.heap.size 3 (by rfl) (N:=41) rfl (xs:=([-1,5,2,3,4]:List Int)) (inner:= [.int .i64 (-1),.int .i64 5,.int .i64 2,.int .i64 3,.int .i64 4]) (ok:=(fun _=>True)) (okp:=(fun _=>True)) (by go_simp<;>rfl) (Reps.one rfl (Reps.one rfl (Reps.one rfl (Reps.one rfl (Reps.one rfl (Reps.none _ _)))))) (fun _ _=>trivial) trivial (Below.refl _ _) HD.out.size (by simp) ?_;intro v1 wl hv1 hb1 hg hx9;clear hb1 hx9;obtain ⟨a9,c9,ev⟩:=Kd.R_slice hv1;subst ev;have V9_0:=am (show (Kd.int .i64).R 3 wl w.heap.size (fun _=>True) (.slice a9 5 c9) ([-1,5,2,3,4]:List Int) from hv1);refine hK.out _ _ (zb8 hHeld (grown_below hg)) (fun hHeld=> ?_);clear hK K;refine norm_ (a':= ?_) ?_ ?_;rotate_left
    ·show Act.put _ (some 41) _=_
     simp only [Act.put,sA,sZ,sS,i64_w];rfl
    clear hv1;have hb:=grown_below hg;replace HS:=am (HS.out.grow hb);replace VC:=am (Kd.R_below VC.out hb);replace VB:=am (Kd.R_below VB.out hb);replace BZ:=am (zb8 BZ.out hb);replace BY:=am (zb8 BY.out hb);replace BP:=am (zb8 BP.out hb);replace BS:=am (zb8 BS.out hb);replace HD:=am (HD.out.grow hb);clear BZc BYc BPc BSc;have BZc:=zc8 BZ.out;have BYc:=zc8 BY.out;have BPc:=zc8 BP.out;have BSc:=zc8 BS.out;clear hb hg;have V9:=V9_0;clear V9_0;have hz5:(z:Int) < 5:=by omega
    have hz0:(0:Int)<=(z:Int):=by omega
    clear hz;obtain ⟨g5,k5,ev5,-⟩:=Kd.R_form V9.out (by decide);injection ev5 with ev5 ev6 ev7;subst ev5;obtain ⟨v,cy⟩:∃ v:Int,wl.cell? ⟨g5,z,none⟩=some (.int .i64 v):=⟨_,by have h:=Kd.R_celln 0 V9.out (z:Int) hz0 hz5;rw [Int.toNat_natCast] at h;exact h.1⟩;clear ev6 ev7;refine on9 (i:=6) (N:=some 44) rfl rfl (by kernel_rfl) (by decide) (fun K hK=> ?_);refine value_ (v:=.pointer (some ⟨g5,z,none⟩)) (w1:=wl) (by rfl) rfl (by go_simp<;>rfl) ?_;refine hK.out _ _ (hHeld) (fun hHeld=> ?_);clear hK K;refine norm_ (a':= ?_) ?_ ?_;rotate_left
    ·show Act.put _ (some 44) _=_
     simp only [Act.put,sA,sZ,sS,i64_w];rfl
    refine on9 (i:=7) (N:=some 45) rfl rfl (by kernel_rfl) (by decide) (fun K hK=> ?_);refine value_ (v:=.int .i64 v) (w1:=wl) (by rfl) rfl (by go_simp<;>rfl) ?_;refine hK.out _ _ (hHeld) (fun hHeld=> ?_);clear hK K;refine norm_ (a':= ?_) ?_ ?_;rotate_left
    ·show Act.put _ (some 45) _=_
     simp only [Act.put,sA,sZ,sS,i64_w];rfl
    clear hHeld cy V9;refine tail_ (fuel:=3) 8 (by kernel_rfl) ?_;simp only [List.drop_succ_cons,List.drop_zero]
    go_wp2_with (first
    |((with_reducible refine gate_store (t:=3) (p:=47) rfl ?_);obtain ⟨hS,ob,lb9,hex,hfr⟩:=HS.out.setInt hkl 4 (by decide) (v) {tk sn k with way:=v} (fun _ _ _ _=>rfl) ⟨rfl,rfl,rfl,rfl⟩;obtain ⟨ctt,htt⟩:=Kd.R_typed HS.out.tasks bt rfl;refine set_ev (u:=.int .i64 (v)) rfl rfl _ _ rfl (g:=bt) (off:=k*13+4) rfl rfl rfl rfl (by kernel_rfl) ⟨hex,hfr⟩ ?_;intro wz hwn;replace HS:=am (show Sy _ _ _ _ _ _ wz by rw [hwn];exact hS);replace BZ:=am (show wz.heap[gz]? = some (.cells #[.slice none 0 0,.slice none 0 0] 48 (0,0)) by rw [hwn];exact blk_far (p:=⟨bt,k*13+4,none⟩) BZ.out (fun he=>(by rw [<-show gz=bt from he,OZ.out] at ob;cases ob)) (.int .i64 (v)));replace BY:=am (show wz.heap[gy]? = some (.cells #[.slice none 0 0,.slice none 0 0,.int .i64 0,.slice none 0 0] 27 (0,0)) by rw [hwn];exact blk_far (p:=⟨bt,k*13+4,none⟩) BY.out (fun he=>(by rw [<-show gy=bt from he,OY.out] at ob;cases ob)) (.int .i64 (v)));replace BP:=am (show wz.heap[gp]? = some (.cells #[.slice A lk cA,.slice B lb cB] 48 (0,0)) by rw [hwn];exact blk_far (p:=⟨bt,k*13+4,none⟩) BP.out (fun he=>(by rw [<-show gp=bt from he,OP.out] at ob;cases ob)) (.int .i64 (v)));replace BS:=am (show wz.heap[gs]? = some (.cells #[.slice Uc sn.cells.length uc,.slice (some ⟨bt,0,none⟩) sn.tasks.length ut,.int .i64 sn.clock,.slice Ul sn.log.length ul] 27 (0,0)) by rw [hwn];exact blk_far (p:=⟨bt,k*13+4,none⟩) BS.out (fun he=>(by rw [<-show gs=bt from he,OS.out] at ob;cases ob)) (.int .i64 (v)));replace VC:=am (show (Kd.int .i64).R 3 wz w.heap.size (fun _=>True) (.slice A lk cA) p.cells by rw [hwn];exact R_set VC.out htt (by decide) (k*13+4) (.int .i64 (v)));replace VB:=am (show (Kd.slice 108 kAct).R 104 wz w.heap.size (fun _=>True) (.slice B lb cB) p.bodies by rw [hwn];exact R_set VB.out htt (by decide) (k*13+4) (.int .i64 (v)));replace HD:=am (show Rds w0 w g b _ wz by rw [hwn];exact HD.out.set lb9 (k*13+4) (.int .i64 (v)));clear hwn BSc BZc BYc BPc hS ob lb9 hex hfr htt;have BZc:=zc8 BZ.out;have BYc:=zc8 BY.out;have BPc:=zc8 BP.out;have BSc:=zc8 BS.out))
    replace HS:=am HS.out.sta;have HZ9:=am (HIV.out.sysSz (by have:=HN.out;omega));exact TL BZ BY BP BS VC VB HS HD (am (by have:=HQ.out;omega)) OG OZ OY OP OS (am (setTask_sz HZ9.out hkl rfl rfl rfl rfl)) (am (by have:=HIV.out.room;have:=HIV.out.many;have:=HN.out;show sn.log.length+(sn.tasks.set _ _).length<=1000;rw [List.length_set];omega)) (am (by show 1<=(sn.tasks.set _ _).length;rw [List.length_set];exact HTL.out))
  ·obtain ⟨bt,ct,evt⟩:=HS.out.tform (by have:=HTL.out;omega)
   injection evt with evt1 evt2 evt3;subst evt1;clear evt2 evt3;have qk0:(0:Int)<=(k:Int):=by omega
   have qk1:(k:Int) < (sn.tasks.length:Int):=by omega
   go_wp2_with (first
   |(go_at_call 49;fail))
   refine st9 (n:=8) (S:=fun W=>W.heap[gs]? = some (.cells #[.slice Uc sn.cells.length uc,.slice (some ⟨bt,0,none⟩) sn.tasks.length ut,.int .i64 sn.clock,.slice Ul sn.log.length ul] 27 (0,0))) (ds:= [5,6,7]) (by kernel_rfl) rfl (by exact blk_drew BS.out) (fun hHeld=> ?_);have hb:=below_drew (Below.refl wn.heap.size wn);generalize wn.drew=w7 at hb hHeld ⊢;replace HS:=am (HS.out.grow hb);replace VC:=am (Kd.R_below VC.out hb);replace VB:=am (Kd.R_below VB.out hb);replace BZ:=am (zb8 BZ.out hb);replace BY:=am (zb8 BY.out hb);replace BP:=am (zb8 BP.out hb);replace BS:=am (zb8 BS.out hb);replace HD:=am (HD.out.grow hb);clear BZc BYc BPc BSc;have BZc:=zc8 BZ.out;have BYc:=zc8 BY.out;have BPc:=zc8 BP.out;have BSc:=zc8 BS.out;clear hb;refine ba9 (fuel:=4) (n:=4) [0,1,2,3] (by kernel_rfl) (fun N _ _ _ _ h=>by cases N <;> exact h) hHeld ?_
   iterate 4 (
    refine stillS_step (v:= ?_) (a':= ?_) rfl (Or.inl ⟨by rfl, ?_⟩) ?_ ?_;rotate_left
    ·intro W s0
     have t0:=zc8 s0;clear s0;go_simp;with_reducible rfl
    rotate_left
    ·simp only [Act.put,sA,sZ,sS,i64_w]
     rfl)
   refine stillS_nil ?_;refine on9 (i:=4) (N:=some 54) rfl rfl (by kernel_rfl) (by decide) (fun K hK=> ?_);refine goes_ Try.func49 (by kernel_rfl) rfl #[.pointer (some ⟨g,0,none⟩),.int .i64 7] (by rfl) rfl rfl (by (try simp only [List.map_toArray,List.map_cons,List.map_nil]);first | done | rfl) ?_;refine (pick_rds HD.out HC.out (by have:=HQ.out;have:=HQ0.out;omega) 7).mono ?_;rintro e wn ⟨z,q2,rfl,hz,hq2,hd,hk⟩;refine ⟨_,rfl, ?_⟩;refine hK.out _ _ (HD.out.blkK hk hHeld (by decide)) (fun hHeld=> ?_);clear hK K;refine norm_ (a':= ?_) ?_ ?_;rotate_left
   ·show Act.put _ (some 54) _=_
    simp only [Act.put,sA,sZ,sS,i64_w];rfl
   replace HS:=am (HS.out.move hk.1 (fun q9 ho hl=>hk.2 q9 hl (fun he=>ho (by rw [he];exact OG.out)) (by simp)));have hz9:z<=6:=by omega
   clear hz;replace HQ:=am (show q0<=q2/\q2<=q0+7004 from by have:=HQ.out;(try have:=HNX.out);(try have:=HNB.out);omega);clear hq2;replace VC:=am (HD.out.rowK hk VC.out (by decide));replace VB:=am (HD.out.rowK hk VB.out (by decide));replace BZ:=am (HD.out.blkK hk BZ.out (by decide));replace BY:=am (HD.out.blkK hk BY.out (by decide));replace BP:=am (HD.out.blkK hk BP.out (by decide));replace BS:=am (HD.out.blkK hk BS.out (by decide));replace HD:=am (hd);clear BZc BYc BPc BSc;have BZc:=zc8 BZ.out;have BYc:=zc8 BY.out;have BPc:=zc8 BP.out;have BSc:=zc8 BS.out;clear hk hd;clear hHeld;refine tail_ (fuel:=3) 5 (by kernel_rfl) ?_;simp only [List.drop_succ_cons,List.drop_zero]
   go_wp2_with (first
   |((with_reducible refine gate_store (t:=3) (p:=56) rfl ?_);obtain ⟨hS,ob,lb9,hex,hfr⟩:=HS.out.setInt hkl 5 (by decide) ((z:Int)) {tk sn k with stage:=(z:Int)} (fun _ _ _ _=>rfl) ⟨rfl,rfl,rfl,rfl⟩;obtain ⟨ctt,htt⟩:=Kd.R_typed HS.out.tasks bt rfl;refine set_ev (u:=.int .i64 ((z:Int))) rfl rfl _ _ rfl (g:=bt) (off:=k*13+5) rfl rfl rfl rfl (by kernel_rfl) ⟨hex,hfr⟩ ?_;intro wz hwn;replace HS:=am (show Sy _ _ _ _ _ _ wz by rw [hwn];exact hS);replace BZ:=am (show wz.heap[gz]? = some (.cells #[.slice none 0 0,.slice none 0 0] 48 (0,0)) by rw [hwn];exact blk_far (p:=⟨bt,k*13+5,none⟩) BZ.out (fun he=>(by rw [<-show gz=bt from he,OZ.out] at ob;cases ob)) (.int .i64 ((z:Int))));replace BY:=am (show wz.heap[gy]? = some (.cells #[.slice none 0 0,.slice none 0 0,.int .i64 0,.slice none 0 0] 27 (0,0)) by rw [hwn];exact blk_far (p:=⟨bt,k*13+5,none⟩) BY.out (fun he=>(by rw [<-show gy=bt from he,OY.out] at ob;cases ob)) (.int .i64 ((z:Int))));replace BP:=am (show wz.heap[gp]? = some (.cells #[.slice A lk cA,.slice B lb cB] 48 (0,0)) by rw [hwn];exact blk_far (p:=⟨bt,k*13+5,none⟩) BP.out (fun he=>(by rw [<-show gp=bt from he,OP.out] at ob;cases ob)) (.int .i64 ((z:Int))));replace BS:=am (show wz.heap[gs]? = some (.cells #[.slice Uc sn.cells.length uc,.slice (some ⟨bt,0,none⟩) sn.tasks.length ut,.int .i64 sn.clock,.slice Ul sn.log.length ul] 27 (0,0)) by rw [hwn];exact blk_far (p:=⟨bt,k*13+5,none⟩) BS.out (fun he=>(by rw [<-show gs=bt from he,OS.out] at ob;cases ob)) (.int .i64 ((z:Int))));replace VC:=am (show (Kd.int .i64).R 3 wz w.heap.size (fun _=>True) (.slice A lk cA) p.cells by rw [hwn];exact R_set VC.out htt (by decide) (k*13+5) (.int .i64 ((z:Int))));replace VB:=am (show (Kd.slice 108 kAct).R 104 wz w.heap.size (fun _=>True) (.slice B lb cB) p.bodies by rw [hwn];exact R_set VB.out htt (by decide) (k*13+5) (.int .i64 ((z:Int))));replace HD:=am (show Rds w0 w g b _ wz by rw [hwn];exact HD.out.set lb9 (k*13+5) (.int .i64 ((z:Int))));clear hwn BSc BZc BYc BPc hS ob lb9 hex hfr htt;have BZc:=zc8 BZ.out;have BYc:=zc8 BY.out;have BPc:=zc8 BP.out;have BSc:=zc8 BS.out))
   replace HS:=am HS.out.sta;have HZ9:=am (HIV.out.sysSz (by have:=HN.out;omega));exact TL BZ BY BP BS VC VB HS HD (am (by have:=HQ.out;omega)) OG OZ OY OP OS (am (setTask_sz HZ9.out hkl rfl rfl rfl rfl)) (am (by have:=HIV.out.room;have:=HIV.out.many;have:=HN.out;show sn.log.length+(sn.tasks.set _ _).length<=1000;rw [List.length_set];omega)) (am (by show 1<=(sn.tasks.set _ _).length;rw [List.length_set];exact HTL.out))
  ·obtain ⟨bt,ct,evt⟩:=HS.out.tform (by have:=HTL.out;omega)
   injection evt with evt1 evt2 evt3;subst evt1;clear evt2 evt3;have qk0:(0:Int)<=(k:Int):=by omega
   have qk1:(k:Int) < (sn.tasks.length:Int):=by omega
   go_wp2_with (first
   |(go_at_call 49;fail))
   refine st9 (n:=9) (S:=fun W=>W.heap[gs]? = some (.cells #[.slice Uc sn.cells.length uc,.slice (some ⟨bt,0,none⟩) sn.tasks.length ut,.int .i64 sn.clock,.slice Ul sn.log.length ul] 27 (0,0))) (ds:= [6,7,8]) (by kernel_rfl) rfl (by exact blk_drew BS.out) (fun hHeld=> ?_);have hb:=below_drew (Below.refl wn.heap.size wn);generalize wn.drew=w7 at hb hHeld ⊢;replace HS:=am (HS.out.grow hb);replace VC:=am (Kd.R_below VC.out hb);replace VB:=am (Kd.R_below VB.out hb);replace BZ:=am (zb8 BZ.out hb);replace BY:=am (zb8 BY.out hb);replace BP:=am (zb8 BP.out hb);replace BS:=am (zb8 BS.out hb);replace HD:=am (HD.out.grow hb);clear BZc BYc BPc BSc;have BZc:=zc8 BZ.out;have BYc:=zc8 BY.out;have BPc:=zc8 BP.out;have BSc:=zc8 BS.out;clear hb;refine ba9 (fuel:=5) (n:=4) [0,1,2,3] (by kernel_rfl) (fun N _ _ _ _ h=>by cases N <;> exact h) hHeld ?_
   iterate 4 (
    refine stillS_step (v:= ?_) (a':= ?_) rfl (Or.inl ⟨by rfl, ?_⟩) ?_ ?_;rotate_left
    ·intro W s0
     have t0:=zc8 s0;clear s0;go_simp;with_reducible rfl
    rotate_left
    ·simp only [Act.put,sA,sZ,sS,i64_w]
     rfl)
   refine stillS_nil ?_;refine on9 (i:=4) (N:=some 63) rfl rfl (by kernel_rfl) (by decide) (fun K hK=> ?_);refine goes_ Try.func49 (by kernel_rfl) rfl #[.pointer (some ⟨g,0,none⟩),.int .i64 5] (by rfl) rfl rfl (by (try simp only [List.map_toArray,List.map_cons,List.map_nil]);first | done | rfl) ?_;refine (pick_rds HD.out HC.out (by have:=HQ.out;have:=HQ0.out;omega) 5).mono ?_;rintro e wn ⟨z,q2,rfl,hz,hq2,hd,hk⟩;refine ⟨_,rfl, ?_⟩;refine hK.out _ _ (HD.out.blkK hk hHeld (by decide)) (fun hHeld=> ?_);clear hK K;refine norm_ (a':= ?_) ?_ ?_;rotate_left
   ·show Act.put _ (some 63) _=_
    simp only [Act.put,sA,sZ,sS,i64_w];rfl
   replace HS:=am (HS.out.move hk.1 (fun q9 ho hl=>hk.2 q9 hl (fun he=>ho (by rw [he];exact OG.out)) (by simp)));have hz9:z<=6:=by omega
   clear hz;replace HQ:=am (show q0<=q2/\q2<=q0+7004 from by have:=HQ.out;(try have:=HNX.out);(try have:=HNB.out);omega);clear hq2;replace VC:=am (HD.out.rowK hk VC.out (by decide));replace VB:=am (HD.out.rowK hk VB.out (by decide));replace BZ:=am (HD.out.blkK hk BZ.out (by decide));replace BY:=am (HD.out.blkK hk BY.out (by decide));replace BP:=am (HD.out.blkK hk BP.out (by decide));replace BS:=am (HD.out.blkK hk BS.out (by decide));replace HD:=am (hd);clear BZc BYc BPc BSc;have BZc:=zc8 BZ.out;have BYc:=zc8 BY.out;have BPc:=zc8 BP.out;have BSc:=zc8 BS.out;clear hk hd;refine ba9 (fuel:=3) (n:=1) [5] (by kernel_rfl) (fun N _ _ _ _ h=>by cases N <;> exact h) hHeld ?_;refine stillS_step (v:= ?_) (a':= ?_) rfl (Or.inl ⟨by rfl, ?_⟩) ?_ ?_;rotate_left
   ·intro W s0
    go_simp
    with_reducible rfl
   rotate_left
   ·simp only [Act.put,sA,sZ,sS,i64_w]
    rfl
   refine stillS_nil ?_;clear hHeld;refine tail_ (fuel:=3) 6 (by kernel_rfl) ?_;simp only [List.drop_succ_cons,List.drop_zero]
   go_wp2_with (first
   |((with_reducible refine gate_store (t:=3) (p:=66) rfl ?_);obtain ⟨hS,ob,lb9,hex,hfr⟩:=HS.out.setInt hkl 2 (by decide) (wrap64 ((z:Int) - 1)) {tk sn k with up:=wrap64 ((z:Int) - 1)} (fun _ _ _ _=>rfl) ⟨rfl,rfl,rfl,rfl⟩;obtain ⟨ctt,htt⟩:=Kd.R_typed HS.out.tasks bt rfl;refine set_ev (u:=.int .i64 (wrap64 ((z:Int) - 1))) rfl rfl _ _ rfl (g:=bt) (off:=k*13+2) rfl rfl rfl rfl (by kernel_rfl) ⟨hex,hfr⟩ ?_;intro wz hwn;replace HS:=am (show Sy _ _ _ _ _ _ wz by rw [hwn];exact hS);replace BZ:=am (show wz.heap[gz]? = some (.cells #[.slice none 0 0,.slice none 0 0] 48 (0,0)) by rw [hwn];exact blk_far (p:=⟨bt,k*13+2,none⟩) BZ.out (fun he=>(by rw [<-show gz=bt from he,OZ.out] at ob;cases ob)) (.int .i64 (wrap64 ((z:Int) - 1))));replace BY:=am (show wz.heap[gy]? = some (.cells #[.slice none 0 0,.slice none 0 0,.int .i64 0,.slice none 0 0] 27 (0,0)) by rw [hwn];exact blk_far (p:=⟨bt,k*13+2,none⟩) BY.out (fun he=>(by rw [<-show gy=bt from he,OY.out] at ob;cases ob)) (.int .i64 (wrap64 ((z:Int) - 1))));replace BP:=am (show wz.heap[gp]? = some (.cells #[.slice A lk cA,.slice B lb cB] 48 (0,0)) by rw [hwn];exact blk_far (p:=⟨bt,k*13+2,none⟩) BP.out (fun he=>(by rw [<-show gp=bt from he,OP.out] at ob;cases ob)) (.int .i64 (wrap64 ((z:Int) - 1))));replace BS:=am (show wz.heap[gs]? = some (.cells #[.slice Uc sn.cells.length uc,.slice (some ⟨bt,0,none⟩) sn.tasks.length ut,.int .i64 sn.clock,.slice Ul sn.log.length ul] 27 (0,0)) by rw [hwn];exact blk_far (p:=⟨bt,k*13+2,none⟩) BS.out (fun he=>(by rw [<-show gs=bt from he,OS.out] at ob;cases ob)) (.int .i64 (wrap64 ((z:Int) - 1))));replace VC:=am (show (Kd.int .i64).R 3 wz w.heap.size (fun _=>True) (.slice A lk cA) p.cells by rw [hwn];exact R_set VC.out htt (by decide) (k*13+2) (.int .i64 (wrap64 ((z:Int) - 1))));replace VB:=am (show (Kd.slice 108 kAct).R 104 wz w.heap.size (fun _=>True) (.slice B lb cB) p.bodies by rw [hwn];exact R_set VB.out htt (by decide) (k*13+2) (.int .i64 (wrap64 ((z:Int) - 1))));replace HD:=am (show Rds w0 w g b _ wz by rw [hwn];exact HD.out.set lb9 (k*13+2) (.int .i64 (wrap64 ((z:Int) - 1))));clear hwn BSc BZc BYc BPc hS ob lb9 hex hfr htt;have BZc:=zc8 BZ.out;have BYc:=zc8 BY.out;have BPc:=zc8 BP.out;have BSc:=zc8 BS.out))
   replace HS:=am HS.out.sta;have HZ9:=am (HIV.out.sysSz (by have:=HN.out;omega));exact TL BZ BY BP BS VC VB HS HD (am (by have:=HQ.out;omega)) OG OZ OY OP OS (am (setTask_sz HZ9.out hkl rfl rfl rfl rfl)) (am (by have:=HIV.out.room;have:=HIV.out.many;have:=HN.out;show sn.log.length+(sn.tasks.set _ _).length<=1000;rw [List.length_set];omega)) (am (by show 1<=(sn.tasks.set _ _).length;rw [List.length_set];exact HTL.out))
  ·obtain ⟨bc,cc9,evc⟩:=HS.out.cform (by have:=HCL.out;omega)
   injection evc with evc1 evc2 evc3;subst evc1;clear evc2 evc3;have qcn:0 < sn.cells.length:=by have:=HCL.out;omega
   have qc:(0:Int) < (sn.cells.length:Int):=by omega
   go_wp2_with (first
   |(go_at_call 49;fail))
   refine st9 (n:=12) (S:=fun W=>W.heap[gs]? = some (.cells #[.slice (some ⟨bc,0,none⟩) sn.cells.length uc,.slice Ut sn.tasks.length ut,.int .i64 sn.clock,.slice Ul sn.log.length ul] 27 (0,0))) (ds:= [9,10,11]) (by kernel_rfl) rfl (by exact blk_drew BS.out) (fun hHeld=> ?_);have hb:=below_drew (Below.refl wn.heap.size wn);generalize wn.drew=w7 at hb hHeld ⊢;replace HS:=am (HS.out.grow hb);replace VC:=am (Kd.R_below VC.out hb);replace VB:=am (Kd.R_below VB.out hb);replace BZ:=am (zb8 BZ.out hb);replace BY:=am (zb8 BY.out hb);replace BP:=am (zb8 BP.out hb);replace BS:=am (zb8 BS.out hb);replace HD:=am (HD.out.grow hb);clear BZc BYc BPc BSc;have BZc:=zc8 BZ.out;have BYc:=zc8 BY.out;have BPc:=zc8 BP.out;have BSc:=zc8 BS.out;clear hb;refine ba9 (fuel:=5) (n:=7) [0,1,2,3,4,5,6] (by kernel_rfl) (fun N _ _ _ _ h=>by cases N <;> exact h) hHeld ?_
   iterate 7 (
    refine stillS_step (v:= ?_) (a':= ?_) rfl (Or.inl ⟨by rfl, ?_⟩) ?_ ?_;rotate_left
    ·intro W s0
     have t0:=zc8 s0;clear s0;go_simp;with_reducible rfl
    rotate_left
    ·simp only [Act.put,sA,sZ,sS,i64_w]
     rfl)
   refine stillS_nil ?_;refine on9 (i:=7) (N:=some 76) rfl rfl (by kernel_rfl) (by decide) (fun K hK=> ?_);refine goes_ Try.func49 (by kernel_rfl) rfl #[.pointer (some ⟨g,0,none⟩),.int .i64 (wrap64 ((sn.tasks.length:Int)+2))] (by rfl) rfl rfl (by (try simp only [List.map_toArray,List.map_cons,List.map_nil]);first | done | rfl) ?_;refine (pick_rds HD.out HC.out (by have:=HQ.out;have:=HQ0.out;omega) (wrap64 ((sn.tasks.length:Int)+2))).mono ?_;rintro e wn ⟨z,q2,rfl,hz,hq2,hd,hk⟩;refine ⟨_,rfl, ?_⟩;refine hK.out _ _ (HD.out.blkK hk hHeld (by decide)) (fun hHeld=> ?_);clear hK K;refine norm_ (a':= ?_) ?_ ?_;rotate_left
   ·show Act.put _ (some 76) _=_
    simp only [Act.put,sA,sZ,sS,i64_w];rfl
   replace HS:=am (HS.out.move hk.1 (fun q9 ho hl=>hk.2 q9 hl (fun he=>ho (by rw [he];exact OG.out)) (by simp)));clear hz;replace HQ:=am (show q0<=q2/\q2<=q0+7004 from by have:=HQ.out;(try have:=HNX.out);(try have:=HNB.out);omega);clear hq2;replace VC:=am (HD.out.rowK hk VC.out (by decide));replace VB:=am (HD.out.rowK hk VB.out (by decide));replace BZ:=am (HD.out.blkK hk BZ.out (by decide));replace BY:=am (HD.out.blkK hk BY.out (by decide));replace BP:=am (HD.out.blkK hk BP.out (by decide));replace BS:=am (HD.out.blkK hk BS.out (by decide));replace HD:=am (hd);clear BZc BYc BPc BSc;have BZc:=zc8 BZ.out;have BYc:=zc8 BY.out;have BPc:=zc8 BP.out;have BSc:=zc8 BS.out;clear hk hd;refine ba9 (fuel:=3) (n:=1) [8] (by kernel_rfl) (fun N _ _ _ _ h=>by cases N <;> exact h) hHeld ?_;refine stillS_step (v:= ?_) (a':= ?_) rfl (Or.inl ⟨by rfl, ?_⟩) ?_ ?_;rotate_left
   ·intro W s0
    go_simp
    with_reducible rfl
   rotate_left
   ·simp only [Act.put,sA,sZ,sS,i64_w]
    rfl
   refine stillS_nil ?_;clear hHeld;refine tail_ (fuel:=3) 9 (by kernel_rfl) ?_;simp only [List.drop_succ_cons,List.drop_zero]
   go_wp2_with (first
   |((with_reducible refine gate_store (t:=3) (p:=79) rfl ?_);obtain ⟨hS,ob,lb9,hex,hfr⟩:=HS.out.setLock (i:=0) qcn (wrap64 ((z:Int) - 1));obtain ⟨ctt,htt⟩:=Kd.R_typed HS.out.cells bc rfl;refine set_ev (u:=.int .i64 (wrap64 ((z:Int) - 1))) rfl rfl _ _ rfl (g:=bc) (off:=0*3+2) rfl rfl rfl rfl (by kernel_rfl) ⟨hex,hfr⟩ ?_;intro wz hwn;replace HS:=am (show Sy _ _ _ _ _ _ wz by rw [hwn];exact hS);replace BZ:=am (show wz.heap[gz]? = some (.cells #[.slice none 0 0,.slice none 0 0] 48 (0,0)) by rw [hwn];exact blk_far (p:=⟨bc,0*3+2,none⟩) BZ.out (fun he=>(by rw [<-show gz=bc from he,OZ.out] at ob;cases ob)) (.int .i64 (wrap64 ((z:Int) - 1))));replace BY:=am (show wz.heap[gy]? = some (.cells #[.slice none 0 0,.slice none 0 0,.int .i64 0,.slice none 0 0] 27 (0,0)) by rw [hwn];exact blk_far (p:=⟨bc,0*3+2,none⟩) BY.out (fun he=>(by rw [<-show gy=bc from he,OY.out] at ob;cases ob)) (.int .i64 (wrap64 ((z:Int) - 1))));replace BP:=am (show wz.heap[gp]? = some (.cells #[.slice A lk cA,.slice B lb cB] 48 (0,0)) by rw [hwn];exact blk_far (p:=⟨bc,0*3+2,none⟩) BP.out (fun he=>(by rw [<-show gp=bc from he,OP.out] at ob;cases ob)) (.int .i64 (wrap64 ((z:Int) - 1))));replace BS:=am (show wz.heap[gs]? = some (.cells #[.slice (some ⟨bc,0,none⟩) sn.cells.length uc,.slice Ut sn.tasks.length ut,.int .i64 sn.clock,.slice Ul sn.log.length ul] 27 (0,0)) by rw [hwn];exact blk_far (p:=⟨bc,0*3+2,none⟩) BS.out (fun he=>(by rw [<-show gs=bc from he,OS.out] at ob;cases ob)) (.int .i64 (wrap64 ((z:Int) - 1))));replace VC:=am (show (Kd.int .i64).R 3 wz w.heap.size (fun _=>True) (.slice A lk cA) p.cells by rw [hwn];exact R_set VC.out htt (by decide) (0*3+2) (.int .i64 (wrap64 ((z:Int) - 1))));replace VB:=am (show (Kd.slice 108 kAct).R 104 wz w.heap.size (fun _=>True) (.slice B lb cB) p.bodies by rw [hwn];exact R_set VB.out htt (by decide) (0*3+2) (.int .i64 (wrap64 ((z:Int) - 1))));replace HD:=am (show Rds w0 w g b _ wz by rw [hwn];exact HD.out.set lb9 (0*3+2) (.int .i64 (wrap64 ((z:Int) - 1))));clear hwn BSc BZc BYc BPc hS ob lb9 hex hfr htt;have BZc:=zc8 BZ.out;have BYc:=zc8 BY.out;have BPc:=zc8 BP.out;have BSc:=zc8 BS.out))
   replace HS:=am HS.out.sta;have HZ9:=am (HIV.out.sysSz (by have:=HN.out;omega));have hcl9:(setCell sn 0 {cellAt sn.cells 0 with lock:=wrap64 ((z:Int) - 1)}).cells.length=sn.cells.length:=by simp [setCell]
   exact TL BZ BY BP BS VC VB HS HD (am (by have:=HQ.out;omega)) OG OZ OY OP OS (am ⟨by rw [hcl9];exact HZ9.out.cells,HZ9.out.tasks,HZ9.out.log,HZ9.out.task,HZ9.out.logs⟩) (am (by have:=HIV.out.room;have:=HIV.out.many;have:=HN.out;show sn.log.length+sn.tasks.length<=1000;omega)) (am HTL.out)
  ·obtain ⟨bt,ct,evt⟩:=HS.out.tform (by have:=HTL.out;omega)
   injection evt with evt1 evt2 evt3;subst evt1;clear evt2 evt3;have qk0:(0:Int)<=(k:Int):=by omega
   have qk1:(k:Int) < (sn.tasks.length:Int):=by omega
   go_wp2_with (first
   |(go_at_call 49;fail)
   |((with_reducible refine gate_store (t:=3) (p:=89) rfl ?_);obtain ⟨hS,ob,lb9,hex,hfr⟩:=HS.out.setInt hkl 7 (by decide) (wrap64 (sn.clock+1)) {tk sn k with since:=wrap64 (sn.clock+1)} (fun _ _ _ _=>rfl) ⟨rfl,rfl,rfl,rfl⟩;obtain ⟨ctt,htt⟩:=Kd.R_typed HS.out.tasks bt rfl;refine set_ev (u:=.int .i64 (wrap64 (sn.clock+1))) rfl rfl _ _ rfl (g:=bt) (off:=k*13+7) rfl rfl rfl rfl (by kernel_rfl) ⟨hex,hfr⟩ ?_;intro wz hwn;replace HS:=am (show Sy _ _ _ _ _ _ wz by rw [hwn];exact hS);replace BZ:=am (show wz.heap[gz]? = some (.cells #[.slice none 0 0,.slice none 0 0] 48 (0,0)) by rw [hwn];exact blk_far (p:=⟨bt,k*13+7,none⟩) BZ.out (fun he=>(by rw [<-show gz=bt from he,OZ.out] at ob;cases ob)) (.int .i64 (wrap64 (sn.clock+1))));replace BY:=am (show wz.heap[gy]? = some (.cells #[.slice none 0 0,.slice none 0 0,.int .i64 0,.slice none 0 0] 27 (0,0)) by rw [hwn];exact blk_far (p:=⟨bt,k*13+7,none⟩) BY.out (fun he=>(by rw [<-show gy=bt from he,OY.out] at ob;cases ob)) (.int .i64 (wrap64 (sn.clock+1))));replace BP:=am (show wz.heap[gp]? = some (.cells #[.slice A lk cA,.slice B lb cB] 48 (0,0)) by rw [hwn];exact blk_far (p:=⟨bt,k*13+7,none⟩) BP.out (fun he=>(by rw [<-show gp=bt from he,OP.out] at ob;cases ob)) (.int .i64 (wrap64 (sn.clock+1))));replace BS:=am (show wz.heap[gs]? = some (.cells #[.slice Uc sn.cells.length uc,.slice (some ⟨bt,0,none⟩) sn.tasks.length ut,.int .i64 sn.clock,.slice Ul sn.log.length ul] 27 (0,0)) by rw [hwn];exact blk_far (p:=⟨bt,k*13+7,none⟩) BS.out (fun he=>(by rw [<-show gs=bt from he,OS.out] at ob;cases ob)) (.int .i64 (wrap64 (sn.clock+1))));replace VC:=am (show (Kd.int .i64).R 3 wz w.heap.size (fun _=>True) (.slice A lk cA) p.cells by rw [hwn];exact R_set VC.out htt (by decide) (k*13+7) (.int .i64 (wrap64 (sn.clock+1))));replace VB:=am (show (Kd.slice 108 kAct).R 104 wz w.heap.size (fun _=>True) (.slice B lb cB) p.bodies by rw [hwn];exact R_set VB.out htt (by decide) (k*13+7) (.int .i64 (wrap64 (sn.clock+1))));replace HD:=am (show Rds w0 w g b _ wz by rw [hwn];exact HD.out.set lb9 (k*13+7) (.int .i64 (wrap64 (sn.clock+1))));clear hwn BSc BZc BYc BPc hS ob lb9 hex hfr htt;have BZc:=zc8 BZ.out;have BYc:=zc8 BY.out;have BPc:=zc8 BP.out;have BSc:=zc8 BS.out))
   replace HS:=am HS.out.sta;have HZ9:=am (HIV.out.sysSz (by have:=HN.out;omega));exact TL BZ BY BP BS VC VB HS HD (am (by have:=HQ.out;omega)) OG OZ OY OP OS (am (setTask_sz HZ9.out hkl rfl rfl rfl rfl)) (am (by have:=HIV.out.room;have:=HIV.out.many;have:=HN.out;show sn.log.length+(sn.tasks.set _ _).length<=1000;rw [List.length_set];omega)) (am (by show 1<=(sn.tasks.set _ _).length;rw [List.length_set];exact HTL.out))
  ·obtain ⟨bt,ct,evt⟩:=HS.out.tform (by have:=HTL.out;omega)
   injection evt with evt1 evt2 evt3;subst evt1;clear evt2 evt3;have qk0:(0:Int)<=(k:Int):=by omega
   have qk1:(k:Int) < (sn.tasks.length:Int):=by omega
   obtain ⟨v10,c10,r10⟩:=HS.out.putsAt hkl;obtain ⟨Ap,cp,ev⟩:=Kd.R_slice r10;subst ev;have V10:=am r10;have C10:=am c10;have LP:=am (HIV.out.puts hkl);clear r10 c10
   go_wp2_with (first
   |(go_at_call 49;fail))
   refine st9 (n:=17) (S:=fun W=>W.heap[gs]? = some (.cells #[.slice Uc sn.cells.length uc,.slice (some ⟨bt,0,none⟩) sn.tasks.length ut,.int .i64 sn.clock,.slice Ul sn.log.length ul] 27 (0,0))/\W.cell? ⟨bt,k*13+10,none⟩=some (.slice Ap (tk sn k).puts.length cp)) (ds:= [14,15,16]) (by kernel_rfl) rfl ⟨blk_drew BS.out,C10.out⟩ (fun hHeld=> ?_);have hb:=below_drew (Below.refl wn.heap.size wn);generalize wn.drew=w7 at hb hHeld ⊢;clear C10;replace HS:=am (HS.out.grow hb);replace VC:=am (Kd.R_below VC.out hb);replace VB:=am (Kd.R_below VB.out hb);replace V10:=am (Kd.R_below V10.out hb);replace BZ:=am (zb8 BZ.out hb);replace BY:=am (zb8 BY.out hb);replace BP:=am (zb8 BP.out hb);replace BS:=am (zb8 BS.out hb);replace HD:=am (HD.out.grow hb);clear BZc BYc BPc BSc;have BZc:=zc8 BZ.out;have BYc:=zc8 BY.out;have BPc:=zc8 BP.out;have BSc:=zc8 BS.out;clear hb;refine ba9 (fuel:=7) (n:=10) [0,1,2,3,4,5,6,7,8,9] (by kernel_rfl) (fun N _ _ _ _ h=>by cases N <;> exact h) hHeld ?_
   iterate 10 (
    refine stillS_step (v:= ?_) (a':= ?_) rfl (Or.inl ⟨by rfl, ?_⟩) ?_ ?_;rotate_left
    ·rintro W ⟨s0,s1⟩
     have t0:=zc8 s0;clear s0;go_simp;with_reducible rfl
    rotate_left
    ·simp only [Act.put,sA,sZ,sS,i64_w]
     rfl)
   refine stillS_nil ?_;refine on9 (i:=10) (N:=some 102) rfl rfl (by kernel_rfl) (by decide) (fun K hK=> ?_);refine goes_ Try.func49 (by kernel_rfl) rfl #[.pointer (some ⟨g,0,none⟩),.int .i64 5] (by rfl) rfl rfl (by (try simp only [List.map_toArray,List.map_cons,List.map_nil]);first | done | rfl) ?_;refine (pick_rds HD.out HC.out (by have:=HQ.out;have:=HQ0.out;omega) 5).mono ?_;rintro e wn ⟨z,q2,rfl,hz,hq2,hd,hk⟩;refine ⟨_,rfl, ?_⟩;refine hK.out _ _ (⟨HD.out.blkK hk hHeld.1 (by decide),cell_keep hHeld.2 hk (fun he=>by have h3:=HS.out.town bt rfl;rw [he,OG.out] at h3;cases h3)⟩) (fun hHeld=> ?_);clear hK K;refine norm_ (a':= ?_) ?_ ?_;rotate_left
   ·show Act.put _ (some 102) _=_
    simp only [Act.put,sA,sZ,sS,i64_w];rfl
   replace HS:=am (HS.out.move hk.1 (fun q9 ho hl=>hk.2 q9 hl (fun he=>ho (by rw [he];exact OG.out)) (by simp)));clear hz;replace HQ:=am (show q0<=q2/\q2<=q0+7004 from by have:=HQ.out;(try have:=HNX.out);(try have:=HNB.out);omega);clear hq2;replace VC:=am (HD.out.rowK hk VC.out (by decide));replace VB:=am (HD.out.rowK hk VB.out (by decide));replace V10:=am (HD.out.rowK hk V10.out (by decide));replace BZ:=am (HD.out.blkK hk BZ.out (by decide));replace BY:=am (HD.out.blkK hk BY.out (by decide));replace BP:=am (HD.out.blkK hk BP.out (by decide));replace BS:=am (HD.out.blkK hk BS.out (by decide));replace HD:=am (hd);clear BZc BYc BPc BSc;have BZc:=zc8 BZ.out;have BYc:=zc8 BY.out;have BPc:=zc8 BP.out;have BSc:=zc8 BS.out;clear hk hd;refine on9 (i:=11) (N:=some 103) rfl rfl (by kernel_rfl) (by decide) (fun K hK=> ?_);refine value_ (v:=.agg #[.int .i64 z,.int .i64 0]) (w1:=wn) (by rfl) rfl (by go_simp<;>rfl) ?_;refine hK.out _ _ (hHeld) (fun hHeld=> ?_);clear hK K;refine norm_ (a':= ?_) ?_ ?_;rotate_left
   ·show Act.put _ (some 103) _=_
    simp only [Act.put,sA,sZ,sS,i64_w];rfl
   refine on9 (i:=12) (N:=some 104) rfl rfl (by kernel_rfl) (by decide) (fun K hK=> ?_);refine value_ (v:=.slice (some ⟨wn.heap.size,0,none⟩) 1 1) (w1:=wn.alloc (.cells #[.int .i64 z,.int .i64 0] 103 (0,0))) (by rfl) rfl (by go_simp<;>rfl) ?_;have hHeld0:=hHeld;refine hK.out _ _ (⟨blk_alloc hHeld.1 _,cell_alloc hHeld.2 _⟩) (fun hHeld=> ?_);clear hK K;refine norm_ (a':= ?_) ?_ ?_;rotate_left
   ·show Act.put _ (some 104) _=_
    simp only [Act.put,sA,sZ,sS,i64_w];rfl
   refine on9 (i:=13) (N:=some 105) rfl rfl (by kernel_rfl) (by decide) (fun K hK=> ?_);refine Kd.R_append_step kPut (w0:=_) w.heap.size (by rfl) (.tmp 100) (.tmp 104) 36 103 (.agg #[.int .i64 0,.int .i64 0]) 16 rfl Try.underlying36 (by kernel_rfl) rfl (by decide) (by decide) (.slice Ap (tk sn k).puts.length cp) (tk sn k).puts ⟨z,0⟩ [.int .i64 z,.int .i64 0] (fun q=>own q=11+8*k\/own q=0) (fun _=>False) rfl rfl (kPut_mkM ⟨z,0⟩) (fun _ hk=>hk.elim) (fun q hq=> .inr (HS.out.new0 q hq)) (Kd.R_mono V10.out (fun q hq=> .inl hq)) (Below.refl _ _) HD.out.size (by have:=LP.out;omega) ?_;intro v1 w6 hv1 hb6 hg6 hat6;clear hb6;have NT6:some bt ≠ (Value.slice Ap (tk sn k).puts.length cp).ownBlock:=fun he=>by have h9:own bt=11+8*k:=V10.out.1 bt he.symm;rw [HS.out.town bt rfl] at h9;omega
   have NZ:some gz ≠ (Value.slice Ap (tk sn k).puts.length cp).ownBlock:=fun he=>by have h9:own gz=11+8*k:=V10.out.1 gz he.symm;rw [OZ.out] at h9;omega
   have NY:some gy ≠ (Value.slice Ap (tk sn k).puts.length cp).ownBlock:=fun he=>by have h9:own gy=11+8*k:=V10.out.1 gy he.symm;rw [OY.out] at h9;omega
   have NP:some gp ≠ (Value.slice Ap (tk sn k).puts.length cp).ownBlock:=fun he=>by have h9:own gp=11+8*k:=V10.out.1 gp he.symm;rw [OP.out] at h9;omega
   have NS:some gs ≠ (Value.slice Ap (tk sn k).puts.length cp).ownBlock:=fun he=>by have h9:own gs=11+8*k:=V10.out.1 gs he.symm;rw [OS.out] at h9;omega
   refine hK.out _ _ (⟨blk_grown hHeld0.1 hg6 NS,cell_grown hHeld0.2 hg6 NT6⟩) (fun hHeld=> ?_);clear hK K;refine norm_ (a':= ?_) ?_ ?_;rotate_left
   ·show Act.put _ (some 105) _=_
    simp only [Act.put,sA,sZ,sS,i64_w];rfl
   have hf6:w6.frozen? ⟨bt,k*13+10,none⟩=false:=by obtain ⟨ct,htt⟩:=Kd.R_typed HS.out.tasks bt rfl;exact blk_frozen (blk_grown htt hg6 NT6) _
   have ht6:∃ ct,w6.heap[bt]? = some (.cells ct 38 (0,0)):=by obtain ⟨ct,htt⟩:=Kd.R_typed HS.out.tasks bt rfl;exact ⟨ct,blk_grown htt hg6 NT6⟩
   have HF6:=am hf6;have HT6:=am ht6;have C6:=am hHeld.2;have V6:=am hv1;have LB6:=am (show w.heap.size<=bt from Nat.le_of_not_lt fun hlt=>by have h3:=HS.out.town bt rfl;rw [HS.out.low bt hlt] at h3;cases h3);have NB6:=am (show ∀ q,own q=0->q ≠ bt from fun q ho he=>by rw [he,HS.out.town bt rfl] at ho;cases ho);obtain ⟨own2,hS2,hl2⟩:=HS.out.putsGrown hkl hHeld0.2 hg6 hv1 hat6;have HS2:=am hS2;have LG:=HD.out.lt;have LW:=HD.out.size;replace OG:=am ((hl2 g (by omega)).trans OG.out);have OZ_:=am ((hl2 gz (blk_lt BZ.out)).trans OZ.out);have OY_:=am ((hl2 gy (blk_lt BY.out)).trans OY.out);have OP_:=am ((hl2 gp (blk_lt BP.out)).trans OP.out);have OS_:=am ((hl2 gs (blk_lt BS.out)).trans OS.out);replace VC:=am (R_other VC.out V10.out (by decide) hg6);replace VB:=am (R_other VB.out V10.out (by decide) hg6);replace BZ:=am (blk_grown BZ.out hg6 NZ);replace BY:=am (blk_grown BY.out hg6 NY);replace BP:=am (blk_grown BP.out hg6 NP);replace BS:=am (blk_grown BS.out hg6 NS);replace HD:=am (HD.out.grown hg6 (fun q hq=>Kd.R_base V10.out q hq));have NZb:=am (NB6.out gz OZ.out);have NYb:=am (NB6.out gy OY.out);have NPb:=am (NB6.out gp OP.out);have NSb:=am (NB6.out gs OS.out);clear hHeld hHeld0 hv1 hg6 hat6 hf6 ht6 NT6 NZ NY NP NS hS2 hl2 LG LW NB6 OZ OY OP OS V10 BZc BYc BPc BSc HS;have OZ:=OZ_;clear OZ_;have OY:=OY_;clear OY_;have OP:=OP_;clear OP_;have OS:=OS_;clear OS_;have BSc:=zc8 BS.out;refine tail_ (fuel:=3) 14 (by kernel_rfl) ?_;simp only [List.drop_succ_cons,List.drop_zero]
   go_wp2_with (first
   |((with_reducible refine gate_store (t:=36) (p:=107) rfl ?_);obtain ⟨ct6,hct6⟩:=HT6.out;refine set_ev (u:=v1) rfl rfl _ _ rfl (g:=bt) (off:=k*13+10) rfl rfl (R_cells V6.out) (R_oneCell V6.out) (by kernel_rfl) ⟨⟨_,C6.out⟩,HF6.out⟩ ?_;intro wz hwn;have HS_0:=am (show Sy _ _ _ _ _ _ wz by rw [hwn];exact HS2.out);replace BZ:=am (show wz.heap[gz]? = some (.cells #[.slice none 0 0,.slice none 0 0] 48 (0,0)) by rw [hwn];exact blk_far (p:=⟨bt,k*13+10,none⟩) BZ.out NZb.out v1);replace BY:=am (show wz.heap[gy]? = some (.cells #[.slice none 0 0,.slice none 0 0,.int .i64 0,.slice none 0 0] 27 (0,0)) by rw [hwn];exact blk_far (p:=⟨bt,k*13+10,none⟩) BY.out NYb.out v1);replace BP:=am (show wz.heap[gp]? = some (.cells #[.slice A lk cA,.slice B lb cB] 48 (0,0)) by rw [hwn];exact blk_far (p:=⟨bt,k*13+10,none⟩) BP.out NPb.out v1);replace BS:=am (show wz.heap[gs]? = some (.cells #[.slice Uc sn.cells.length uc,.slice (some ⟨bt,0,none⟩) sn.tasks.length ut,.int .i64 sn.clock,.slice Ul sn.log.length ul] 27 (0,0)) by rw [hwn];exact blk_far (p:=⟨bt,k*13+10,none⟩) BS.out NSb.out v1);replace VC:=am (show (Kd.int .i64).R 3 wz w.heap.size (fun _=>True) (.slice A lk cA) p.cells by rw [hwn];exact R_set VC.out hct6 (by decide) (k*13+10) v1);replace VB:=am (show (Kd.slice 108 kAct).R 104 wz w.heap.size (fun _=>True) (.slice B lb cB) p.bodies by rw [hwn];exact R_set VB.out hct6 (by decide) (k*13+10) v1);replace HD:=am (show Rds w0 w g b _ wz by rw [hwn];exact HD.out.set LB6.out (k*13+10) v1);clear hwn HS2 BSc hct6;have HS:=HS_0;clear HS_0;have BZc:=zc8 BZ.out;have BYc:=zc8 BY.out;have BPc:=zc8 BP.out;have BSc:=zc8 BS.out))
   replace HS:=am HS.out.sta;have HZ9:=am (HIV.out.sysSz (by have:=HN.out;omega));exact TL BZ BY BP BS VC VB HS HD (am (by have:=HQ.out;omega)) OG OZ OY OP OS (am (setTask_szP HZ9.out hkl rfl rfl rfl (by have:=LP.out;rw [List.length_append,List.length_singleton];omega))) (am (by have:=HIV.out.room;have:=HIV.out.many;have:=HN.out;show sn.log.length+(sn.tasks.set _ _).length<=1000;rw [List.length_set];omega)) (am (by show 1<=(sn.tasks.set _ _).length;rw [List.length_set];exact HTL.out))
  ·obtain ⟨i0,hi0,_,hsz,_⟩:=info_parts info_cell
   have hcut:=cut_from (P:=Try.prog) 23 53 .i64 Try.underlying23 hi0 3 hsz Uc sn.cells.length uc 1 (by decide) (by have:=HCL.out;omega);obtain ⟨A1,hA1⟩:∃ A1,A1=(if uc=(1:Int).toNat then Uc else Uc.map (·.add ((1:Int).toNat*3))):=⟨_,rfl⟩;obtain ⟨c1,hc1⟩:∃ c1,c1=uc - (1:Int).toNat:=⟨_,rfl⟩;rw [<-hA1,<-hc1] at hcut;have HA1:=am hA1;have HC1:=am hc1;clear hA1 hc1 hi0 hsz
   go_wp2_with (first
   |((with_reducible refine gate_dst (N:=26) rfl ?_);refine event_run rfl (by first|exact hcut _|(go_simp;exact hcut _)|(go_simp;rfl)) ?_)
   |((with_reducible refine gate_store (t:=23) (p:=27) rfl ?_);refine set_ev (u:=.slice A1 (sn.cells.length - 1) c1) rfl rfl _ _ rfl (g:=gs) (off:=0) rfl rfl rfl rfl (by kernel_rfl) ⟨⟨_,by rw [zc8 BS.out];rfl⟩,blk_frozen BS.out _⟩ ?_;intro wz hwn;have BS_0:=am (show wz.heap[gs]? = some (.cells #[.slice A1 (sn.cells.length - 1) c1,.slice Ut sn.tasks.length ut,.int .i64 sn.clock,.slice Ul sn.log.length ul] 27 (0,0)) by rw [hwn];exact blk_set BS.out 0 (.slice A1 (sn.cells.length - 1) c1));replace BZ:=am (show wz.heap[gz]? = some (.cells #[.slice none 0 0,.slice none 0 0] 48 (0,0)) by rw [hwn];exact blk_far (p:=⟨gs,0,none⟩) BZ.out (blk_ne BZ.out BS.out (by decide)) (.slice A1 (sn.cells.length - 1) c1));replace BY:=am (show wz.heap[gy]? = some (.cells #[.slice none 0 0,.slice none 0 0,.int .i64 0,.slice none 0 0] 27 (0,0)) by rw [hwn];exact blk_far (p:=⟨gs,0,none⟩) BY.out (NBYBS.out) (.slice A1 (sn.cells.length - 1) c1));replace BP:=am (show wz.heap[gp]? = some (.cells #[.slice A lk cA,.slice B lb cB] 48 (0,0)) by rw [hwn];exact blk_far (p:=⟨gs,0,none⟩) BP.out (blk_ne BP.out BS.out (by decide)) (.slice A1 (sn.cells.length - 1) c1));replace VC:=am (show (Kd.int .i64).R 3 wz w.heap.size (fun _=>True) (.slice A lk cA) p.cells by rw [hwn];exact R_set VC.out BS.out (by decide) 0 (.slice A1 (sn.cells.length - 1) c1));replace VB:=am (show (Kd.slice 108 kAct).R 104 wz w.heap.size (fun _=>True) (.slice B lb cB) p.bodies by rw [hwn];exact R_set VB.out BS.out (by decide) 0 (.slice A1 (sn.cells.length - 1) c1));replace HS:=am (show Sy _ _ _ _ _ _ wz by rw [hwn];exact HS.out.far OS.out 0 (.slice A1 (sn.cells.length - 1) c1));replace HD:=am (show Rds w0 w g b _ wz by rw [hwn];exact HD.out.set LBS.out 0 (.slice A1 (sn.cells.length - 1) c1));clear hwn BS BSc BZc BYc BPc;have BS:=BS_0;clear BS_0;have BZc:=zc8 BZ.out;have BYc:=zc8 BY.out;have BPc:=zc8 BP.out;have BSc:=zc8 BS.out))
   replace HS:=am (show Sta w.heap.size own wz {sn with cells:=sn.cells.drop 1} [.slice A1 (sn.cells.length - 1) c1,.slice Ut sn.tasks.length ut,.int .i64 sn.clock,.slice Ul sn.log.length ul] from fun W2 hs2 hm2=>by have h:=(HS.out.move hs2 (fun k ho hl=>hm2 k (HS.out.above ho) ho hl)).cellsCut HCL.out;rw [HA1.out,HC1.out];exact h);clear hcut;have HZ9:=am (HIV.out.sysSz (by have:=HN.out;omega));exact TL BZ BY BP BS VC VB HS HD (am (by have:=HQ.out;omega)) OG OZ OY OP OS (am ⟨(by show (sn.cells.drop 1).length<=_;rw [List.length_drop];have:=HZ9.out.cells;omega),HZ9.out.tasks,HZ9.out.log,HZ9.out.task,HZ9.out.logs⟩) (am (by have:=HIV.out.room;have:=HIV.out.many;have:=HN.out;show sn.log.length+sn.tasks.length<=1000;omega)) (am HTL.out)
 ·have q4:(0:Int) < (x:Int):=by omega
  have q6:0 < x:=by omega
  clear hx hx0;replace HS:=am HS.out.sta;go_wp2;refine st9 (n:=4) (S:=fun W=>W.heap[gp]? = some (.cells #[.slice A lk cA,.slice B lb cB] 48 (0,0))/\W.heap[gs]? = some (.cells #[.slice Uc sn.cells.length uc,.slice Ut sn.tasks.length ut,.int .i64 sn.clock,.slice Ul sn.log.length ul] 27 (0,0))) (ds:= [3]) (by kernel_rfl) rfl ⟨blk_drew BP.out,blk_drew BS.out⟩ (fun hHeld=> ?_);have hb:=below_drew (Below.refl wn.heap.size wn);generalize wn.drew=w7 at hb hHeld ⊢;replace HS:=am (HS.out.grow hb);replace VC:=am (Kd.R_below VC.out hb);replace VB:=am (Kd.R_below VB.out hb);replace BZ:=am (zb8 BZ.out hb);replace BY:=am (zb8 BY.out hb);replace BP:=am (zb8 BP.out hb);replace BS:=am (zb8 BS.out hb);replace HD:=am (HD.out.grow hb);clear BZc BYc BPc BSc;have BZc:=zc8 BZ.out;have BYc:=zc8 BY.out;have BPc:=zc8 BP.out;have BSc:=zc8 BS.out;clear hb;refine ba9 (fuel:=3) (n:=1) [0] (by kernel_rfl) (fun N _ _ _ _ h=>by cases N <;> exact h) hHeld ?_
  iterate 1 (
   refine stillS_step (v:= ?_) (a':= ?_) rfl (Or.inl ⟨by rfl, ?_⟩) ?_ ?_;rotate_left
   ·rintro W ⟨s0,s1⟩
    have t0:=zc8 s0;have t1:=zc8 s1;clear s0 s1;go_simp;with_reducible rfl
   rotate_left
   ·simp only [Act.put,sA,sZ,sS,i64_w]
    rfl)
  refine stillS_nil ?_;refine tw9 (i:=1) (j:=2) (Ni:=some 16) (Nj:=none) rfl rfl rfl rfl (by kernel_rfl) (by decide) (by decide) (fun K hK=> ?_) (fun K hK=> ?_)
  ·have t1:=zc8 hHeld.2
   refine value_ (v:=.agg #[.slice Uc sn.cells.length uc,.slice Ut sn.tasks.length ut,.int .i64 sn.clock,.slice Ul sn.log.length ul]) (w1:=_) (by rfl) rfl (by go_simp<;>rfl) ?_;clear t1;refine hK.out _ _ (hHeld) (fun hHeld=> ?_);clear hK K;refine norm_ (a':= ?_) ?_ ?_;rotate_left
   ·show Act.put _ (some 16) _=_
    simp only [Act.put,sA,sZ,sS,i64_w];rfl
   refine on9 (i:=2) (N:=none) rfl rfl (by kernel_rfl) (by decide) (fun K hK=> ?_);obtain ⟨hbox,hg⟩:=setCells_blk (cs:= [.slice A lk cA,.slice B lb cB]) BZ.out rfl;rw [if_pos (by rfl)];refine store_wp rfl 48 (.tmp 2) (.tmp 15) rfl rfl rfl BZ.out rfl (by kernel_rfl) (aB rfl) ?_;generalize World.setCells _ gz 0 [.slice A lk cA,.slice B lb cB]=wy at hbox hg ⊢;refine hK.out _ _ ⟨blk_grown hHeld.1 hg (fun he=>Ne.symm NBZBP.out (by injection he)),blk_grown hHeld.2 hg (fun he=>blk_ne hHeld.2 BZ.out (by decide) (by injection he))⟩ (fun hHeld=> ?_);clear hK K;have BZ_0:=am hbox;replace VC:=am (R_grownT VC.out BZ.out (by decide) hg);replace VB:=am (R_grownT VB.out BZ.out (by decide) hg);replace BY:=am (blk_grown BY.out hg (fun he=>blk_ne BY.out BZ.out (by decide) (by injection he)));replace BP:=am (blk_grown BP.out hg (fun he=>Ne.symm NBZBP.out (by injection he)));replace BS:=am (blk_grown BS.out hg (fun he=>blk_ne BS.out BZ.out (by decide) (by injection he)));replace HS:=am (HS.out.move hg.size (fun q hq hl=>hg.block q hl (fun he=>hq (by injection he with he;rw [he];exact OZ.out))));replace HD:=am (HD.out.grown hg (fun k hk=>by cases hk;exact LBZ.out));clear BZ BZc BYc BPc BSc;have BZ:=BZ_0;clear BZ_0 hbox hg;have BZc:=zc8 BZ.out;have BYc:=zc8 BY.out;have BPc:=zc8 BP.out;have BSc:=zc8 BS.out;clear hHeld;refine tail_ (fuel:=1) 3 (by kernel_rfl) ?_;simp only [List.drop_succ_cons,List.drop_zero]
   go_wp2_with (first
   |((with_reducible refine gate_store (t:=27) (p:=3) rfl ?_);refine store_block rfl rfl 27 (.tmp 3) (.tmp 16) rfl rfl rfl BY.out rfl (by kernel_rfl) (aB rfl) ?_;intro wn hbox hg;have BY_0:=am hbox;replace VC:=am (R_grownT VC.out BY.out (by decide) hg);replace VB:=am (R_grownT VB.out BY.out (by decide) hg);replace BZ:=am (blk_grown BZ.out hg (fun he=>blk_ne BZ.out BY.out (by decide) (by injection he)));replace BP:=am (blk_grown BP.out hg (fun he=>blk_ne BP.out BY.out (by decide) (by injection he)));replace BS:=am (blk_grown BS.out hg (fun he=>Ne.symm NBYBS.out (by injection he)));replace HS:=am (HS.out.move hg.size (fun q hq hl=>hg.block q hl (fun he=>hq (by injection he with he;rw [he];exact OY.out))));replace HD:=am (HD.out.grown hg (fun k hk=>by cases hk;exact LBY.out));clear BY BZc BYc BPc BSc;have BY:=BY_0;clear BY_0 hbox hg;have BZc:=zc8 BZ.out;have BYc:=zc8 BY.out;have BPc:=zc8 BP.out;have BSc:=zc8 BS.out))
   refine bodyPost_ret (results_list (rs:= [.cell 2 48,.cell 3 27]) rfl (by simp) (.cell gz 48 #[.slice A lk cA,.slice B lb cB] (0,0) _ rfl BZ.out Try.underlying48 rfl (by kernel_rfl) (.cell gy 27 #[.slice Uc sn.cells.length uc,.slice Ut sn.tasks.length ut,.int .i64 sn.clock,.slice Ul sn.log.length ul] (0,0) _ rfl BY.out Try.underlying27 rfl (by kernel_rfl) .nil))) rfl ?_;exact ⟨p,sn,_,_,_,_,rfl,OK.out,HSZ.out,VC.out,VB.out,⟨Nat.le_refl _,fun W2 hs2 hm2=>HS.out W2 hs2 (fun q9 hB ho hl=>hm2 q9 hB hl (fun he=>ho (by rw [he];exact OG.out)))⟩,HIV.out.sysSz (by have:=HN.out;omega),(by have:=HIV.out.room;have:=HIV.out.many;have:=HN.out;omega),HTL.out,HD.out,HQ.out.1,by have:=HQ.out.2;omega⟩
  ·obtain ⟨hbox,hg⟩:=setCells_blk (cs:= [.slice A lk cA,.slice B lb cB]) BZ.out rfl
   rw [if_pos (by rfl)];refine store_wp rfl 48 (.tmp 2) (.tmp 15) rfl rfl rfl BZ.out rfl (by kernel_rfl) (aB rfl) ?_;generalize World.setCells _ gz 0 [.slice A lk cA,.slice B lb cB]=wy at hbox hg ⊢;refine hK.out _ _ ⟨blk_grown hHeld.1 hg (fun he=>Ne.symm NBZBP.out (by injection he)),blk_grown hHeld.2 hg (fun he=>blk_ne hHeld.2 BZ.out (by decide) (by injection he))⟩ (fun hHeld=> ?_);clear hK K;have BZ_0:=am hbox;replace VC:=am (R_grownT VC.out BZ.out (by decide) hg);replace VB:=am (R_grownT VB.out BZ.out (by decide) hg);replace BY:=am (blk_grown BY.out hg (fun he=>blk_ne BY.out BZ.out (by decide) (by injection he)));replace BP:=am (blk_grown BP.out hg (fun he=>Ne.symm NBZBP.out (by injection he)));replace BS:=am (blk_grown BS.out hg (fun he=>blk_ne BS.out BZ.out (by decide) (by injection he)));replace HS:=am (HS.out.move hg.size (fun q hq hl=>hg.block q hl (fun he=>hq (by injection he with he;rw [he];exact OZ.out))));replace HD:=am (HD.out.grown hg (fun k hk=>by cases hk;exact LBZ.out));clear BZ BZc BYc BPc BSc;have BZ:=BZ_0;clear BZ_0 hbox hg;have BZc:=zc8 BZ.out;have BYc:=zc8 BY.out;have BPc:=zc8 BP.out;have BSc:=zc8 BS.out;refine on9 (i:=1) (N:=some 16) rfl rfl (by kernel_rfl) (by decide) (fun K hK=> ?_);have t1:=zc8 hHeld.2;refine value_ (v:=.agg #[.slice Uc sn.cells.length uc,.slice Ut sn.tasks.length ut,.int .i64 sn.clock,.slice Ul sn.log.length ul]) (w1:=_) (by rfl) rfl (by go_simp<;>rfl) ?_;clear t1;refine hK.out _ _ (hHeld) (fun hHeld=> ?_);clear hK K;refine norm_ (a':= ?_) ?_ ?_;rotate_left
   ·show Act.put _ (some 16) _=_
    simp only [Act.put,sA,sZ,sS,i64_w];rfl
   clear hHeld;refine tail_ (fuel:=1) 3 (by kernel_rfl) ?_;simp only [List.drop_succ_cons,List.drop_zero]
   go_wp2_with (first
   |((with_reducible refine gate_store (t:=27) (p:=3) rfl ?_);refine store_block rfl rfl 27 (.tmp 3) (.tmp 16) rfl rfl rfl BY.out rfl (by kernel_rfl) (aB rfl) ?_;intro wn hbox hg;have BY_0:=am hbox;replace VC:=am (R_grownT VC.out BY.out (by decide) hg);replace VB:=am (R_grownT VB.out BY.out (by decide) hg);replace BZ:=am (blk_grown BZ.out hg (fun he=>blk_ne BZ.out BY.out (by decide) (by injection he)));replace BP:=am (blk_grown BP.out hg (fun he=>blk_ne BP.out BY.out (by decide) (by injection he)));replace BS:=am (blk_grown BS.out hg (fun he=>Ne.symm NBYBS.out (by injection he)));replace HS:=am (HS.out.move hg.size (fun q hq hl=>hg.block q hl (fun he=>hq (by injection he with he;rw [he];exact OY.out))));replace HD:=am (HD.out.grown hg (fun k hk=>by cases hk;exact LBY.out));clear BY BZc BYc BPc BSc;have BY:=BY_0;clear BY_0 hbox hg;have BZc:=zc8 BZ.out;have BYc:=zc8 BY.out;have BPc:=zc8 BP.out;have BSc:=zc8 BS.out))
   refine bodyPost_ret (results_list (rs:= [.cell 2 48,.cell 3 27]) rfl (by simp) (.cell gz 48 #[.slice A lk cA,.slice B lb cB] (0,0) _ rfl BZ.out Try.underlying48 rfl (by kernel_rfl) (.cell gy 27 #[.slice Uc sn.cells.length uc,.slice Ut sn.tasks.length ut,.int .i64 sn.clock,.slice Ul sn.log.length ul] (0,0) _ rfl BY.out Try.underlying27 rfl (by kernel_rfl) .nil))) rfl ?_;exact ⟨p,sn,_,_,_,_,rfl,OK.out,HSZ.out,VC.out,VB.out,⟨Nat.le_refl _,fun W2 hs2 hm2=>HS.out W2 hs2 (fun q9 hB ho hl=>hm2 q9 hB hl (fun he=>ho (by rw [he];exact OG.out)))⟩,HIV.out.sysSz (by have:=HN.out;omega),(by have:=HIV.out.room;have:=HIV.out.many;have:=HN.out;omega),HTL.out,HD.out,HQ.out.1,by have:=HQ.out.2;omega⟩
end Go.Proofs.Ytimamoimphjakaa.Eq

namespace Go.Proofs.Ytimamoimphjakaa.Eq
open Go.RowKit Go.Proofs.YtimamoimphjakaaW.PrintWords Go.Proofs.YtimamoimphjakaaW.PrintLast Go.Proofs.YtimamoimphjakaaW.PrintMore
def isHeld (cs:List Cell) (i:Nat):Bool:=decide (0<=(cellAt cs i).lock)
def heldIn (cs:List Cell):List Int:=pickTo (isHeld cs) cs.length
theorem cell_lock {W:World} {A:Option Addr} {cs:List Cell} (h:kCell.C W A cs.length cs) {i:Nat} (hi:i < cs.length):∃ b o,A=some ⟨b,o,none⟩/\W.cell? ⟨b,o+i*3+2,none⟩=some (.int .i64 (cellAt cs i).lock)/\W.cell? ⟨b,o+i*3+1,none⟩=some (.int .i64 (cellAt cs i).time):=by
 obtain ⟨b,o,cs2,e2,hcl,hK,hcc,hc0⟩:=C_field h zCell i hi (by decide);rw [show cs.getD i zCell=cellAt cs i from rfl] at hK;obtain rfl:=kCell_open hK;exact ⟨b,o,e2,hcc 2 _ rfl,hcc 1 _ rfl⟩
theorem specHeld_calls (s:Sys) (cs:List Value) (w:World) (hx:kSys.K w s cs) (hn:s.cells.length<=1048576):
  Calls Try.prog 54 #[.agg cs.toArray] w fun e w'=>∃ v,e= .returned v/\(Kd.int .i64).R 3 w' w.heap.size (fun _=>True) v (heldIn s.cells)/\Below w.heap.size w w':=by
 obtain ⟨A0,c0,A1,c1,A3,c3,rfl,l0,g0,l1,g1,l3,g3⟩:=kSys_open hx;have G:=am g0;clear g0 g1 g3 l0 l1 l3 hx;go_enter Try.func54,Try.ntmps54;go_wp2_with (first|((with_reducible refine gate_dst (N:=1) rfl ?_);refine box_event rfl (N:=1) rfl (t:=27) (by go_simp<;>rfl) ?_;intro g hg w2 hbox hb;have BK:=am hbox;have HB:=am hb;have GE:=am (show w.heap.size<=g by omega);clear hbox hb hg;have hc:=zc8 BK.out)|((with_reducible refine gate_dst (N:=5) rfl ?_);refine Kd.R_lit (w0:=w) (Kd.int .i64) w.heap.size 3 rfl (N:=5) rfl (xs:=([]:List Int)) (inner:= []) (ok:=fun _=>True) (okp:=fun _=>True) (by go_simp<;>rfl) (Reps.none _ _) (fun _ hk=>hk) trivial HB.out (below_size HB.out) (by simp) ?_;intro v0 w3 ho hb hg _;have BK1:=am (blk_grown BK.out hg (by simp));have HO1:=am ho;have HB1:=am hb;clear ho hb hg HB BK hc;have hc:=zc8 BK1.out))
 go_loopw [3,4] (fun v i w'=>∃ k:Nat,k<=s.cells.length/\i= .int .i64 k/\Aside0 ((Kd.int .i64).R 3 w' w.heap.size (fun _=>True) v (pickTo (isHeld s.cells) k))/\Aside0 (w'.heap[g]? = some (.cells #[.slice A0 s.cells.length c0,.slice A1 s.tasks.length c1,.int .i64 s.clock,.slice A3 s.log.length c3] 27 (0,0)))/\Aside0 (Below w.heap.size w w')) (fun _ i _=>s.cells.length - (intOf i).toNat)
 case atStart=>exact ⟨0,Nat.zero_le _,rfl,HO1,BK1,HB1⟩
 case round=>
  clear HO1 BK1 HB1 hc;obtain ⟨k,hk,rfl,HO,BK,HB⟩:=hrel;have hlen:=pickTo_length (isHeld s.cells) k;by_cases hlt:k < s.cells.length
  ·have BKc:=zc8 BK.out
   obtain ⟨b,o,rfl,h_lock,-⟩:=cell_lock (Kd.C_below G.out HB.out) hlt;have q0:(0:Int)<=(k:Int):=by omega
   have q1:(k:Int) < (s.cells.length:Int):=by omega
   by_cases hy:(0:Int)<=(cellAt s.cells k).lock
   ·have y0:decide ((0:Int)<=(cellAt s.cells k).lock)=true:=decide_eq_true hy
    have HY:=am (show isHeld s.cells k=true from y0);clear hy;go_wp2_with (first|((with_reducible refine gate_builtin (b:=.append) (xs:=#[.tmp 20,.tmp 22]) rfl ?_);at_builtin;refine Kd.R_append (Kd.int .i64) (w0:=w) w.heap.size rfl (.tmp 20) (.tmp 22) 29 3 (.int .i64 0) 8 rfl Try.underlying29 info_int rfl (by decide) (by omega) _ (pickTo (isHeld s.cells) k) (k:Int) [.int .i64 (k:Int)] (fun _=>True) (fun _=>False) rfl rfl rfl (fun _ hk=>hk.elim) (fun _ _=>trivial) HO.out HB.out (below_size HB.out) (by omega) ?_;intro v1 w1 ho hb hg _;have BK1:=am (blk_grown BK.out hg (Kd.R_ne HO.out BK.out (by decide)));have HO1:=am ho;have HB1:=am hb;clear ho hb hg HO HB BK))
    go_roundw
    case rel=>exact ⟨k+1,by omega,by go_num,⟨by rw [pickTo_yes HY.out];exact HO1.out⟩,BK1,HB1⟩
    case measure=>simp [intOf];omega
   ·have y0:decide ((0:Int)<=(cellAt s.cells k).lock)=false:=decide_eq_false hy
    have HY:=am (show isHeld s.cells k=false from y0);clear hy;go_wp2;go_roundw
    case rel=>exact ⟨k+1,by omega,by go_num,⟨by rw [pickTo_no HY.out];exact HO.out⟩,BK,HB⟩
    case measure=>simp [intOf];omega
  ·have BKc:=zc8 BK.out
   go_wp2;go_ret;obtain rfl:k=s.cells.length:=by omega
   exact ⟨_,rfl,HO.out,HB.out⟩
end Go.Proofs.Ytimamoimphjakaa.Eq
namespace Go.Proofs.Ytimamoimphjakaa.Eq
theorem mem_pickTo {p:Nat->Bool} {k:Nat} {x:Int}:x ∈ pickTo p k ↔ ∃ i:Nat,i < k/\p i=true/\x=(i:Int):=by
 simp only [pickTo,List.mem_map,List.mem_filter,List.mem_range];constructor
 ·rintro ⟨i,⟨h1,h2⟩,rfl⟩;exact ⟨i,h1,h2,rfl⟩
 ·rintro ⟨i,h1,h2,rfl⟩;exact ⟨i,⟨h1,h2⟩,rfl⟩
theorem mem_kids {ts:List Task} {t x:Int}:x ∈ kids ts t ↔ ∃ i:Nat,i < ts.length/\0<=t/\(taskAt ts i).up=t/\t < (i:Int)/\x=(i:Int):=by
 simp only [kids,mem_pickTo,isKid,Bool.and_eq_true,decide_eq_true_eq];constructor
 ·rintro ⟨i,h1,⟨⟨h2,h3⟩,h4⟩,rfl⟩;exact ⟨i,h1,h2,h3,h4,rfl⟩
 ·rintro ⟨i,h1,h2,h3,h4,rfl⟩;exact ⟨i,h1,⟨⟨h2,h3⟩,h4⟩,rfl⟩
theorem pickTo_sorted (p:Nat->Bool) (k:Nat):(pickTo p k).Pairwise (· < ·):=by
 unfold pickTo;rw [List.pairwise_map];exact List.Pairwise.imp (fun h=>by omega) (List.Pairwise.filter _ List.pairwise_lt_range)
def walkF (ts:List Task):Nat->Int->List Int
 | 0,_=> []
 | f+1,t=>t :: ((kids ts t).map (walkF ts f)).flatten
theorem walkF_more {ts:List Task}:∀ (f:Nat) (t:Int),0<=t->(ts.length:Int)<=t+f->t < ts.length->walkF ts (f+1) t=walkF ts f t
 | 0,t,h0,h,h1=>by omega
 | f+1,t,h0,h,h1=>by
  unfold walkF
  congr 1
  congr 1
  apply List.map_congr_left;intro x hx;obtain ⟨i,hi,_,_,hlt,rfl⟩:=mem_kids.1 hx;exact walkF_more f i (by omega) (by omega) (by omega)
theorem walkF_enough {ts:List Task} {f:Nat} {t:Int} (d:Nat) (h0:0<=t) (h:(ts.length:Int)<=t+f) (h1:t < ts.length):walkF ts (f+d) t=walkF ts f t:=by
 induction d with
 | zero=>rfl
 | succ d ih=>rw [<-Nat.add_assoc,walkF_more (f+d) t h0 (by omega) h1,ih]
def walkOf (ts:List Task) (t:Int):List Int:=walkF ts ts.length t
theorem walkOf_eq {ts:List Task} {t:Int} (h0:0<=t) (h1:t < ts.length):walkOf ts t=t :: ((kids ts t).map (walkOf ts)).flatten:=by
 unfold walkOf;obtain ⟨n,hn⟩:∃ n,ts.length=n+1:=⟨ts.length - 1,by omega⟩;conv=>(lhs;rw [hn];unfold walkF)
 congr 1
 congr 1
 apply List.map_congr_left;intro x hx;obtain ⟨i,hi,_,_,hlt,rfl⟩:=mem_kids.1 hx;rw [hn];exact (walkF_enough 1 (by omega) (by omega) (by omega)).symm
def isRoot (ts:List Task) (i:Nat):Bool:=decide ((taskAt ts i).up= -1)
def walkTo (ts:List Task) (k:Nat):List Int:=((pickTo (isRoot ts) k).map (walkOf ts)).flatten
def walkAll (ts:List Task):List Int:=walkTo ts ts.length
theorem walkF_mem {ts:List Task}:∀ (f:Nat) (t:Int),0<=t->t < ts.length->∀ x,x ∈ walkF ts f t->t<=x/\x < ts.length/\(x=t\/((taskAt ts x.toNat).up ∈ walkF ts f t/\(taskAt ts x.toNat).up < x/\t<=(taskAt ts x.toNat).up))
 | 0,t,h0,h1,x,hx=>by simp [walkF] at hx
 | f+1,t,h0,h1,x,hx=>by
  unfold walkF at hx ⊢;rcases List.mem_cons.1 hx with rfl | hx
  ·exact ⟨by omega,h1,.inl rfl⟩
  ·obtain ⟨l,hl,hxl⟩:=List.mem_flatten.1 hx
   obtain ⟨y,hy,rfl⟩:=List.mem_map.1 hl;obtain ⟨i,hi,_,hup,hlt,rfl⟩:=mem_kids.1 hy;obtain ⟨a1,a2,a3⟩:=walkF_mem f (i:Int) (by omega) (by omega) x hxl;refine ⟨by omega,a2,.inr ?_⟩;rcases a3 with rfl | ⟨b1,b2,b3⟩
   ·rw [Int.toNat_natCast,hup]
    exact ⟨List.mem_cons_self,by omega,by omega⟩
   ·exact ⟨List.mem_cons_of_mem _ (List.mem_flatten.2 ⟨_,List.mem_map.2 ⟨_,hy,rfl⟩,b1⟩),b2,by omega⟩
theorem walk_meet {ts:List Task} {f g:Nat} {a b:Int} (ha:0<=a) (ha':a < ts.length) (hb:0<=b) (hb':b < ts.length):∀ (n:Nat) (x:Int),x.toNat < n->x ∈ walkF ts f a->x ∈ walkF ts g b->a ∈ walkF ts g b\/b ∈ walkF ts f a
 | 0,x,h,_,_=>by omega
 | n+1,x,h,h1,h2=>by
  obtain ⟨p1,p2,p3⟩:=walkF_mem f a ha ha' x h1;obtain ⟨q1,q2,q3⟩:=walkF_mem g b hb hb' x h2;rcases p3 with rfl | ⟨p3,p4,p5⟩
  ·exact .inl h2
  ·rcases q3 with rfl | ⟨q3,q4,q5⟩
   ·exact .inr h1
   ·exact walk_meet ha ha' hb hb' n _ (by omega) p3 q3
theorem walk_kids_apart {ts:List Task} {f:Nat} {t:Int} {a b:Int} (ha:a ∈ kids ts t) (hb:b ∈ kids ts t) (hne:a ≠ b) {x:Int} (h1:x ∈ walkF ts f a) (h2:x ∈ walkF ts f b):False:=by
 obtain ⟨i,hi,h0,hui,hti,rfl⟩:=mem_kids.1 ha;obtain ⟨j,hj,_,huj,htj,rfl⟩:=mem_kids.1 hb;rcases walk_meet (by omega) (by omega) (by omega) (by omega) _ x (Nat.lt_succ_self _) h1 h2 with h | h
 ·obtain ⟨_,_,h3⟩:=walkF_mem f (j:Int) (by omega) (by omega) _ h
  rcases h3 with h3 | ⟨_,_,h5⟩
  ·exact hne h3
  ·rw [Int.toNat_natCast,hui] at h5;omega
 ·obtain ⟨_,_,h3⟩:=walkF_mem f (i:Int) (by omega) (by omega) _ h
  rcases h3 with h3 | ⟨_,_,h5⟩
  ·exact hne h3.symm
  ·rw [Int.toNat_natCast,huj] at h5;omega
theorem nodup_flat {α:Type} {β:Type} {g:α->List β}:∀ {l:List α},(∀ x ∈ l,(g x).Nodup)->l.Pairwise (fun a b=>∀ x,x ∈ g a->x ∈ g b->False)->((l.map g).flatten).Nodup
 | [],_,_=>by simp
 | a :: l,h1,h2=>by
  rw [List.map_cons,List.flatten_cons,List.nodup_append];rw [List.pairwise_cons] at h2;refine ⟨h1 a List.mem_cons_self,nodup_flat (fun x hx=>h1 x (List.mem_cons_of_mem _ hx)) h2.2,fun x hx y hy he=> ?_⟩;subst he;obtain ⟨m,hm,hxm⟩:=List.mem_flatten.1 hy;obtain ⟨b,hb,rfl⟩:=List.mem_map.1 hm;exact h2.1 b hb x hx hxm
theorem walkF_nodup {ts:List Task}:∀ (f:Nat) (t:Int),0<=t->t < ts.length->(walkF ts f t).Nodup
 | 0,t,_,_=>by simp [walkF]
 | f+1,t,h0,h1=>by
  unfold walkF;rw [List.nodup_cons];constructor
  ·intro h
   obtain ⟨l,hl,hx⟩:=List.mem_flatten.1 h;obtain ⟨y,hy,rfl⟩:=List.mem_map.1 hl;obtain ⟨i,hi,_,_,hlt,rfl⟩:=mem_kids.1 hy;have:=(walkF_mem f (i:Int) (by omega) (by omega) _ hx).1;omega
  ·refine nodup_flat (fun x hx=> ?_) ?_
   ·obtain ⟨i,hi,_,_,hlt,rfl⟩:=mem_kids.1 hx
    exact walkF_nodup f i (by omega) (by omega)
   ·refine List.Pairwise.imp_of_mem (fun {a b} ha hb hab x h1 h2=> ?_) (pickTo_sorted (isKid ts t) ts.length)
    exact walk_kids_apart ha hb (by omega) h1 h2
theorem walkAll_nodup (ts:List Task):(walkAll ts).Nodup:=by
 unfold walkAll walkTo;refine nodup_flat (fun x hx=> ?_) ?_
 ·obtain ⟨i,hi,_,rfl⟩:=mem_pickTo.1 hx
  exact walkF_nodup _ _ (by omega) (by omega)
 ·refine List.Pairwise.imp_of_mem (fun {a b} ha hb hab x h1 h2=> ?_) (pickTo_sorted (isRoot ts) ts.length)
  obtain ⟨i,hi,hri,rfl⟩:=mem_pickTo.1 ha;obtain ⟨j,hj,hrj,rfl⟩:=mem_pickTo.1 hb;simp only [isRoot,decide_eq_true_eq] at hri hrj;rcases walk_meet (by omega) (by omega) (by omega) (by omega) _ x (Nat.lt_succ_self _) h1 h2 with h | h
  ·obtain ⟨_,_,h3⟩:=walkF_mem ts.length (j:Int) (by omega) (by omega) _ h
   rcases h3 with h3 | ⟨_,_,h5⟩
   ·omega
   ·rw [Int.toNat_natCast,hri] at h5;omega
  ·obtain ⟨_,_,h3⟩:=walkF_mem ts.length (i:Int) (by omega) (by omega) _ h
   rcases h3 with h3 | ⟨_,_,h5⟩
   ·omega
   ·rw [Int.toNat_natCast,hrj] at h5;omega
theorem nodup_le:∀ (n:Nat) (l:List Int),l.Nodup->(∀ x ∈ l,0<=x/\x < n)->l.length<=n
 | 0,l,_,h=>by
  cases l with
  | nil=>simp
  | cons x l=>have:=h x List.mem_cons_self;omega
 | n+1,l,hd,h=>by
  have h1:=nodup_le n (l.erase (n:Int)) (hd.erase _) (fun x hx=>by
   have:=h x (List.mem_of_mem_erase hx)
   have hne:x ≠ (n:Int):=fun e=>by
    subst e;exact (List.Nodup.not_mem_erase hd) hx
   omega)
  have h2:l.length<=(l.erase (n:Int)).length+1:=by
   rw [List.length_erase];split <;> omega
  omega
theorem walkAll_mem {ts:List Task} {x:Int} (h:x ∈ walkAll ts):0<=x/\x < ts.length:=by
 obtain ⟨l,hl,hx⟩:=List.mem_flatten.1 h;obtain ⟨y,hy,rfl⟩:=List.mem_map.1 hl;obtain ⟨i,hi,_,rfl⟩:=mem_pickTo.1 hy;have:=walkF_mem ts.length (i:Int) (by omega) (by omega) x hx;omega
theorem walkAll_length (ts:List Task):(walkAll ts).length<=ts.length:=nodup_le _ _ (walkAll_nodup ts) (fun x hx=>walkAll_mem hx)
theorem walkTo_le (ts:List Task) {k:Nat} (h:k<=ts.length):(walkTo ts k).length<=ts.length:=by
 refine Nat.le_trans ?_ (walkAll_length ts);unfold walkAll;obtain ⟨d,hd⟩:∃ d,ts.length=k+d:=⟨ts.length - k,by omega⟩;rw [hd];clear hd h
 induction d with
 | zero=>exact Nat.le_refl _
 | succ d ih=>
  refine Nat.le_trans ih ?_;rw [<-Nat.add_assoc];unfold walkTo;by_cases hp:isRoot ts (k+d)=true
  ·rw [pickTo_yes hp];simp
  ·rw [pickTo_no (by simpa using hp)];exact Nat.le_refl _
theorem walkTo_yes {ts:List Task} {k:Nat} (h:isRoot ts k=true):walkTo ts (k+1)=walkTo ts k ++ walkOf ts k:=by
 unfold walkTo;rw [pickTo_yes h];simp
theorem walkTo_no {ts:List Task} {k:Nat} (h:isRoot ts k=false):walkTo ts (k+1)=walkTo ts k:=by
 unfold walkTo;rw [pickTo_no h]
section
variable {ts:List Task}
def upAt (ts:List Task) (t:Int):Int:=(taskAt ts t.toNat).up
theorem under_iff {t up:Int}:underOf ts t up=true ↔ (0<=t/\t < ts.length/\upAt ts t < t)/\((upAt ts t=up/\0<=up)\/(upAt ts t ≠ up/\underOf ts (upAt ts t) up=true)):=by
 by_cases h:0<=t/\t < (ts.length:Int)/\(taskAt ts t.toNat).up < t
 ·rw [underOf_in h.1 h.2.1 h.2.2]
  constructor
  ·intro hu
   refine ⟨h, ?_⟩;unfold upAt;split at hu
   ·rename_i he
    exact .inl ⟨he,by simpa using hu⟩
   ·rename_i he
    exact .inr ⟨he,hu⟩
  ·rintro ⟨_,hu⟩
   unfold upAt at hu;rcases hu with ⟨h1,h2⟩ | ⟨h1,h2⟩
   ·rw [if_pos h1]
    simpa using h2
   ·rw [if_neg h1]
    exact h2
 ·rw [underOf_out h]
  constructor
  ·intro hu
   cases hu
  ·rintro ⟨h1,_⟩
   exact absurd h1 h
theorem under_lt:∀ (n:Nat) {t up:Int},t.toNat < n->underOf ts t up=true->0<=up/\up < t/\0<=t/\t < ts.length
 | 0,t,up,h,_=>by omega
 | n+1,t,up,h,hu=>by
  obtain ⟨⟨h0,h1,h2⟩,h3⟩:=under_iff.1 hu;rcases h3 with ⟨rfl,h4⟩ | ⟨h4,h5⟩
  ·exact ⟨h4,h2,h0,h1⟩
  ·by_cases hneg:upAt ts t < 0
   ·obtain ⟨⟨h6,_⟩,_⟩:=under_iff.1 h5
    omega
   ·have:=under_lt n (by omega) h5
    omega
theorem under_in {t up:Int} (h:underOf ts t up=true):0<=up/\up < t/\0<=t/\t < ts.length:=under_lt _ (Nat.lt_succ_self _) h
theorem under_next {t up c:Int} (ht:0<=t/\t < ts.length/\upAt ts t < t) (hc:0<=c) (h:upAt ts t=c\/underOf ts (upAt ts t) c=true):underOf ts t c=true:=by
 rw [under_iff];refine ⟨ht, ?_⟩;by_cases he:upAt ts t=c
 ·exact .inl ⟨he,hc⟩
 ·exact .inr ⟨he,h.resolve_left he⟩
theorem kid_under {k t:Int} (h:k ∈ kids ts t):upAt ts k=t/\t < k/\0<=t/\0<=k/\k < ts.length/\underOf ts k t=true:=by
 obtain ⟨i,hi,h0,hu,hlt,rfl⟩:=mem_kids.1 h
 have he:upAt ts (i:Int)=t:=by
  unfold upAt;rw [Int.toNat_natCast];exact hu
 exact ⟨he,hlt,h0,by omega,by omega,under_next (up:=t) ⟨by omega,by omega,by omega⟩ h0 (.inl he)⟩
def preB (ts:List Task):List Int->List Int->Prop
 | _, []=>True
 | seen,y :: l=>upAt ts y ∈ seen/\preB ts (y :: seen) l
theorem pre_mono:∀ {l s s':List Int},(∀ x ∈ s,x ∈ s')->preB ts s l->preB ts s' l
 | [],_,_,_,_=>trivial
 | y :: l,s,s',h,hp=>⟨h _ hp.1,pre_mono (fun x hx=>by rcases List.mem_cons.1 hx with rfl | hx <;> simp_all) hp.2⟩
theorem pre_append:∀ {a b s:List Int},preB ts s a->preB ts s b->preB ts s (a ++ b)
 | [],b,s,_,hb=>hb
 | y :: a,b,s,ha,hb=>⟨ha.1,pre_append ha.2 (pre_mono (fun x hx=>by simp [hx]) hb)⟩
theorem pre_flat:∀ {l:List (List Int)} {s:List Int},(∀ m ∈ l,preB ts s m)->preB ts s l.flatten
 | [],_,_=>trivial
 | a :: l,s,h=>by
  rw [List.flatten_cons];exact pre_append (h a (by simp)) (pre_flat (fun m hm=>h m (by simp [hm])))
theorem walkF_pre:∀ (f:Nat) {t:Int} {s:List Int},upAt ts t ∈ s->preB ts s (walkF ts f t)
 | 0,t,s,_=>trivial
 | f+1,t,s,h=>⟨h,pre_flat (fun m hm=>by
   obtain ⟨k,hk,rfl⟩:=List.mem_map.1 hm;exact walkF_pre f (by rw [(kid_under hk).1];simp))⟩
theorem pre_at:∀ {l s:List Int},preB ts s l->∀ i,(h:i < l.length)->upAt ts l[i] ∈ s\/upAt ts l[i] ∈ l.take i
 | [],_,_,i,h=>by simp at h
 | y :: l,s,hp,0,h=> .inl hp.1
 | y :: l,s,hp,i+1,h=>by
  rcases pre_at hp.2 i (by simpa using h) with h1 | h1
  ·rcases List.mem_cons.1 h1 with h1 | h1
   ·exact .inr (by simp [List.take_succ_cons,h1])
   ·exact .inl h1
  ·exact .inr (by simp only [List.take_succ_cons,List.mem_cons,List.getElem_cons_succ];exact .inr h1)
theorem mem_walkOf_self {t:Int} (h0:0<=t) (h1:t < ts.length):t ∈ walkOf ts t:=by
 rw [walkOf_eq h0 h1];simp
theorem mem_walkOf_kid:∀ (n:Nat) {t x y:Int},0<=t->t < ts.length->ts.length<=t.toNat+n->x ∈ walkOf ts t->y ∈ kids ts x->y ∈ walkOf ts t
 | 0,t,x,y,h0,h1,hn,_,_=>by omega
 | n+1,t,x,y,h0,h1,hn,hx,hy=>by
  rw [walkOf_eq h0 h1] at hx ⊢;obtain ⟨g2,g3,g4,g5,g6,g7⟩:=kid_under hy;rcases List.mem_cons.1 hx with rfl | hx
  ·exact List.mem_cons_of_mem _ (List.mem_flatten.2 ⟨_,List.mem_map.2 ⟨y,hy,rfl⟩,mem_walkOf_self g5 g6⟩)
  ·obtain ⟨l,hl,hx⟩:=List.mem_flatten.1 hx
   obtain ⟨k,hk,rfl⟩:=List.mem_map.1 hl;obtain ⟨h2,h3,h4,h5,h6,h7⟩:=kid_under hk;exact List.mem_cons_of_mem _ (List.mem_flatten.2 ⟨_,List.mem_map.2 ⟨k,hk,rfl⟩,mem_walkOf_kid n h5 h6 (by omega) hx hy⟩)
structure OneTree (ts:List Task):Prop where
 pos:0 < ts.length
 first:(taskAt ts 0).up= -1
 up:∀ i,0 < i->i < ts.length->0<=(taskAt ts i).up/\(taskAt ts i).up < i
theorem OneTree.root (h:OneTree ts):walkAll ts=walkOf ts 0:=by
 have:pickTo (isRoot ts) ts.length= [0]:=by
  have:∀ k,0 < k->k<=ts.length->pickTo (isRoot ts) k= [0]:=by
   intro k
   induction k with
   | zero=>intro h;omega
   | succ k ih=>
    intro _ hk;by_cases h0:k=0
    ·subst h0
     rw [pickTo_yes (by simp [isRoot,h.first])];rfl
    ·have:=h.up k (by omega) (by omega)
     rw [pickTo_no (by simp only [isRoot,decide_eq_false_iff_not];omega)];exact ih (by omega) (by omega)
  exact this _ h.pos (Nat.le_refl _)
 unfold walkAll walkTo;rw [this];simp
theorem OneTree.all (h:OneTree ts):∀ (n i:Nat),i < n->i < ts.length->(i:Int) ∈ walkAll ts
 | 0,i,hn,_=>by omega
 | n+1,i,hn,hi=>by
  rw [h.root];by_cases h0:i=0
  ·subst h0
   exact mem_walkOf_self (by omega) (by have:=h.pos;omega)
  ·have hu:=h.up i (by omega) hi
   have:=h.all n (taskAt ts i).up.toNat (by omega) (by omega)
   rw [h.root,show (((taskAt ts i).up.toNat:Nat):Int)=(taskAt ts i).up by omega] at this;exact mem_walkOf_kid ts.length (by omega) (by have:=h.pos;omega) (by omega) this (mem_kids.2 ⟨i,hi,hu.1,rfl,by omega,rfl⟩)
theorem length_ge:∀ (n:Nat) (l:List Int),(∀ i:Nat,i < n->(i:Int) ∈ l)->n<=l.length
 | 0,l,_=>by omega
 | n+1,l,h=>by
  have h1:=length_ge n (l.erase (n:Int)) (fun i hi=>(List.mem_erase_of_ne (by omega)).2 (h i (by omega)));have h2:=h n (by omega);have h3:=List.length_pos_of_mem h2;rw [List.length_erase_of_mem h2] at h1;omega
theorem OneTree.length (h:OneTree ts):(walkAll ts).length=ts.length:=Nat.le_antisymm (walkAll_length ts) (length_ge _ _ (fun i hi=>h.all _ i (Nat.lt_succ_self i) hi))
theorem OneTree.head (h:OneTree ts):(walkAll ts).head? = some 0:=by
 rw [h.root,walkOf_eq (by omega) (by have:=h.pos;omega)];rfl
theorem OneTree.walk (h:OneTree ts) (i:Nat) (hi:i < (walkAll ts).length) (h0:0 < i):upAt ts (walkAll ts)[i] ∈ (walkAll ts).take i:=by
 have he:walkAll ts=0 :: ((kids ts 0).map (walkOf ts)).flatten:=by
  rw [h.root];exact walkOf_eq (by omega) (by have:=h.pos;omega)
 have hp:preB ts [0] ((kids ts 0).map (walkOf ts)).flatten:=pre_flat (fun m hm=>by
  obtain ⟨k,hk,rfl⟩:=List.mem_map.1 hm;exact walkF_pre _ (by rw [(kid_under hk).1];simp))
 generalize walkAll ts=L at he hi;subst he;obtain ⟨j,rfl⟩:∃ j,i=j+1:=⟨i - 1,by omega⟩;rw [List.getElem_cons_succ,List.take_succ_cons];rcases pre_at hp j (by simpa using hi) with h1 | h1
 ·simp at h1
  simp [h1]
 ·exact List.mem_cons_of_mem _ h1
theorem OneTree.under0 (h:OneTree ts):∀ (n i:Nat),i < n->0 < i->i < ts.length->underOf ts i 0=true
 | 0,i,hn,_,_=>by omega
 | n+1,i,hn,h0,hi=>by
  have hu:=h.up i h0 hi;have he:upAt ts (i:Int)=(taskAt ts i).up:=by simp [upAt]
  refine under_next (up:=0) ⟨by omega,by omega,by omega⟩ (by omega) ?_;rw [he];by_cases hz:(taskAt ts i).up=0
  ·exact .inl hz
  ·have:=h.under0 n (taskAt ts i).up.toNat (by omega) (by omega) (by omega)
   rw [show (((taskAt ts i).up.toNat:Nat):Int)=(taskAt ts i).up by omega] at this;exact .inr this
theorem pickTo_cnt (f:Nat->Bool):∀ k,(pickTo f k).length=cntTo f k
 | 0=>rfl
 | k+1=>by
  unfold cntTo
  cases h:f k with
  | true=>rw [pickTo_yes h,List.length_append,pickTo_cnt f k];simp
  | false=>rw [pickTo_no h,pickTo_cnt f k];simp
def sumTo (f:Nat->Nat):Nat->Nat
 | 0=>0
 | n+1=>sumTo f n+f n
theorem sumTo_add (f g:Nat->Nat):∀ n,sumTo (fun i=>f i+g i) n=sumTo f n+sumTo g n
 | 0=>rfl
 | n+1=>by simp only [sumTo,sumTo_add f g n];omega
theorem sumTo_zero (f:Nat->Nat):∀ n,(∀ i,i < n->f i=0)->sumTo f n=0
 | 0,_=>rfl
 | n+1,h=>by simp only [sumTo,sumTo_zero f n (fun i hi=>h i (by omega)),h n (by omega)]
theorem sumTo_one (f:Nat->Nat) (k:Nat) (h1:f k=1) (h0:∀ i,i ≠ k->f i=0):∀ n,k < n->sumTo f n=1
 | 0,h=>by omega
 | n+1,h=>by
  unfold sumTo;by_cases he:k=n
  ·subst he
   rw [sumTo_zero f k (fun i hi=>h0 i (by omega)),h1]
  ·rw [sumTo_one f k h1 h0 n (by omega),h0 n (by omega)]
theorem OneTree.count (h:OneTree ts):∀ m,0 < m->m<=ts.length->sumTo (fun i=>cntTo (isKid ts (i:Int)) m) ts.length=m - 1
 | 0,hm,_=>by omega
 | m+1,_,hm=>by
  have he:(fun i:Nat=>cntTo (isKid ts (i:Int)) (m+1))=fun i:Nat=>cntTo (isKid ts (i:Int)) m+if isKid ts (i:Int) m then 1 else 0:=rfl
  rw [he,sumTo_add];by_cases h0:m=0
  ·subst h0
   rw [sumTo_zero (fun i:Nat=>cntTo (isKid ts (i:Int)) 0) _ (fun i _=>rfl),sumTo_zero _ _ (fun i _=>if_neg (by simp [isKid,h.first]))]
  ·have hu:=h.up m (by omega) (by omega)
   rw [h.count m (by omega) (by omega),sumTo_one _ (taskAt ts m).up.toNat ?_ ?_ _ (by omega)]
   ·omega
   ·rw [show (((taskAt ts m).up.toNat:Nat):Int)=(taskAt ts m).up by omega,if_pos (by simp [isKid,hu])]
   ·intro i hi
    refine if_neg ?_;simp only [isKid,Bool.and_eq_true,decide_eq_true_eq];omega
theorem OneTree.kidsAll (h:OneTree ts):sumTo (fun i=>(kids ts (i:Int)).length) ts.length=ts.length - 1:=by
 have:(fun i:Nat=>(kids ts (i:Int)).length)=fun i:Nat=>cntTo (isKid ts (i:Int)) ts.length:=by
  funext i
  exact pickTo_cnt _ _
 rw [this,h.count _ h.pos (Nat.le_refl _)]
end
theorem ok_parts {p:Prog} {s:Sys} (h:sysOk p s=true):s.cells.length=p.cells.length/\(1<=s.tasks.length/\s.tasks.length<=7)/\(∀ i,i < s.cells.length->0<=(cellAt s.cells i).time/\(cellAt s.cells i).time<=s.clock)/\∀ i,i < s.tasks.length->upsOk s i=true:=by
 simp only [sysOk,Bool.and_eq_true,decide_eq_true_eq,inB_iff,allB_iff] at h;obtain ⟨⟨⟨⟨⟨⟨hp,hc⟩,ht⟩,hk⟩,hT⟩,hC⟩,hL⟩:=h;refine ⟨hc,by omega,fun i hi=> ?_,fun i hi=> ?_⟩
 ·simp only [cellsOk,allB_iff,Bool.and_eq_true,inB_iff] at hC
  exact (hC i hi).1.1.2
 ·have:=hT i hi
  simp only [taskOk,Bool.and_eq_true] at this;exact this.1.2
theorem ok_tree {p:Prog} {s:Sys} (h:sysOk p s=true):OneTree s.tasks:=by
 obtain ⟨_,hn,_,hu⟩:=ok_parts h;refine ⟨by omega, ?_,fun i h0 hi=> ?_⟩
 ·have:=hu 0 (by omega)
  simpa [upsOk] using this
 ·have:=hu i hi
  unfold upsOk at this;simp only [] at this;rw [if_neg (by omega)] at this;simp only [Bool.and_eq_true,inB_iff] at this;omega
theorem ok_up {p:Prog} {s:Sys} (h:sysOk p s=true) {i:Nat} (h0:0 < i) (hi:i < s.tasks.length) (hl:isLive (taskAt s.tasks i)=true):(taskAt s.tasks (taskAt s.tasks i).up.toNat).way=1:=by
 obtain ⟨_,hn,_,hu⟩:=ok_parts h
 have:=hu i hi
 unfold upsOk at this;simp only [] at this;rw [if_neg (by omega),hl] at this;simp only [Bool.and_eq_true,Bool.not_true,Bool.false_or,decide_eq_true_eq] at this;exact this.2
theorem ok_main {p:Prog} {s:Sys} (h:sysOk p s=true) (h4:(taskAt s.tasks 0).way=4):liveIn s.tasks= []:=by
 have:∀ n i,i < n->i < s.tasks.length->isLive (taskAt s.tasks i)=false:=by
  intro n
  induction n with
  | zero=>intro i h;omega
  | succ n ih=>
   intro i hn hi;by_cases h0:i=0
   ·subst h0
    simp [isLive,h4]
   ·cases hl:isLive (taskAt s.tasks i) with
    | false=>rfl
    | true=>
     have h1:=ok_up h (by omega) hi hl;have h2:=(ok_tree h).up i (by omega) hi;have h3:=ih (taskAt s.tasks i).up.toNat (by omega) (by omega);simp [isLive,h1] at h3
 refine pickTo_none (fun i hi=>this _ i (Nat.lt_succ_self i) hi)
end Go.Proofs.Ytimamoimphjakaa.Eq
namespace Go.Proofs.Ytimamoimphjakaa.Eq
open Go.RowKit Go.Proofs.YtimamoimphjakaaW.PrintWords Go.Proofs.YtimamoimphjakaaW.PrintLast Go.Proofs.YtimamoimphjakaaW.PrintMore
theorem run_held (p:Prog) (ps:List Value) (s:Sys) (ss:List Value) (ks:List Int) (Ak:Option Addr) (ck:Nat) (g:Nat) (w:World) (hp:kProg.K w p ps) (hs:kSys.K w s ss) (hz:ProgSz p) (hsz:SysSz s) (hN:s.log.length+s.tasks.length<=1000000) (hk:(Kd.int .i64).C w Ak ks.length ks) (hg:g < w.heap.size):
  Calls Try.prog 55 #[.agg ps.toArray,.agg ss.toArray,.slice Ak ks.length ck] w fun e w'=>∃ (b:Bool) (X0 X1 X3:Option Addr) (n0 k0 n1 k1 n3 k3:Nat) (zc:Int),e= .returned (.tuple #[.agg #[.slice X0 n0 k0,.slice X1 n1 k1,.int .i64 zc,.slice X3 n3 k3],.bool b])/\Below w.heap.size w w'/\(b=true->sysOk p s=true/\Held w.heap.size w'.heap.size g (turns p s ks) [.slice X0 n0 k0,.slice X1 n1 k1,.int .i64 zc,.slice X3 n3 k3] w'):=by
 refine (sysRun_calls p ps s ss ks Ak ck w hp hs hz hsz hN hk).mono ?_;rintro e w' ⟨ss1,b,rfl,hb,hbb,hyes,hno⟩
 cases b with
 | false=>
  obtain ⟨X0,k0,X1,k1,X3,k3,rfl,-⟩:=kSys_open (hno rfl)
  exact ⟨false,X0,X1,X3,_,k0,_,k1,_,k3,_,rfl,hb,fun h=>by cases h⟩
 | true=>
  obtain ⟨own,vc,vt,vl,rfl,hsy⟩:=hyes rfl;have hst:=hsy.sta;have hlo:=hsy.low g hg;obtain ⟨X0,k0,e0⟩:=Kd.R_slice hsy.cells;obtain ⟨X1,k1,e1⟩:=Kd.R_slice hsy.tasks;obtain ⟨X3,k3,e3⟩:=Kd.R_slice hsy.log;subst e0 e1 e3
  have hok:sysOk p s=true:=by
   have:=hbb.symm
   simp only [Bool.and_eq_true] at this;exact this.1
  exact ⟨true,X0,X1,X3,_,k0,_,k1,_,k3,_,rfl,hb,fun _=>⟨hok,Nat.le_refl _,fun W2 h2 hm=>hst W2 h2 (fun k hB ho hl=>hm k hB hl (fun he=>ho (by rw [he];exact hlo)))⟩⟩
theorem turn_sz {p:Prog} {s:Sys} {k:Int} {L:Nat} (h:sysOk p s=true) (hl:s.log.length<=L) (hL:L<=100000):SysSz (turns p s [k])/\(turns p s [k]).log.length<=L+9/\(turns p s [k]).tasks.length<=L+9/\1<=(turns p s [k]).tasks.length:=by
 have h7:=(ok_parts h).2.1;have hi:=(Inv.ofOk h).turns [k];have hlen:=turns_len p [k] s;simp only [List.length_singleton] at hi;have hr:=hi.room;have hm:=hi.many;exact ⟨hi.sysSz (by omega),by omega,by omega,by omega⟩
theorem box_step {P:Program} {ops:Array Oper} {Q:Exit->Go.Act->World->Prop} {oi:Oper} {N:Option Tmp} {a:Go.Act} {w:World} {K:Go.Act->World->Prop} {t:TypeId} {cs:Array Value} (hw:Region.wanted oi (yielded ops a.tmps)=true) (hN:oi.dst=N)
  (hrun:∀ W:World,(execOp a.eval oi).run P W= .ok (.value (.pointer (some ⟨W.heap.size,0,none⟩))) (W.alloc (.cells cs t (0,0))))
  (h:∀ g,g=w.heap.size->∀ w1,w1.heap[g]? = some (.cells cs t (0,0))->Below w.heap.size w w1->K (a.put N (.pointer (some ⟨g,0,none⟩))) w1):if Region.wanted oi (yielded ops a.tmps)=true then Oper.wp P oi a w K Q else K (a.put N undef) w:=
 value_ hw hN (hrun w) (h _ rfl _ (blk_new w _) (below_alloc (Below.refl _ _) _))
def OkPost (w:World) (e:Ending) (w':World):Prop:=∃ p s Ac lc cc Ab lb cb Y0 m0 j0 Y1 m1 j1 yc Y3 m3 j3,e= .returned (.tuple #[.agg #[.slice Ac lc cc,.slice Ab lb cb],.agg #[.slice Y0 m0 j0,.slice Y1 m1 j1,.int .i64 yc,.slice Y3 m3 j3]])/\kProg.K w' p [.slice Ac lc cc,.slice Ab lb cb]/\ProgSz p/\kSys.K w' s [.slice Y0 m0 j0,.slice Y1 m1 j1,.int .i64 yc,.slice Y3 m3 j3]/\SysSz s/\1<=s.tasks.length/\s.tasks.length<=2000/\s.log.length<=2000/\Below w.heap.size w w'
theorem drawSysOk_calls (A:Option Addr) (c:Nat) (l:List Int) (w:World) (hC:(Kd.int .u8).C w A l.length l) (hc:l.length<=c) (hb:∀ i:Nat,0<=l.getD i 0/\l.getD i 0<=255):
  Calls Try.prog 33 #[.slice A l.length c] w fun e w'=>OkPost w e w':=by
 have HC:=am hC;have HL:=am hc;have HY:=am hb;clear hC hc hb;go_enter Try.func33,Try.ntmps33
 go_wp2_with (first
 |((with_reducible refine gate_dst (N:=2) rfl ?_);refine box_event rfl (N:=2) rfl (t:=48) (by go_simp<;>rfl) ?_;intro gz hg w2 hbox hb;have BZ:=am hbox;have LZ:=am (Nat.le_of_eq hg.symm);have HB:=am hb;clear hbox hg hb)
 |((with_reducible refine gate_dst (N:=3) rfl ?_);refine box_event rfl (N:=3) rfl (t:=27) (by go_simp<;>rfl) ?_;intro gy hg w3 hbox hb;have BY:=am hbox;have LY:=am (Nat.le_trans HB.out.size (Nat.le_of_eq hg.symm));have NZY:=am (show gz ≠ gy from fun he=>by have:=blk_lt BZ.out;omega);replace BZ:=am (zb8 BZ.out hb);replace HB:=am (below_step HB.out hb);clear hbox hg hb)
 |(go_at_call 47;refine (open_rds A c l _ (Kd.C_below HC.out HB.out) HL.out HY.out).mono ?_;rintro e wo ⟨g,bs,rfl,hi,hcd,hbo⟩;have HI:=am hi;have HCD:=am hcd;have HBO:=am hbo;clear hi hcd hbo)
 |(go_at_call 48;refine (l71Off_calls _ _ g bs 0 HI.out HBO.out HCD.out (by decide) (by decide)).mono ?_;rintro e wf ⟨p,s,vc,vb,ss,q,rfl,-,hpz,hvc,hvb,hs,hsz,hln,htl,hd,hq0,hq1⟩;have LZO:=am (blk_lt (zb8 BZ.out HBO.out));have LYO:=am (blk_lt (zb8 BY.out HBO.out));clear HBO HI;obtain ⟨Ac,cc,ev⟩:=Kd.R_slice hvc;subst ev;obtain ⟨Ab,cb,ev⟩:=Kd.R_slice hvb;subst ev;obtain ⟨lc,hlc⟩:∃ n,n=p.cells.length:=⟨_,rfl⟩;obtain ⟨lb,hlb⟩:∃ n,n=p.bodies.length:=⟨_,rfl⟩;rw [<-hlc] at hvc;rw [<-hlb] at hvb;rw [<-hlc,<-hlb];clear hlc hlb;obtain ⟨Y0,j0,Y1,j1,Y3,j3,rfl,-⟩:=kSys_open hs.now;obtain ⟨m0,hm0⟩:∃ n,n=s.cells.length:=⟨_,rfl⟩;obtain ⟨m1,hm1⟩:∃ n,n=s.tasks.length:=⟨_,rfl⟩;obtain ⟨m3,hm3⟩:∃ n,n=s.log.length:=⟨_,rfl⟩;obtain ⟨yc,hyc⟩:∃ n,n=s.clock:=⟨_,rfl⟩;rw [<-hm0,<-hm1,<-hm3,<-hyc] at hs;rw [<-hm0,<-hm1,<-hm3,<-hyc];clear hm0 hm1 hm3 hyc;have HS:=am hs;have HSZ:=am hsz;have HLN:=am (show s.log.length<=1000+9*0/\1<=s.tasks.length/\s.tasks.length<=2000 by omega);have HD:=am hd;have HQ:=am (show 0<=q/\q<=8000 from ⟨hq0,by omega⟩);have LWF:=am (show wo.heap.size<=wf.heap.size from HD.out.size);have HPZ:=am hpz;have VC:=am hvc;have VB:=am hvb;clear hs hsz hln htl hd hq0 hq1 hpz hvc hvb)
 |((with_reducible refine gate_dst (N:=5) rfl ?_);refine box_event rfl (N:=5) rfl (t:=48) (by go_simp<;>rfl) ?_;intro gp hg wt hbox hb;have BP0:=am hbox;have LBP:=am (Nat.le_of_eq hg.symm);have HBT:=am hb;have LBPo:=am (show wo.heap.size<=gp from Nat.le_trans (Nat.le_trans HD.out.size (Nat.le_refl _)) (Nat.le_of_eq hg.symm));clear hbox hb hg)
 |((with_reducible refine gate_dst (N:=6) rfl ?_);refine box_event rfl (N:=6) rfl (t:=27) (by go_simp<;>rfl) ?_;intro gs hg wt hbox hb;have NBPBS:=am (show gp ≠ gs from fun he=>by have:=blk_lt BP0.out;omega);replace BP0:=am (zb8 BP0.out hb);have BS0:=am hbox;have LBS:=am (Nat.le_trans HBT.out.size (Nat.le_of_eq hg.symm));replace HBT:=am (below_step HBT.out hb);have LBSo:=am (show wf.heap.size<=gs from LBS.out);clear hbox hb hg)
 |((with_reducible refine gate_store (t:=48) (p:=5) rfl ?_);refine store_block rfl rfl 48 (.tmp 5) (.tmp 15) rfl rfl rfl BP0.out rfl (by kernel_rfl) (aB rfl) ?_;intro wn hbox hg;have BP:=am hbox;replace BS0:=am (blk_grown BS0.out hg (fun he=>NBPBS.out (by injection he with he;exact he.symm)));replace HBT:=am (pw_below_grown HBT.out _ HBT.out.size hg (fun z hz=>by cases hz;exact LBP.out));clear BP0 hbox hg)
 |((with_reducible refine gate_store (t:=27) (p:=6) rfl ?_);refine store_block rfl rfl 27 (.tmp 6) (.tmp 16) rfl rfl rfl BS0.out rfl (by kernel_rfl) (aB rfl) ?_;intro wn hbox hg;have BS:=am hbox;replace BP:=am (blk_grown BP.out hg (fun he=>NBPBS.out (by injection he)));replace HBT:=am (pw_below_grown HBT.out _ HBT.out.size hg (fun z hz=>by cases hz;exact LBS.out));clear BS0 hbox hg;have hbT:=HBT.out;clear HBT;replace VC:=am (Kd.R_below VC.out hbT);replace VB:=am (Kd.R_below VB.out hbT);replace HS:=am (HS.out.grow hbT);replace HD:=am (HD.out.grow hbT);clear hbT;have BPc:=zc8 BP.out;have BSc:=zc8 BS.out)
 |(go_at_call 49;fail))
 refine (pick_rds HD.out HCD.out (by have:=HQ.out;omega) 8).mono ?_;rintro e wn ⟨x,q2,rfl,-,hq2,hd,hk⟩;replace HQ:=am (show 0<=q2/\q2<=8001 from by have:=HQ.out;omega);clear hq2;replace VC:=am (HD.out.rowK hk VC.out (by decide));replace VB:=am (HD.out.rowK hk VB.out (by decide));replace BP:=am (HD.out.blkK hk BP.out (by decide));replace BS:=am (HD.out.blkK hk BS.out (by decide));replace HS:=am (HS.out.keep hk);replace HD:=am hd;clear hk hd BPc BSc;have BPc:=zc8 BP.out;have BSc:=zc8 BS.out;by_cases hx0:(x:Int)=0
 ·have yx:((x:Int) == 0)=true:=by rw [beq_iff_eq];exact hx0
  have HBB:=am (Nat.le_refl wo.heap.size);clear hx0;go_wp2;refine st9 (n:=5) (S:=fun W=>W.heap[gs]? = some (.cells #[.slice Y0 m0 j0,.slice Y1 m1 j1,.int .i64 yc,.slice Y3 m3 j3] 27 (0,0))) (ds:= [4]) (by kernel_rfl) rfl (blk_drew BS.out) (fun hHeld=> ?_);have hb:=below_drew (Below.refl wn.heap.size wn);generalize wn.drew=w7 at hb hHeld ⊢;replace VC:=am (Kd.R_below VC.out hb);replace VB:=am (Kd.R_below VB.out hb);replace BP:=am (zb8 BP.out hb);replace BS:=am (zb8 BS.out hb);replace HS:=am (HS.out.grow hb);replace HD:=am (HD.out.grow hb);clear BPc BSc hb;have BPc:=zc8 BP.out;have BSc:=zc8 BS.out;refine ba9 (fuel:=3) (n:=2) [0,2] (by kernel_rfl) (fun N _ _ _ _ h=>by cases N <;> exact h) hHeld ?_
  iterate 2 (
   refine stillS_step (v:= ?_) (a':= ?_) rfl (Or.inl ⟨by rfl, ?_⟩) ?_ ?_;rotate_left
   ·rintro W s0
    have t0:=zc8 s0;clear s0;go_simp;with_reducible rfl
   rotate_left
   ·simp only [Act.put,sA,sZ,sS,i64_w]
    rfl)
  refine stillS_nil ?_;refine on9 (i:=1) (N:=some 21) rfl rfl (by kernel_rfl) (by decide) (fun K hK=> ?_);refine goes_ Try.func53 (by kernel_rfl) rfl #[.pointer (some ⟨g,0,none⟩)] (by rfl) rfl rfl (by (try simp only [List.map_toArray,List.map_cons,List.map_nil]);first | done | rfl) ?_;refine (l71Prog_calls _ _ g bs _ HD.out.rd HD.out.below HCD.out HD.out.pos (by have:=HQ.out;omega)).mono ?_;rintro e wp ⟨p2,vc2,vb2,q3,rfl,-,hpz2,-,hvc2,hvb2,hi2,hq3,hq4,hbl2,hk⟩;refine ⟨_,rfl, ?_⟩;obtain ⟨Ac2,cc2,ev⟩:=Kd.R_slice hvc2;subst ev;obtain ⟨Ab2,cb2,ev⟩:=Kd.R_slice hvb2;subst ev;refine hK.out _ _ (HD.out.blkK hk hHeld (by decide)) (fun hHeld=> ?_);clear hK K;refine norm_ (a':= ?_) ?_ ?_;rotate_left
  ·show Act.put _ (some 21) _=_
   simp only [Act.put,sA,sZ,sS,i64_w];rfl
  replace HS:=am (HS.out.keep hk);replace HD:=am (HD.out.next hi2 hbl2 hk (Int.le_trans HD.out.pos hq3));clear VC VB BP BS BPc BSc hk hi2 hbl2 hq3 hq4 HPZ;have VC:=am hvc2;have VB:=am hvb2;have HPZ:=am hpz2;clear hvc2 hvb2 hpz2;replace BZ:=am (zb8 BZ.out HD.out.below);replace BY:=am (zb8 BY.out HD.out.below);have HBW:=am (below_step HB.out HD.out.below);clear HD;refine on9 (i:=3) (N:=none) rfl rfl (by kernel_rfl) (by decide) (fun K hK=> ?_);obtain ⟨hbox,hg⟩:=setCells_blk (cs:= [.slice Ac2 p2.cells.length cc2,.slice Ab2 p2.bodies.length cb2]) BZ.out rfl;rw [if_pos (by rfl)];refine store_wp rfl 48 (.tmp 2) (.tmp 21) rfl rfl rfl BZ.out rfl (by kernel_rfl) (aB rfl) ?_;generalize World.setCells _ gz 0 [.slice Ac2 p2.cells.length cc2,.slice Ab2 p2.bodies.length cb2]=wy at hbox hg ⊢;have NSZ:gs ≠ gz:=fun he=>by have h1:=LBSo.out;have h2:=LZO.out;have h3:=LWF.out;omega
  refine hK.out _ _ (blk_grown hHeld hg (fun he=>NSZ (by injection he))) (fun hHeld=> ?_);clear hK K;have BZ_:=am hbox;replace VC:=am (R_grownT VC.out BZ.out (by decide) hg);replace VB:=am (R_grownT VB.out BZ.out (by decide) hg);replace BY:=am (blk_grown BY.out hg (fun he=>NZY.out (by injection he with he;exact he.symm)));replace HS:=am (HS.out.grown hg (fun z hz=>by cases hz;exact .inl (Nat.lt_of_lt_of_le LZO.out HBB.out)));replace HBW:=am (pw_below_grown HBW.out _ HBW.out.size hg (fun z hz=>by cases hz;exact LZ.out));clear hbox hg BZ NSZ;have BZ:=BZ_;clear BZ_;clear hHeld;refine tail_ (fuel:=1) 4 (by kernel_rfl) ?_;simp only [List.drop_succ_cons,List.drop_zero]
  go_wp2_with (first
  |((with_reducible refine gate_store (t:=27) (p:=3) rfl ?_);refine store_block rfl rfl 27 (.tmp 3) (.tmp 22) rfl rfl rfl BY.out rfl (by kernel_rfl) (aB rfl) ?_;intro wn hbox hg;have BY_:=am hbox;replace VC:=am (R_grownT VC.out BY.out (by decide) hg);replace VB:=am (R_grownT VB.out BY.out (by decide) hg);replace BZ:=am (blk_grown BZ.out hg (fun he=>NZY.out (by injection he)));replace HS:=am (HS.out.grown hg (fun z hz=>by cases hz;exact .inl (Nat.lt_of_lt_of_le LYO.out HBB.out)));replace HBW:=am (pw_below_grown HBW.out _ HBW.out.size hg (fun z hz=>by cases hz;exact LY.out));clear hbox hg BY;have BY:=BY_;clear BY_))
  refine bodyPost_ret (results_list (rs:= [.cell 2 48,.cell 3 27]) rfl (by simp) (.cell gz 48 #[.slice Ac2 p2.cells.length cc2,.slice Ab2 p2.bodies.length cb2] (0,0) _ rfl BZ.out Try.underlying48 rfl (by kernel_rfl) (.cell gy 27 #[.slice Y0 m0 j0,.slice Y1 m1 j1,.int .i64 yc,.slice Y3 m3 j3] (0,0) _ rfl BY.out Try.underlying27 rfl (by kernel_rfl) .nil))) rfl ?_;exact ⟨_,_,_,_,_,_,_,_,_,_,_,_,_,_,_,_,_,_,rfl,prog_K VC.out VB.out,HPZ.out,HS.out.now,HSZ.out,HLN.out.2.1,HLN.out.2.2,by have:=HLN.out.1;omega,HBW.out⟩
 ·have yx:((x:Int) == 0)=false:=by rw [beq_eq_false_iff_ne];exact hx0
  clear hx0;have HBB:=am (Nat.le_refl wo.heap.size);have HGN:=am (show gs < wo.heap.size\/wf.heap.size<=gs from .inr LBSo.out);have HQ_:=am (show 0<=q2/\q2<=8001+((0:Nat):Int) from by have:=HQ.out;omega);clear HQ;have HQ:=HQ_;clear HQ_;go_wp2;go_loopw [7] (fun i w'=>∃ k:Nat,k<=80/\i= .int .i64 k/\∃ (s1:Sys) (Y0:Option Addr) (m0 j0:Nat) (Y1:Option Addr) (m1 j1:Nat) (yc:Int) (Y3:Option Addr) (m3 j3:Nat) (B N:Nat) (q:Int),Aside0 (Held B N g s1 [.slice Y0 m0 j0,.slice Y1 m1 j1,.int .i64 yc,.slice Y3 m3 j3] w')/\Aside0 (wo.heap.size<=B)/\Aside0 (gs < B\/N<=gs)/\Aside0 (SysSz s1)/\Aside0 (s1.log.length<=1000+9*k/\1<=s1.tasks.length/\s1.tasks.length<=2000)/\Aside0 (w'.heap[gp]? = some (.cells #[.slice Ac lc cc,.slice Ab lb cb] 48 (0,0)))/\Aside0 (w'.heap[gs]? = some (.cells #[.slice Y0 m0 j0,.slice Y1 m1 j1,.int .i64 yc,.slice Y3 m3 j3] 27 (0,0)))/\Aside0 ((Kd.int .i64).R 3 w' wo.heap.size (fun _=>True) (.slice Ac lc cc) p.cells)/\Aside0 ((Kd.slice 108 kAct).R 104 w' wo.heap.size (fun _=>True) (.slice Ab lb cb) p.bodies)/\Aside0 (Rds _ wo g bs q w')/\Aside0 (0<=q/\q<=8001+(k:Int))) (fun i _=>81 - (intOf i).toNat)
  case atStart=>exact ⟨0,by omega,rfl,_,_,_,_,_,_,_,_,_,_,_,_,_,q2,HS,HBB,HGN,HSZ,HLN,BP,BS,VC,VB,HD,HQ⟩
  case round=>
   clear HS HBB HGN HSZ HLN BP BS VC VB HD HQ BPc BSc;obtain ⟨k,hk80,rfl,s1,Y0,m0,j0,Y1,m1,j1,yc,Y3,m3,j3,B,N,q,HS,HBB,HGN,HSZ,HLN,BP,BS,VC,VB,HD,HQ⟩:=hrel;have BPc:=zc8 BP.out;have BSc:=zc8 BS.out;have LGF:=am (show wo.heap.size<=wf.heap.size from LWF.out);by_cases hk9:(k:Int) < 80
   ·have yk:decide ((k:Int) < 80)=true:=decide_eq_true hk9
    by_cases hz:((heldIn s1.cells).length:Int)=0
    ·have yz:(((heldIn s1.cells).length:Int) == 0)=true:=by rw [beq_iff_eq];exact hz
     clear hz
     go_wp2_with (first
     |((with_reducible refine gate_dst (N:=26) rfl ?_);refine wpList_load_mid rfl 27 (.tmp 6) rfl gs 0 rfl _ _ (lC BS.out) Try.underlying27 rfl (by kernel_rfl) ?_)
     |(go_at_call 54;refine (specHeld_calls s1 _ _ HS.out.now HSZ.out.cells).mono ?_;rintro e wn ⟨v,rfl,hv,hb⟩;obtain ⟨Av,cv,ev,-,-⟩:=Kd.R_reads hv;subst ev;clear hv;replace VC:=am (Kd.R_below VC.out hb);replace VB:=am (Kd.R_below VB.out hb);replace BP:=am (zb8 BP.out hb);replace BS:=am (zb8 BS.out hb);replace HS:=am (HS.out.grow hb);replace HD:=am (HD.out.grow hb);clear BPc BSc hb;have BPc:=zc8 BP.out;have BSc:=zc8 BS.out))
     refine st9 (n:=12) (S:=fun W=>W.heap[gp]? = some (.cells #[.slice Ac lc cc,.slice Ab lb cb] 48 (0,0))/\W.heap[gs]? = some (.cells #[.slice Y0 m0 j0,.slice Y1 m1 j1,.int .i64 yc,.slice Y3 m3 j3] 27 (0,0))) (ds:= [10,11]) (by kernel_rfl) rfl ⟨blk_drew BP.out,blk_drew BS.out⟩ (fun hHeld=> ?_);have hb:=below_drew (Below.refl wn.heap.size wn);generalize wn.drew=w7 at hb hHeld ⊢;replace VC:=am (Kd.R_below VC.out hb);replace VB:=am (Kd.R_below VB.out hb);replace BP:=am (zb8 BP.out hb);replace BS:=am (zb8 BS.out hb);replace HS:=am (HS.out.grow hb);replace HD:=am (HD.out.grow hb);clear BPc BSc hb;have BPc:=zc8 BP.out;have BSc:=zc8 BS.out;refine ba9 (fuel:=9) (n:=3) [0,1,2] (by kernel_rfl) (fun N _ _ _ _ h=>by cases N <;> exact h) hHeld ?_
     iterate 3 (
      refine stillS_step (v:= ?_) (a':= ?_) rfl (Or.inl ⟨by rfl, ?_⟩) ?_ ?_;rotate_left
      ·rintro W ⟨s0,s9⟩
       have t0:=zc8 s0;have t1:=zc8 s9;clear s0 s9;go_simp;with_reducible rfl
      rotate_left
      ·simp only [Act.put,sA,sZ,sS,i64_w]
       rfl)
     refine stillS_nil ?_;refine tw9 (i:=3) (j:=9) (Ni:=some 37) (Nj:=some 8) rfl rfl rfl rfl (by kernel_rfl) (by decide) (by decide) (fun K hK=> ?_) (fun K hK=> ?_)
     ·refine goes_ Try.func49 (by kernel_rfl) rfl #[.pointer (some ⟨g,0,none⟩),.int .i64 7] (by rfl) rfl rfl (by (try simp only [List.map_toArray,List.map_cons,List.map_nil]);first | done | rfl) ?_
      refine (pick_rds HD.out HCD.out (by have:=HQ.out;omega) 7).mono ?_;rintro e wn ⟨z,q2,rfl,-,hq2,hd,hk⟩;refine ⟨_,rfl, ?_⟩;refine hK.out _ _ ⟨HD.out.blkK hk hHeld.1 (by decide),HD.out.blkK hk hHeld.2 (by decide)⟩ (fun hHeld=> ?_);clear hK K;refine norm_ (a':= ?_) ?_ ?_;rotate_left
      ·show Act.put _ (some 37) _=_
       simp only [Act.put,sA,sZ,sS,i64_w];rfl
      replace HQ:=am (show 0<=q2/\q2<=8001+(k:Int)+1 from by have:=HQ.out;omega);clear hq2;replace VC:=am (HD.out.rowK hk VC.out (by decide));replace VB:=am (HD.out.rowK hk VB.out (by decide));replace BP:=am (HD.out.blkK hk BP.out (by decide));replace BS:=am (HD.out.blkK hk BS.out (by decide));replace HS:=am (HS.out.keep hk);replace HD:=am hd;clear hk hd BPc BSc;have BPc:=zc8 BP.out;have BSc:=zc8 BS.out;refine tw9 (i:=4) (j:=9) (Ni:=some 38) (Nj:=some 8) rfl rfl rfl rfl (by kernel_rfl) (by decide) (by decide) (fun K hK=> ?_) (fun K hK=> ?_)
      ·refine Kd.R_lit_step (w0:=_) (Kd.int .i64) wo.heap.size 3 (by rfl) (N:=38) rfl (xs:=([(z:Int)]:List Int)) (inner:= [.int .i64 z]) (ok:=(fun _=>True)) (okp:=(fun _=>True)) (by go_simp<;>rfl) (Reps.one rfl (Reps.none _ _)) (fun _ _=>trivial) trivial (Below.refl _ _) HD.out.size (by simp) ?_
       intro v1 wl hv1 hb1 hg hx9;clear hb1 hx9;obtain ⟨Ak,ck,ev⟩:=Kd.R_slice hv1;subst ev;refine hK.out _ _ ⟨zb8 hHeld.1 (grown_below hg),zb8 hHeld.2 (grown_below hg)⟩ (fun hHeld=> ?_);clear hK K;refine norm_ (a':= ?_) ?_ ?_;rotate_left
       ·show Act.put _ (some 38) _=_
        simp only [Act.put,sA,sZ,sS,i64_w];rfl
       have hb:=grown_below hg;clear hg;replace VC:=am (Kd.R_below VC.out hb);replace VB:=am (Kd.R_below VB.out hb);replace BP:=am (zb8 BP.out hb);replace BS:=am (zb8 BS.out hb);replace HS:=am (HS.out.grow hb);replace HD:=am (HD.out.grow hb);clear BPc BSc hb;have BPc:=zc8 BP.out;have BSc:=zc8 BS.out;have KS:=am (Kd.R_reads' hv1).2.2;clear hv1;refine tw9 (i:=5) (j:=9) (Ni:=some 39) (Nj:=some 8) rfl rfl rfl rfl (by kernel_rfl) (by decide) (by decide) (fun K hK=> ?_) (fun K hK=> ?_)
       ·refine goes_ Try.func55 (by kernel_rfl) rfl #[.agg #[.slice Ac lc cc,.slice Ab lb cb],.agg #[.slice Y0 m0 j0,.slice Y1 m1 j1,.int .i64 yc,.slice Y3 m3 j3],.slice Ak [(z:Int)].length ck] (by rfl) rfl rfl (by (try simp only [List.map_toArray,List.map_cons,List.map_nil]);first | done | rfl) ?_
        refine (run_held p _ s1 _ [(z:Int)] Ak ck g _ (prog_K VC.out VB.out) HS.out.now HPZ.out HSZ.out (by have:=HLN.out;omega) KS.out (Nat.lt_of_lt_of_le HD.out.lt HD.out.size)).mono ?_;rintro e wc ⟨bb,X0,X1,X3,n0,k0,n1,k1,n3,k3,zc,rfl,hb,hx⟩;refine ⟨_,rfl, ?_⟩;refine hK.out _ _ ⟨zb8 hHeld.1 hb,zb8 hHeld.2 hb⟩ (fun hHeld=> ?_);clear hK K;refine norm_ (a':= ?_) ?_ ?_;rotate_left
        ·show Act.put _ (some 39) _=_
         simp only [Act.put,sA,sZ,sS,i64_w];rfl
        have hbs:=blk_lt BS.out;have hws:=HD.out.size;have XR:=am (show bb=true->sysOk p s1=true/\∃ B1 N1,Held B1 N1 g (turns p s1 [(z:Int)]) [.slice X0 n0 k0,.slice X1 n1 k1,.int .i64 zc,.slice X3 n3 k3] wc/\wo.heap.size<=B1/\gs < B1 from fun h=>⟨(hx h).1,_,_,(hx h).2,hws,hbs⟩);clear hx hbs hws KS;replace VC:=am (Kd.R_below VC.out hb);replace VB:=am (Kd.R_below VB.out hb);replace BP:=am (zb8 BP.out hb);replace BS:=am (zb8 BS.out hb);replace HS:=am (HS.out.grow hb);replace HD:=am (HD.out.grow hb);clear BPc BSc hb;have BPc:=zc8 BP.out;have BSc:=zc8 BS.out;refine ba9 (fuel:=4) (n:=2) [6,7] (by kernel_rfl) (fun N _ _ _ _ h=>by cases N <;> exact h) hHeld ?_
        iterate 2 (
         refine stillS_step (v:= ?_) (a':= ?_) rfl (Or.inl ⟨by rfl, ?_⟩) ?_ ?_;rotate_left
         ·intro W s0
          go_simp
          with_reducible rfl
         rotate_left
         ·simp only [Act.put,sA,sZ,sS,i64_w]
          rfl)
        refine stillS_nil ?_;refine pure_ (i:=8) (N:=some 41) (v:=.bool bb) (a':= ?_) #[true,true,true,true,true,true,true,true,true,false,false,false] rfl rfl (by kernel_rfl) (fun _ _ _ h=>h) (Or.inl ⟨by rfl,fun W=>by go_simp<;>rfl⟩) ?_ ?_;rotate_left
        ·simp only [Act.put,sA,sZ,sS,i64_w]
         rfl
        refine on9 (i:=9) (N:=some 8) rfl rfl (by kernel_rfl) (by decide) (fun K hK=> ?_);refine box_step (t:=27) (cs:=#[.slice none 0 0,.slice none 0 0,.int .i64 0,.slice none 0 0]) (by rfl) rfl (by intro W;first|(go_simp;done)|(go_simp;rfl)) ?_;intro g8 hg8 wb hbox hb;refine hK.out _ _ ⟨zb8 hHeld.1 hb,zb8 hHeld.2 hb⟩ (fun hHeld=> ?_);clear hK K;refine norm_ (a':= ?_) ?_ ?_;rotate_left
        ·show Act.put _ (some 8) _=_
         simp only [Act.put,sA,sZ,sS,i64_w];rfl
        replace XR:=am (show bb=true->sysOk p s1=true/\∃ B1 N1,Held B1 N1 g (turns p s1 [(z:Int)]) [.slice X0 n0 k0,.slice X1 n1 k1,.int .i64 zc,.slice X3 n3 k3] wb/\wo.heap.size<=B1/\gs < B1/\(g8 < B1\/N1<=g8) from fun h=>by obtain ⟨h1,B1,N1,h2,h3,h4⟩:=XR.out h;exact ⟨h1,B1,N1,h2.grow hb,h3,h4,.inr (by have:=h2.size;omega)⟩);have N8S:=am (show gs ≠ g8 from fun he=>by have:=blk_lt BS.out;omega);have N8P:=am (show gp ≠ g8 from fun he=>by have:=blk_lt BP.out;omega);have L8:=am (show wo.heap.size<=g8 by have:=HD.out.size;omega);have H8:=am (show N<=g8 by have:=HS.out.size;omega);have B8:=am hbox;clear hbox hg8;replace VC:=am (Kd.R_below VC.out hb);replace VB:=am (Kd.R_below VB.out hb);replace BP:=am (zb8 BP.out hb);replace BS:=am (zb8 BS.out hb);replace HS:=am (HS.out.grow hb);replace HD:=am (HD.out.grow hb);clear BPc BSc hb;have BPc:=zc8 BP.out;have BSc:=zc8 BS.out;have B8c:=zc8 B8.out;clear hHeld;refine tail_ (fuel:=2) 10 (by kernel_rfl) ?_;simp only [List.drop_succ_cons,List.drop_zero]
        cases bb with
        | false=>
         clear XR
         go_wp2_with (first
         |((with_reducible refine gate_store (t:=27) (p:=8) rfl ?_);refine store_block rfl rfl 27 (.tmp 8) (.tmp 40) rfl rfl rfl B8.out rfl (by kernel_rfl) (aB rfl) ?_;intro wn hbox hg;have B8_:=am hbox;replace VC:=am (R_grownT VC.out B8.out (by decide) hg);replace VB:=am (R_grownT VB.out B8.out (by decide) hg);replace BP:=am (blk_grown BP.out hg (fun he=>N8P.out (by injection he)));replace BS:=am (blk_grown BS.out hg (fun he=>N8S.out (by injection he)));replace HS:=am (HS.out.grown hg (fun q hq=>by cases hq;exact .inr H8.out));replace HD:=am (HD.out.grown hg (fun q hq=>by cases hq;exact L8.out));clear hbox hg B8 B8c BPc BSc;have B8:=B8_;clear B8_;have B8c:=zc8 B8.out;have BPc:=zc8 BP.out;have BSc:=zc8 BS.out))
         go_roundw
         case rel=>exact ⟨k+1,by omega,by go_num,s1,Y0,m0,j0,Y1,m1,j1,yc,Y3,m3,j3,B,N,_,HS,HBB,HGN,HSZ,⟨by have:=HLN.out;omega⟩,BP,BS,VC,VB,HD,⟨by have:=HQ.out;omega⟩⟩
         case measure=>simp [intOf];omega
        | true=>
         have LSO:=am (show wo.heap.size<=gs from Nat.le_trans LWF.out LBSo.out)
         go_wp2_with (first
         |((with_reducible refine gate_store (t:=27) (p:=8) rfl ?_);refine store_block rfl rfl 27 (.tmp 8) (.tmp 40) rfl rfl rfl B8.out rfl (by kernel_rfl) (aB rfl) ?_;intro wn hbox hg;have B8_:=am hbox;replace XR:=am (show true=true->sysOk p s1=true/\∃ B1 N1,Held B1 N1 g (turns p s1 [(z:Int)]) [.slice X0 n0 k0,.slice X1 n1 k1,.int .i64 zc,.slice X3 n3 k3] wn/\wo.heap.size<=B1/\gs < B1/\(g8 < B1\/N1<=g8) from fun h=>by obtain ⟨h1,B1,N1,h2,h3,h4,h5⟩:=XR.out h;exact ⟨h1,B1,N1,h2.grown hg (fun q hq=>by cases hq;exact h5),h3,h4,h5⟩);replace VC:=am (R_grownT VC.out B8.out (by decide) hg);replace VB:=am (R_grownT VB.out B8.out (by decide) hg);replace BP:=am (blk_grown BP.out hg (fun he=>N8P.out (by injection he)));replace BS:=am (blk_grown BS.out hg (fun he=>N8S.out (by injection he)));replace HS:=am (HS.out.grown hg (fun q hq=>by cases hq;exact .inr H8.out));replace HD:=am (HD.out.grown hg (fun q hq=>by cases hq;exact L8.out));clear hbox hg B8 B8c BPc BSc;have B8:=B8_;clear B8_;have B8c:=zc8 B8.out;have BPc:=zc8 BP.out;have BSc:=zc8 BS.out)
         |((with_reducible refine gate_dst (N:=43) rfl ?_);refine wpList_load_mid rfl 27 (.tmp 8) rfl g8 0 rfl _ _ (lC B8.out) Try.underlying27 rfl (by kernel_rfl) ?_)
         |((with_reducible refine gate_store (t:=27) (p:=6) rfl ?_);refine store_block rfl rfl 27 (.tmp 6) (.tmp 43) rfl rfl rfl BS.out rfl (by kernel_rfl) (aB rfl) ?_;intro wn hbox hg;have BS_:=am hbox;replace XR:=am (show true=true->sysOk p s1=true/\∃ B1 N1,Held B1 N1 g (turns p s1 [(z:Int)]) [.slice X0 n0 k0,.slice X1 n1 k1,.int .i64 zc,.slice X3 n3 k3] wn/\wo.heap.size<=B1/\gs < B1/\(g8 < B1\/N1<=g8) from fun h=>by obtain ⟨h1,B1,N1,h2,h3,h4,h5⟩:=XR.out h;exact ⟨h1,B1,N1,h2.grown hg (fun q hq=>by cases hq;exact .inl h4),h3,h4,h5⟩);replace VC:=am (R_grownT VC.out BS.out (by decide) hg);replace VB:=am (R_grownT VB.out BS.out (by decide) hg);replace BP:=am (blk_grown BP.out hg (fun he=>NBPBS.out (by injection he)));replace HD:=am (HD.out.grown hg (fun q hq=>by cases hq;exact LSO.out));clear hbox hg B8 B8c BS BPc BSc HS;have BS:=BS_;clear BS_;have BPc:=zc8 BP.out;have BSc:=zc8 BS.out))
         obtain ⟨ho,B1,N1,hx1,hx2,hx3,-⟩:=XR.out rfl;obtain ⟨t1,t2,t3,t4⟩:=turn_sz (k:=(z:Int)) ho HLN.out.1 (by omega);have TS:=am t1;have TL9:=am (show (turns p s1 [(z:Int)]).log.length<=1000+9*(k+1)/\1<=(turns p s1 [(z:Int)]).tasks.length/\(turns p s1 [(z:Int)]).tasks.length<=2000 by omega);have HX:=am hx1;have HX2:=am hx2;have HX3:=am (show gs < B1\/N1<=gs from .inl hx3);clear t1 t2 t3 t4 hx1 hx2 hx3 ho;go_roundw
         case rel=>exact ⟨k+1,by omega,by go_num,_,X0,n0,k0,X1,n1,k1,zc,X3,n3,k3,B1,N1,_,HX,HX2,HX3,TS,TL9,BP,BS,VC,VB,HD,⟨by have:=HQ.out;omega⟩⟩
         case measure=>simp [intOf];omega
       ·refine box_step (t:=27) (cs:=#[.slice none 0 0,.slice none 0 0,.int .i64 0,.slice none 0 0]) (by rfl) rfl (by intro W;first|(go_simp;done)|(go_simp;rfl)) ?_
        intro g8 hg8 wb hbox hb;refine hK.out _ _ ⟨zb8 hHeld.1 hb,zb8 hHeld.2 hb⟩ (fun hHeld=> ?_);clear hK K;refine norm_ (a':= ?_) ?_ ?_;rotate_left
        ·show Act.put _ (some 8) _=_
         simp only [Act.put,sA,sZ,sS,i64_w];rfl
        have N8S:=am (show gs ≠ g8 from fun he=>by have:=blk_lt BS.out;omega);have N8P:=am (show gp ≠ g8 from fun he=>by have:=blk_lt BP.out;omega);have L8:=am (show wo.heap.size<=g8 by have:=HD.out.size;omega);have H8:=am (show N<=g8 by have:=HS.out.size;omega);have B8:=am hbox;clear hbox hg8;replace VC:=am (Kd.R_below VC.out hb);replace VB:=am (Kd.R_below VB.out hb);replace BP:=am (zb8 BP.out hb);replace BS:=am (zb8 BS.out hb);replace HS:=am (HS.out.grow hb);replace HD:=am (HD.out.grow hb);replace KS:=am (Kd.C_below KS.out hb);clear BPc BSc hb;have BPc:=zc8 BP.out;have BSc:=zc8 BS.out;have B8c:=zc8 B8.out;refine on9 (i:=5) (N:=some 39) rfl rfl (by kernel_rfl) (by decide) (fun K hK=> ?_);refine goes_ Try.func55 (by kernel_rfl) rfl #[.agg #[.slice Ac lc cc,.slice Ab lb cb],.agg #[.slice Y0 m0 j0,.slice Y1 m1 j1,.int .i64 yc,.slice Y3 m3 j3],.slice Ak [(z:Int)].length ck] (by rfl) rfl rfl (by (try simp only [List.map_toArray,List.map_cons,List.map_nil]);first | done | rfl) ?_;refine (run_held p _ s1 _ [(z:Int)] Ak ck g _ (prog_K VC.out VB.out) HS.out.now HPZ.out HSZ.out (by have:=HLN.out;omega) KS.out (Nat.lt_of_lt_of_le HD.out.lt HD.out.size)).mono ?_;rintro e wc ⟨bb,X0,X1,X3,n0,k0,n1,k1,n3,k3,zc,rfl,hb,hx⟩;refine ⟨_,rfl, ?_⟩;refine hK.out _ _ ⟨zb8 hHeld.1 hb,zb8 hHeld.2 hb⟩ (fun hHeld=> ?_);clear hK K;refine norm_ (a':= ?_) ?_ ?_;rotate_left
        ·show Act.put _ (some 39) _=_
         simp only [Act.put,sA,sZ,sS,i64_w];rfl
        have hbs:=blk_lt BS.out;have hws:=HD.out.size;have XR:=am (show bb=true->sysOk p s1=true/\∃ B1 N1,Held B1 N1 g (turns p s1 [(z:Int)]) [.slice X0 n0 k0,.slice X1 n1 k1,.int .i64 zc,.slice X3 n3 k3] wc/\wo.heap.size<=B1/\gs < B1/\g8 < B1 from fun h=>⟨(hx h).1,_,_,(hx h).2,hws,hbs,blk_lt B8.out⟩);clear hx hbs hws KS;replace VC:=am (Kd.R_below VC.out hb);replace VB:=am (Kd.R_below VB.out hb);replace BP:=am (zb8 BP.out hb);replace BS:=am (zb8 BS.out hb);replace HS:=am (HS.out.grow hb);replace HD:=am (HD.out.grow hb);replace B8:=am (zb8 B8.out hb);clear BPc BSc B8c hb;have BPc:=zc8 BP.out;have BSc:=zc8 BS.out;have B8c:=zc8 B8.out;replace XR:=am (show bb=true->sysOk p s1=true/\∃ B1 N1,Held B1 N1 g (turns p s1 [(z:Int)]) [.slice X0 n0 k0,.slice X1 n1 k1,.int .i64 zc,.slice X3 n3 k3] wc/\wo.heap.size<=B1/\gs < B1/\(g8 < B1\/N1<=g8) from fun h=>by obtain ⟨h1,B1,N1,h2,h3,h4,h5⟩:=XR.out h;exact ⟨h1,B1,N1,h2,h3,h4,.inl h5⟩);refine ba9 (fuel:=3) (n:=2) [6,7] (by kernel_rfl) (fun N _ _ _ _ h=>by cases N <;> exact h) hHeld ?_
        iterate 2 (
         refine stillS_step (v:= ?_) (a':= ?_) rfl (Or.inl ⟨by rfl, ?_⟩) ?_ ?_;rotate_left
         ·intro W s0
          go_simp
          with_reducible rfl
         rotate_left
         ·simp only [Act.put,sA,sZ,sS,i64_w]
          rfl)
        refine stillS_nil ?_;refine pure_ (i:=8) (N:=some 41) (v:=.bool bb) (a':= ?_) #[true,true,true,true,true,true,true,true,true,true,false,false] rfl rfl (by kernel_rfl) (fun _ _ _ h=>h) (Or.inl ⟨by rfl,fun W=>by go_simp<;>rfl⟩) ?_ ?_;rotate_left
        ·simp only [Act.put,sA,sZ,sS,i64_w]
         rfl
        clear hHeld;refine tail_ (fuel:=2) 10 (by kernel_rfl) ?_;simp only [List.drop_succ_cons,List.drop_zero]
        cases bb with
        | false=>
         clear XR
         go_wp2_with (first
         |((with_reducible refine gate_store (t:=27) (p:=8) rfl ?_);refine store_block rfl rfl 27 (.tmp 8) (.tmp 40) rfl rfl rfl B8.out rfl (by kernel_rfl) (aB rfl) ?_;intro wn hbox hg;have B8_:=am hbox;replace VC:=am (R_grownT VC.out B8.out (by decide) hg);replace VB:=am (R_grownT VB.out B8.out (by decide) hg);replace BP:=am (blk_grown BP.out hg (fun he=>N8P.out (by injection he)));replace BS:=am (blk_grown BS.out hg (fun he=>N8S.out (by injection he)));replace HS:=am (HS.out.grown hg (fun q hq=>by cases hq;exact .inr H8.out));replace HD:=am (HD.out.grown hg (fun q hq=>by cases hq;exact L8.out));clear hbox hg B8 B8c BPc BSc;have B8:=B8_;clear B8_;have B8c:=zc8 B8.out;have BPc:=zc8 BP.out;have BSc:=zc8 BS.out))
         go_roundw
         case rel=>exact ⟨k+1,by omega,by go_num,s1,Y0,m0,j0,Y1,m1,j1,yc,Y3,m3,j3,B,N,_,HS,HBB,HGN,HSZ,⟨by have:=HLN.out;omega⟩,BP,BS,VC,VB,HD,⟨by have:=HQ.out;omega⟩⟩
         case measure=>simp [intOf];omega
        | true=>
         have LSO:=am (show wo.heap.size<=gs from Nat.le_trans LWF.out LBSo.out)
         go_wp2_with (first
         |((with_reducible refine gate_store (t:=27) (p:=8) rfl ?_);refine store_block rfl rfl 27 (.tmp 8) (.tmp 40) rfl rfl rfl B8.out rfl (by kernel_rfl) (aB rfl) ?_;intro wn hbox hg;have B8_:=am hbox;replace XR:=am (show true=true->sysOk p s1=true/\∃ B1 N1,Held B1 N1 g (turns p s1 [(z:Int)]) [.slice X0 n0 k0,.slice X1 n1 k1,.int .i64 zc,.slice X3 n3 k3] wn/\wo.heap.size<=B1/\gs < B1/\(g8 < B1\/N1<=g8) from fun h=>by obtain ⟨h1,B1,N1,h2,h3,h4,h5⟩:=XR.out h;exact ⟨h1,B1,N1,h2.grown hg (fun q hq=>by cases hq;exact h5),h3,h4,h5⟩);replace VC:=am (R_grownT VC.out B8.out (by decide) hg);replace VB:=am (R_grownT VB.out B8.out (by decide) hg);replace BP:=am (blk_grown BP.out hg (fun he=>N8P.out (by injection he)));replace BS:=am (blk_grown BS.out hg (fun he=>N8S.out (by injection he)));replace HS:=am (HS.out.grown hg (fun q hq=>by cases hq;exact .inr H8.out));replace HD:=am (HD.out.grown hg (fun q hq=>by cases hq;exact L8.out));clear hbox hg B8 B8c BPc BSc;have B8:=B8_;clear B8_;have B8c:=zc8 B8.out;have BPc:=zc8 BP.out;have BSc:=zc8 BS.out)
         |((with_reducible refine gate_dst (N:=43) rfl ?_);refine wpList_load_mid rfl 27 (.tmp 8) rfl g8 0 rfl _ _ (lC B8.out) Try.underlying27 rfl (by kernel_rfl) ?_)
         |((with_reducible refine gate_store (t:=27) (p:=6) rfl ?_);refine store_block rfl rfl 27 (.tmp 6) (.tmp 43) rfl rfl rfl BS.out rfl (by kernel_rfl) (aB rfl) ?_;intro wn hbox hg;have BS_:=am hbox;replace XR:=am (show true=true->sysOk p s1=true/\∃ B1 N1,Held B1 N1 g (turns p s1 [(z:Int)]) [.slice X0 n0 k0,.slice X1 n1 k1,.int .i64 zc,.slice X3 n3 k3] wn/\wo.heap.size<=B1/\gs < B1/\(g8 < B1\/N1<=g8) from fun h=>by obtain ⟨h1,B1,N1,h2,h3,h4,h5⟩:=XR.out h;exact ⟨h1,B1,N1,h2.grown hg (fun q hq=>by cases hq;exact .inl h4),h3,h4,h5⟩);replace VC:=am (R_grownT VC.out BS.out (by decide) hg);replace VB:=am (R_grownT VB.out BS.out (by decide) hg);replace BP:=am (blk_grown BP.out hg (fun he=>NBPBS.out (by injection he)));replace HD:=am (HD.out.grown hg (fun q hq=>by cases hq;exact LSO.out));clear hbox hg B8 B8c BS BPc BSc HS;have BS:=BS_;clear BS_;have BPc:=zc8 BP.out;have BSc:=zc8 BS.out))
         obtain ⟨ho,B1,N1,hx1,hx2,hx3,-⟩:=XR.out rfl;obtain ⟨t1,t2,t3,t4⟩:=turn_sz (k:=(z:Int)) ho HLN.out.1 (by omega);have TS:=am t1;have TL9:=am (show (turns p s1 [(z:Int)]).log.length<=1000+9*(k+1)/\1<=(turns p s1 [(z:Int)]).tasks.length/\(turns p s1 [(z:Int)]).tasks.length<=2000 by omega);have HX:=am hx1;have HX2:=am hx2;have HX3:=am (show gs < B1\/N1<=gs from .inl hx3);clear t1 t2 t3 t4 hx1 hx2 hx3 ho;go_roundw
         case rel=>exact ⟨k+1,by omega,by go_num,_,X0,n0,k0,X1,n1,k1,zc,X3,n3,k3,B1,N1,_,HX,HX2,HX3,TS,TL9,BP,BS,VC,VB,HD,⟨by have:=HQ.out;omega⟩⟩
         case measure=>simp [intOf];omega
      ·refine box_step (t:=27) (cs:=#[.slice none 0 0,.slice none 0 0,.int .i64 0,.slice none 0 0]) (by rfl) rfl (by intro W;first|(go_simp;done)|(go_simp;rfl)) ?_
       intro g8 hg8 wb hbox hb;refine hK.out _ _ ⟨zb8 hHeld.1 hb,zb8 hHeld.2 hb⟩ (fun hHeld=> ?_);clear hK K;refine norm_ (a':= ?_) ?_ ?_;rotate_left
       ·show Act.put _ (some 8) _=_
        simp only [Act.put,sA,sZ,sS,i64_w];rfl
       have N8S:=am (show gs ≠ g8 from fun he=>by have:=blk_lt BS.out;omega);have N8P:=am (show gp ≠ g8 from fun he=>by have:=blk_lt BP.out;omega);have L8:=am (show wo.heap.size<=g8 by have:=HD.out.size;omega);have H8:=am (show N<=g8 by have:=HS.out.size;omega);have B8:=am hbox;clear hbox hg8;replace VC:=am (Kd.R_below VC.out hb);replace VB:=am (Kd.R_below VB.out hb);replace BP:=am (zb8 BP.out hb);replace BS:=am (zb8 BS.out hb);replace HS:=am (HS.out.grow hb);replace HD:=am (HD.out.grow hb);clear BPc BSc hb;have BPc:=zc8 BP.out;have BSc:=zc8 BS.out;have B8c:=zc8 B8.out;refine on9 (i:=4) (N:=some 38) rfl rfl (by kernel_rfl) (by decide) (fun K hK=> ?_);refine Kd.R_lit_step (w0:=_) (Kd.int .i64) wo.heap.size 3 (by rfl) (N:=38) rfl (xs:=([(z:Int)]:List Int)) (inner:= [.int .i64 z]) (ok:=(fun _=>True)) (okp:=(fun _=>True)) (by go_simp<;>rfl) (Reps.one rfl (Reps.none _ _)) (fun _ _=>trivial) trivial (Below.refl _ _) HD.out.size (by simp) ?_;intro v1 wl hv1 hb1 hg hx9;clear hb1 hx9;obtain ⟨Ak,ck,ev⟩:=Kd.R_slice hv1;subst ev;refine hK.out _ _ ⟨zb8 hHeld.1 (grown_below hg),zb8 hHeld.2 (grown_below hg)⟩ (fun hHeld=> ?_);clear hK K;refine norm_ (a':= ?_) ?_ ?_;rotate_left
       ·show Act.put _ (some 38) _=_
        simp only [Act.put,sA,sZ,sS,i64_w];rfl
       have hb:=grown_below hg;clear hg;replace VC:=am (Kd.R_below VC.out hb);replace VB:=am (Kd.R_below VB.out hb);replace BP:=am (zb8 BP.out hb);replace BS:=am (zb8 BS.out hb);replace HS:=am (HS.out.grow hb);replace HD:=am (HD.out.grow hb);replace B8:=am (zb8 B8.out hb);clear BPc BSc B8c hb;have BPc:=zc8 BP.out;have BSc:=zc8 BS.out;have B8c:=zc8 B8.out;have KS:=am (Kd.R_reads' hv1).2.2;clear hv1;refine on9 (i:=5) (N:=some 39) rfl rfl (by kernel_rfl) (by decide) (fun K hK=> ?_);refine goes_ Try.func55 (by kernel_rfl) rfl #[.agg #[.slice Ac lc cc,.slice Ab lb cb],.agg #[.slice Y0 m0 j0,.slice Y1 m1 j1,.int .i64 yc,.slice Y3 m3 j3],.slice Ak [(z:Int)].length ck] (by rfl) rfl rfl (by (try simp only [List.map_toArray,List.map_cons,List.map_nil]);first | done | rfl) ?_;refine (run_held p _ s1 _ [(z:Int)] Ak ck g _ (prog_K VC.out VB.out) HS.out.now HPZ.out HSZ.out (by have:=HLN.out;omega) KS.out (Nat.lt_of_lt_of_le HD.out.lt HD.out.size)).mono ?_;rintro e wc ⟨bb,X0,X1,X3,n0,k0,n1,k1,n3,k3,zc,rfl,hb,hx⟩;refine ⟨_,rfl, ?_⟩;refine hK.out _ _ ⟨zb8 hHeld.1 hb,zb8 hHeld.2 hb⟩ (fun hHeld=> ?_);clear hK K;refine norm_ (a':= ?_) ?_ ?_;rotate_left
       ·show Act.put _ (some 39) _=_
        simp only [Act.put,sA,sZ,sS,i64_w];rfl
       have hbs:=blk_lt BS.out;have hws:=HD.out.size;have XR:=am (show bb=true->sysOk p s1=true/\∃ B1 N1,Held B1 N1 g (turns p s1 [(z:Int)]) [.slice X0 n0 k0,.slice X1 n1 k1,.int .i64 zc,.slice X3 n3 k3] wc/\wo.heap.size<=B1/\gs < B1/\g8 < B1 from fun h=>⟨(hx h).1,_,_,(hx h).2,hws,hbs,blk_lt B8.out⟩);clear hx hbs hws KS;replace VC:=am (Kd.R_below VC.out hb);replace VB:=am (Kd.R_below VB.out hb);replace BP:=am (zb8 BP.out hb);replace BS:=am (zb8 BS.out hb);replace HS:=am (HS.out.grow hb);replace HD:=am (HD.out.grow hb);replace B8:=am (zb8 B8.out hb);clear BPc BSc B8c hb;have BPc:=zc8 BP.out;have BSc:=zc8 BS.out;have B8c:=zc8 B8.out;replace XR:=am (show bb=true->sysOk p s1=true/\∃ B1 N1,Held B1 N1 g (turns p s1 [(z:Int)]) [.slice X0 n0 k0,.slice X1 n1 k1,.int .i64 zc,.slice X3 n3 k3] wc/\wo.heap.size<=B1/\gs < B1/\(g8 < B1\/N1<=g8) from fun h=>by obtain ⟨h1,B1,N1,h2,h3,h4,h5⟩:=XR.out h;exact ⟨h1,B1,N1,h2,h3,h4,.inl h5⟩);refine ba9 (fuel:=3) (n:=2) [6,7] (by kernel_rfl) (fun N _ _ _ _ h=>by cases N <;> exact h) hHeld ?_
       iterate 2 (
        refine stillS_step (v:= ?_) (a':= ?_) rfl (Or.inl ⟨by rfl, ?_⟩) ?_ ?_;rotate_left
        ·intro W s0
         go_simp
         with_reducible rfl
        rotate_left
        ·simp only [Act.put,sA,sZ,sS,i64_w]
         rfl)
       refine stillS_nil ?_;refine pure_ (i:=8) (N:=some 41) (v:=.bool bb) (a':= ?_) #[true,true,true,true,true,true,true,true,true,true,false,false] rfl rfl (by kernel_rfl) (fun _ _ _ h=>h) (Or.inl ⟨by rfl,fun W=>by go_simp<;>rfl⟩) ?_ ?_;rotate_left
       ·simp only [Act.put,sA,sZ,sS,i64_w]
        rfl
       clear hHeld;refine tail_ (fuel:=2) 10 (by kernel_rfl) ?_;simp only [List.drop_succ_cons,List.drop_zero]
       cases bb with
       | false=>
        clear XR
        go_wp2_with (first
        |((with_reducible refine gate_store (t:=27) (p:=8) rfl ?_);refine store_block rfl rfl 27 (.tmp 8) (.tmp 40) rfl rfl rfl B8.out rfl (by kernel_rfl) (aB rfl) ?_;intro wn hbox hg;have B8_:=am hbox;replace VC:=am (R_grownT VC.out B8.out (by decide) hg);replace VB:=am (R_grownT VB.out B8.out (by decide) hg);replace BP:=am (blk_grown BP.out hg (fun he=>N8P.out (by injection he)));replace BS:=am (blk_grown BS.out hg (fun he=>N8S.out (by injection he)));replace HS:=am (HS.out.grown hg (fun q hq=>by cases hq;exact .inr H8.out));replace HD:=am (HD.out.grown hg (fun q hq=>by cases hq;exact L8.out));clear hbox hg B8 B8c BPc BSc;have B8:=B8_;clear B8_;have B8c:=zc8 B8.out;have BPc:=zc8 BP.out;have BSc:=zc8 BS.out))
        go_roundw
        case rel=>exact ⟨k+1,by omega,by go_num,s1,Y0,m0,j0,Y1,m1,j1,yc,Y3,m3,j3,B,N,_,HS,HBB,HGN,HSZ,⟨by have:=HLN.out;omega⟩,BP,BS,VC,VB,HD,⟨by have:=HQ.out;omega⟩⟩
        case measure=>simp [intOf];omega
       | true=>
        have LSO:=am (show wo.heap.size<=gs from Nat.le_trans LWF.out LBSo.out)
        go_wp2_with (first
        |((with_reducible refine gate_store (t:=27) (p:=8) rfl ?_);refine store_block rfl rfl 27 (.tmp 8) (.tmp 40) rfl rfl rfl B8.out rfl (by kernel_rfl) (aB rfl) ?_;intro wn hbox hg;have B8_:=am hbox;replace XR:=am (show true=true->sysOk p s1=true/\∃ B1 N1,Held B1 N1 g (turns p s1 [(z:Int)]) [.slice X0 n0 k0,.slice X1 n1 k1,.int .i64 zc,.slice X3 n3 k3] wn/\wo.heap.size<=B1/\gs < B1/\(g8 < B1\/N1<=g8) from fun h=>by obtain ⟨h1,B1,N1,h2,h3,h4,h5⟩:=XR.out h;exact ⟨h1,B1,N1,h2.grown hg (fun q hq=>by cases hq;exact h5),h3,h4,h5⟩);replace VC:=am (R_grownT VC.out B8.out (by decide) hg);replace VB:=am (R_grownT VB.out B8.out (by decide) hg);replace BP:=am (blk_grown BP.out hg (fun he=>N8P.out (by injection he)));replace BS:=am (blk_grown BS.out hg (fun he=>N8S.out (by injection he)));replace HS:=am (HS.out.grown hg (fun q hq=>by cases hq;exact .inr H8.out));replace HD:=am (HD.out.grown hg (fun q hq=>by cases hq;exact L8.out));clear hbox hg B8 B8c BPc BSc;have B8:=B8_;clear B8_;have B8c:=zc8 B8.out;have BPc:=zc8 BP.out;have BSc:=zc8 BS.out)
        |((with_reducible refine gate_dst (N:=43) rfl ?_);refine wpList_load_mid rfl 27 (.tmp 8) rfl g8 0 rfl _ _ (lC B8.out) Try.underlying27 rfl (by kernel_rfl) ?_)
        |((with_reducible refine gate_store (t:=27) (p:=6) rfl ?_);refine store_block rfl rfl 27 (.tmp 6) (.tmp 43) rfl rfl rfl BS.out rfl (by kernel_rfl) (aB rfl) ?_;intro wn hbox hg;have BS_:=am hbox;replace XR:=am (show true=true->sysOk p s1=true/\∃ B1 N1,Held B1 N1 g (turns p s1 [(z:Int)]) [.slice X0 n0 k0,.slice X1 n1 k1,.int .i64 zc,.slice X3 n3 k3] wn/\wo.heap.size<=B1/\gs < B1/\(g8 < B1\/N1<=g8) from fun h=>by obtain ⟨h1,B1,N1,h2,h3,h4,h5⟩:=XR.out h;exact ⟨h1,B1,N1,h2.grown hg (fun q hq=>by cases hq;exact .inl h4),h3,h4,h5⟩);replace VC:=am (R_grownT VC.out BS.out (by decide) hg);replace VB:=am (R_grownT VB.out BS.out (by decide) hg);replace BP:=am (blk_grown BP.out hg (fun he=>NBPBS.out (by injection he)));replace HD:=am (HD.out.grown hg (fun q hq=>by cases hq;exact LSO.out));clear hbox hg B8 B8c BS BPc BSc HS;have BS:=BS_;clear BS_;have BPc:=zc8 BP.out;have BSc:=zc8 BS.out))
        obtain ⟨ho,B1,N1,hx1,hx2,hx3,-⟩:=XR.out rfl;obtain ⟨t1,t2,t3,t4⟩:=turn_sz (k:=(z:Int)) ho HLN.out.1 (by omega);have TS:=am t1;have TL9:=am (show (turns p s1 [(z:Int)]).log.length<=1000+9*(k+1)/\1<=(turns p s1 [(z:Int)]).tasks.length/\(turns p s1 [(z:Int)]).tasks.length<=2000 by omega);have HX:=am hx1;have HX2:=am hx2;have HX3:=am (show gs < B1\/N1<=gs from .inl hx3);clear t1 t2 t3 t4 hx1 hx2 hx3 ho;go_roundw
        case rel=>exact ⟨k+1,by omega,by go_num,_,X0,n0,k0,X1,n1,k1,zc,X3,n3,k3,B1,N1,_,HX,HX2,HX3,TS,TL9,BP,BS,VC,VB,HD,⟨by have:=HQ.out;omega⟩⟩
        case measure=>simp [intOf];omega
     ·refine box_step (t:=27) (cs:=#[.slice none 0 0,.slice none 0 0,.int .i64 0,.slice none 0 0]) (by rfl) rfl (by intro W;first|(go_simp;done)|(go_simp;rfl)) ?_
      intro g8 hg8 wb hbox hb;refine hK.out _ _ ⟨zb8 hHeld.1 hb,zb8 hHeld.2 hb⟩ (fun hHeld=> ?_);clear hK K;refine norm_ (a':= ?_) ?_ ?_;rotate_left
      ·show Act.put _ (some 8) _=_
       simp only [Act.put,sA,sZ,sS,i64_w];rfl
      have N8S:=am (show gs ≠ g8 from fun he=>by have:=blk_lt BS.out;omega);have N8P:=am (show gp ≠ g8 from fun he=>by have:=blk_lt BP.out;omega);have L8:=am (show wo.heap.size<=g8 by have:=HD.out.size;omega);have H8:=am (show N<=g8 by have:=HS.out.size;omega);have B8:=am hbox;clear hbox hg8;replace VC:=am (Kd.R_below VC.out hb);replace VB:=am (Kd.R_below VB.out hb);replace BP:=am (zb8 BP.out hb);replace BS:=am (zb8 BS.out hb);replace HS:=am (HS.out.grow hb);replace HD:=am (HD.out.grow hb);clear BPc BSc hb;have BPc:=zc8 BP.out;have BSc:=zc8 BS.out;have B8c:=zc8 B8.out;refine on9 (i:=3) (N:=some 37) rfl rfl (by kernel_rfl) (by decide) (fun K hK=> ?_);refine goes_ Try.func49 (by kernel_rfl) rfl #[.pointer (some ⟨g,0,none⟩),.int .i64 7] (by rfl) rfl rfl (by (try simp only [List.map_toArray,List.map_cons,List.map_nil]);first | done | rfl) ?_;refine (pick_rds HD.out HCD.out (by have:=HQ.out;omega) 7).mono ?_;rintro e wn ⟨z,q2,rfl,-,hq2,hd,hk⟩;refine ⟨_,rfl, ?_⟩;refine hK.out _ _ ⟨HD.out.blkK hk hHeld.1 (by decide),HD.out.blkK hk hHeld.2 (by decide)⟩ (fun hHeld=> ?_);clear hK K;refine norm_ (a':= ?_) ?_ ?_;rotate_left
      ·show Act.put _ (some 37) _=_
       simp only [Act.put,sA,sZ,sS,i64_w];rfl
      replace HQ:=am (show 0<=q2/\q2<=8001+(k:Int)+1 from by have:=HQ.out;omega);clear hq2;replace VC:=am (HD.out.rowK hk VC.out (by decide));replace VB:=am (HD.out.rowK hk VB.out (by decide));replace BP:=am (HD.out.blkK hk BP.out (by decide));replace BS:=am (HD.out.blkK hk BS.out (by decide));replace B8:=am (HD.out.blkK hk B8.out (by decide));replace HS:=am (HS.out.keep hk);replace HD:=am hd;clear hk hd BPc BSc B8c;have BPc:=zc8 BP.out;have BSc:=zc8 BS.out;have B8c:=zc8 B8.out;refine on9 (i:=4) (N:=some 38) rfl rfl (by kernel_rfl) (by decide) (fun K hK=> ?_);refine Kd.R_lit_step (w0:=_) (Kd.int .i64) wo.heap.size 3 (by rfl) (N:=38) rfl (xs:=([(z:Int)]:List Int)) (inner:= [.int .i64 z]) (ok:=(fun _=>True)) (okp:=(fun _=>True)) (by go_simp<;>rfl) (Reps.one rfl (Reps.none _ _)) (fun _ _=>trivial) trivial (Below.refl _ _) HD.out.size (by simp) ?_;intro v1 wl hv1 hb1 hg hx9;clear hb1 hx9;obtain ⟨Ak,ck,ev⟩:=Kd.R_slice hv1;subst ev;refine hK.out _ _ ⟨zb8 hHeld.1 (grown_below hg),zb8 hHeld.2 (grown_below hg)⟩ (fun hHeld=> ?_);clear hK K;refine norm_ (a':= ?_) ?_ ?_;rotate_left
      ·show Act.put _ (some 38) _=_
       simp only [Act.put,sA,sZ,sS,i64_w];rfl
      have hb:=grown_below hg;clear hg;replace VC:=am (Kd.R_below VC.out hb);replace VB:=am (Kd.R_below VB.out hb);replace BP:=am (zb8 BP.out hb);replace BS:=am (zb8 BS.out hb);replace HS:=am (HS.out.grow hb);replace HD:=am (HD.out.grow hb);replace B8:=am (zb8 B8.out hb);clear BPc BSc B8c hb;have BPc:=zc8 BP.out;have BSc:=zc8 BS.out;have B8c:=zc8 B8.out;have KS:=am (Kd.R_reads' hv1).2.2;clear hv1;refine on9 (i:=5) (N:=some 39) rfl rfl (by kernel_rfl) (by decide) (fun K hK=> ?_);refine goes_ Try.func55 (by kernel_rfl) rfl #[.agg #[.slice Ac lc cc,.slice Ab lb cb],.agg #[.slice Y0 m0 j0,.slice Y1 m1 j1,.int .i64 yc,.slice Y3 m3 j3],.slice Ak [(z:Int)].length ck] (by rfl) rfl rfl (by (try simp only [List.map_toArray,List.map_cons,List.map_nil]);first | done | rfl) ?_;refine (run_held p _ s1 _ [(z:Int)] Ak ck g _ (prog_K VC.out VB.out) HS.out.now HPZ.out HSZ.out (by have:=HLN.out;omega) KS.out (Nat.lt_of_lt_of_le HD.out.lt HD.out.size)).mono ?_;rintro e wc ⟨bb,X0,X1,X3,n0,k0,n1,k1,n3,k3,zc,rfl,hb,hx⟩;refine ⟨_,rfl, ?_⟩;refine hK.out _ _ ⟨zb8 hHeld.1 hb,zb8 hHeld.2 hb⟩ (fun hHeld=> ?_);clear hK K;refine norm_ (a':= ?_) ?_ ?_;rotate_left
      ·show Act.put _ (some 39) _=_
       simp only [Act.put,sA,sZ,sS,i64_w];rfl
      have hbs:=blk_lt BS.out;have hws:=HD.out.size;have XR:=am (show bb=true->sysOk p s1=true/\∃ B1 N1,Held B1 N1 g (turns p s1 [(z:Int)]) [.slice X0 n0 k0,.slice X1 n1 k1,.int .i64 zc,.slice X3 n3 k3] wc/\wo.heap.size<=B1/\gs < B1/\g8 < B1 from fun h=>⟨(hx h).1,_,_,(hx h).2,hws,hbs,blk_lt B8.out⟩);clear hx hbs hws KS;replace VC:=am (Kd.R_below VC.out hb);replace VB:=am (Kd.R_below VB.out hb);replace BP:=am (zb8 BP.out hb);replace BS:=am (zb8 BS.out hb);replace HS:=am (HS.out.grow hb);replace HD:=am (HD.out.grow hb);replace B8:=am (zb8 B8.out hb);clear BPc BSc B8c hb;have BPc:=zc8 BP.out;have BSc:=zc8 BS.out;have B8c:=zc8 B8.out;replace XR:=am (show bb=true->sysOk p s1=true/\∃ B1 N1,Held B1 N1 g (turns p s1 [(z:Int)]) [.slice X0 n0 k0,.slice X1 n1 k1,.int .i64 zc,.slice X3 n3 k3] wc/\wo.heap.size<=B1/\gs < B1/\(g8 < B1\/N1<=g8) from fun h=>by obtain ⟨h1,B1,N1,h2,h3,h4,h5⟩:=XR.out h;exact ⟨h1,B1,N1,h2,h3,h4,.inl h5⟩);refine ba9 (fuel:=3) (n:=2) [6,7] (by kernel_rfl) (fun N _ _ _ _ h=>by cases N <;> exact h) hHeld ?_
      iterate 2 (
       refine stillS_step (v:= ?_) (a':= ?_) rfl (Or.inl ⟨by rfl, ?_⟩) ?_ ?_;rotate_left
       ·intro W s0
        go_simp
        with_reducible rfl
       rotate_left
       ·simp only [Act.put,sA,sZ,sS,i64_w]
        rfl)
      refine stillS_nil ?_;refine pure_ (i:=8) (N:=some 41) (v:=.bool bb) (a':= ?_) #[true,true,true,true,true,true,true,true,true,true,false,false] rfl rfl (by kernel_rfl) (fun _ _ _ h=>h) (Or.inl ⟨by rfl,fun W=>by go_simp<;>rfl⟩) ?_ ?_;rotate_left
      ·simp only [Act.put,sA,sZ,sS,i64_w]
       rfl
      clear hHeld;refine tail_ (fuel:=2) 10 (by kernel_rfl) ?_;simp only [List.drop_succ_cons,List.drop_zero]
      cases bb with
      | false=>
       clear XR
       go_wp2_with (first
       |((with_reducible refine gate_store (t:=27) (p:=8) rfl ?_);refine store_block rfl rfl 27 (.tmp 8) (.tmp 40) rfl rfl rfl B8.out rfl (by kernel_rfl) (aB rfl) ?_;intro wn hbox hg;have B8_:=am hbox;replace VC:=am (R_grownT VC.out B8.out (by decide) hg);replace VB:=am (R_grownT VB.out B8.out (by decide) hg);replace BP:=am (blk_grown BP.out hg (fun he=>N8P.out (by injection he)));replace BS:=am (blk_grown BS.out hg (fun he=>N8S.out (by injection he)));replace HS:=am (HS.out.grown hg (fun q hq=>by cases hq;exact .inr H8.out));replace HD:=am (HD.out.grown hg (fun q hq=>by cases hq;exact L8.out));clear hbox hg B8 B8c BPc BSc;have B8:=B8_;clear B8_;have B8c:=zc8 B8.out;have BPc:=zc8 BP.out;have BSc:=zc8 BS.out))
       go_roundw
       case rel=>exact ⟨k+1,by omega,by go_num,s1,Y0,m0,j0,Y1,m1,j1,yc,Y3,m3,j3,B,N,_,HS,HBB,HGN,HSZ,⟨by have:=HLN.out;omega⟩,BP,BS,VC,VB,HD,⟨by have:=HQ.out;omega⟩⟩
       case measure=>simp [intOf];omega
      | true=>
       have LSO:=am (show wo.heap.size<=gs from Nat.le_trans LWF.out LBSo.out)
       go_wp2_with (first
       |((with_reducible refine gate_store (t:=27) (p:=8) rfl ?_);refine store_block rfl rfl 27 (.tmp 8) (.tmp 40) rfl rfl rfl B8.out rfl (by kernel_rfl) (aB rfl) ?_;intro wn hbox hg;have B8_:=am hbox;replace XR:=am (show true=true->sysOk p s1=true/\∃ B1 N1,Held B1 N1 g (turns p s1 [(z:Int)]) [.slice X0 n0 k0,.slice X1 n1 k1,.int .i64 zc,.slice X3 n3 k3] wn/\wo.heap.size<=B1/\gs < B1/\(g8 < B1\/N1<=g8) from fun h=>by obtain ⟨h1,B1,N1,h2,h3,h4,h5⟩:=XR.out h;exact ⟨h1,B1,N1,h2.grown hg (fun q hq=>by cases hq;exact h5),h3,h4,h5⟩);replace VC:=am (R_grownT VC.out B8.out (by decide) hg);replace VB:=am (R_grownT VB.out B8.out (by decide) hg);replace BP:=am (blk_grown BP.out hg (fun he=>N8P.out (by injection he)));replace BS:=am (blk_grown BS.out hg (fun he=>N8S.out (by injection he)));replace HS:=am (HS.out.grown hg (fun q hq=>by cases hq;exact .inr H8.out));replace HD:=am (HD.out.grown hg (fun q hq=>by cases hq;exact L8.out));clear hbox hg B8 B8c BPc BSc;have B8:=B8_;clear B8_;have B8c:=zc8 B8.out;have BPc:=zc8 BP.out;have BSc:=zc8 BS.out)
       |((with_reducible refine gate_dst (N:=43) rfl ?_);refine wpList_load_mid rfl 27 (.tmp 8) rfl g8 0 rfl _ _ (lC B8.out) Try.underlying27 rfl (by kernel_rfl) ?_)
       |((with_reducible refine gate_store (t:=27) (p:=6) rfl ?_);refine store_block rfl rfl 27 (.tmp 6) (.tmp 43) rfl rfl rfl BS.out rfl (by kernel_rfl) (aB rfl) ?_;intro wn hbox hg;have BS_:=am hbox;replace XR:=am (show true=true->sysOk p s1=true/\∃ B1 N1,Held B1 N1 g (turns p s1 [(z:Int)]) [.slice X0 n0 k0,.slice X1 n1 k1,.int .i64 zc,.slice X3 n3 k3] wn/\wo.heap.size<=B1/\gs < B1/\(g8 < B1\/N1<=g8) from fun h=>by obtain ⟨h1,B1,N1,h2,h3,h4,h5⟩:=XR.out h;exact ⟨h1,B1,N1,h2.grown hg (fun q hq=>by cases hq;exact .inl h4),h3,h4,h5⟩);replace VC:=am (R_grownT VC.out BS.out (by decide) hg);replace VB:=am (R_grownT VB.out BS.out (by decide) hg);replace BP:=am (blk_grown BP.out hg (fun he=>NBPBS.out (by injection he)));replace HD:=am (HD.out.grown hg (fun q hq=>by cases hq;exact LSO.out));clear hbox hg B8 B8c BS BPc BSc HS;have BS:=BS_;clear BS_;have BPc:=zc8 BP.out;have BSc:=zc8 BS.out))
       obtain ⟨ho,B1,N1,hx1,hx2,hx3,-⟩:=XR.out rfl;obtain ⟨t1,t2,t3,t4⟩:=turn_sz (k:=(z:Int)) ho HLN.out.1 (by omega);have TS:=am t1;have TL9:=am (show (turns p s1 [(z:Int)]).log.length<=1000+9*(k+1)/\1<=(turns p s1 [(z:Int)]).tasks.length/\(turns p s1 [(z:Int)]).tasks.length<=2000 by omega);have HX:=am hx1;have HX2:=am hx2;have HX3:=am (show gs < B1\/N1<=gs from .inl hx3);clear t1 t2 t3 t4 hx1 hx2 hx3 ho;go_roundw
       case rel=>exact ⟨k+1,by omega,by go_num,_,X0,n0,k0,X1,n1,k1,zc,X3,n3,k3,B1,N1,_,HX,HX2,HX3,TS,TL9,BP,BS,VC,VB,HD,⟨by have:=HQ.out;omega⟩⟩
       case measure=>simp [intOf];omega
    ·have yz:(((heldIn s1.cells).length:Int) == 0)=false:=by rw [beq_eq_false_iff_ne];exact hz
     clear hz
     go_wp2_with (first
     |((with_reducible refine gate_dst (N:=26) rfl ?_);refine wpList_load_mid rfl 27 (.tmp 6) rfl gs 0 rfl _ _ (lC BS.out) Try.underlying27 rfl (by kernel_rfl) ?_)
     |(go_at_call 54;refine (specHeld_calls s1 _ _ HS.out.now HSZ.out.cells).mono ?_;rintro e wn ⟨v,rfl,hv,hb⟩;obtain ⟨Av,cv,ev,-,-⟩:=Kd.R_reads hv;subst ev;clear hv;replace VC:=am (Kd.R_below VC.out hb);replace VB:=am (Kd.R_below VB.out hb);replace BP:=am (zb8 BP.out hb);replace BS:=am (zb8 BS.out hb);replace HS:=am (HS.out.grow hb);replace HD:=am (HD.out.grow hb);clear BPc BSc hb;have BPc:=zc8 BP.out;have BSc:=zc8 BS.out))
     refine st9 (n:=4) (S:=fun W=>W.heap[gp]? = some (.cells #[.slice Ac lc cc,.slice Ab lb cb] 48 (0,0))/\W.heap[gs]? = some (.cells #[.slice Y0 m0 j0,.slice Y1 m1 j1,.int .i64 yc,.slice Y3 m3 j3] 27 (0,0))) (ds:= [3]) (by kernel_rfl) rfl ⟨blk_drew BP.out,blk_drew BS.out⟩ (fun hHeld=> ?_);have hb:=below_drew (Below.refl wn.heap.size wn);generalize wn.drew=w7 at hb hHeld ⊢;replace VC:=am (Kd.R_below VC.out hb);replace VB:=am (Kd.R_below VB.out hb);replace BP:=am (zb8 BP.out hb);replace BS:=am (zb8 BS.out hb);replace HS:=am (HS.out.grow hb);replace HD:=am (HD.out.grow hb);clear BPc BSc hb;have BPc:=zc8 BP.out;have BSc:=zc8 BS.out;refine ba9 (fuel:=3) (n:=1) [0] (by kernel_rfl) (fun N _ _ _ _ h=>by cases N <;> exact h) hHeld ?_
     iterate 1 (
      refine stillS_step (v:= ?_) (a':= ?_) rfl (Or.inl ⟨by rfl, ?_⟩) ?_ ?_;rotate_left
      ·rintro W ⟨s0,s9⟩
       have t0:=zc8 s0;have t1:=zc8 s9;clear s0 s9;go_simp;with_reducible rfl
      rotate_left
      ·simp only [Act.put,sA,sZ,sS,i64_w]
       rfl)
     refine stillS_nil ?_;replace BZ:=am (zb8 BZ.out HD.out.below);replace BY:=am (zb8 BY.out HD.out.below);have HBW:=am (below_step HB.out HD.out.below);clear HD;refine tw9 (i:=1) (j:=2) (Ni:=some 45) (Nj:=none) rfl rfl rfl rfl (by kernel_rfl) (by decide) (by decide) (fun K hK=> ?_) (fun K hK=> ?_)
     ·have t1:=zc8 hHeld.2
      refine value_ (v:=.agg #[.slice Y0 m0 j0,.slice Y1 m1 j1,.int .i64 yc,.slice Y3 m3 j3]) (w1:=_) (by rfl) rfl (by go_simp<;>rfl) ?_;clear t1;refine hK.out _ _ hHeld (fun hHeld=> ?_);clear hK K;refine norm_ (a':= ?_) ?_ ?_;rotate_left
      ·show Act.put _ (some 45) _=_
       simp only [Act.put,sA,sZ,sS,i64_w];rfl
      refine on9 (i:=2) (N:=none) rfl rfl (by kernel_rfl) (by decide) (fun K hK=> ?_);obtain ⟨hbox,hg⟩:=setCells_blk (cs:= [.slice Ac lc cc,.slice Ab lb cb]) BZ.out rfl;rw [if_pos (by rfl)];refine store_wp rfl 48 (.tmp 2) (.tmp 44) rfl rfl rfl BZ.out rfl (by kernel_rfl) (aB rfl) ?_;generalize World.setCells _ gz 0 [.slice Ac lc cc,.slice Ab lb cb]=wy at hbox hg ⊢;have NPZ:gp ≠ gz:=fun he=>by have h1:=LBPo.out;have h2:=LZO.out;omega
      have NSZ:gs ≠ gz:=fun he=>by have h1:=LBSo.out;have h2:=LZO.out;have h3:=LGF.out;omega
      refine hK.out _ _ ⟨blk_grown hHeld.1 hg (fun he=>NPZ (by injection he)),blk_grown hHeld.2 hg (fun he=>NSZ (by injection he))⟩ (fun hHeld=> ?_);clear hK K;have BZ_:=am hbox;replace VC:=am (R_grownT VC.out BZ.out (by decide) hg);replace VB:=am (R_grownT VB.out BZ.out (by decide) hg);replace BY:=am (blk_grown BY.out hg (fun he=>NZY.out (by injection he with he;exact he.symm)));replace HS:=am (HS.out.grown hg (fun z hz=>by cases hz;exact .inl (Nat.lt_of_lt_of_le LZO.out HBB.out)));replace HBW:=am (pw_below_grown HBW.out _ HBW.out.size hg (fun z hz=>by cases hz;exact LZ.out));clear hbox hg BZ NPZ NSZ;have BZ:=BZ_;clear BZ_;clear hHeld;refine tail_ (fuel:=1) 3 (by kernel_rfl) ?_;simp only [List.drop_succ_cons,List.drop_zero]
      go_wp2_with (first
      |((with_reducible refine gate_store (t:=27) (p:=3) rfl ?_);refine store_block rfl rfl 27 (.tmp 3) (.tmp 45) rfl rfl rfl BY.out rfl (by kernel_rfl) (aB rfl) ?_;intro wn hbox hg;have BY_:=am hbox;replace VC:=am (R_grownT VC.out BY.out (by decide) hg);replace VB:=am (R_grownT VB.out BY.out (by decide) hg);replace BZ:=am (blk_grown BZ.out hg (fun he=>NZY.out (by injection he)));replace HS:=am (HS.out.grown hg (fun z hz=>by cases hz;exact .inl (Nat.lt_of_lt_of_le LYO.out HBB.out)));replace HBW:=am (pw_below_grown HBW.out _ HBW.out.size hg (fun z hz=>by cases hz;exact LY.out));clear hbox hg BY;have BY:=BY_;clear BY_))
      refine bodyPost_ret (results_list (rs:= [.cell 2 48,.cell 3 27]) rfl (by simp) (.cell gz 48 #[.slice Ac lc cc,.slice Ab lb cb] (0,0) _ rfl BZ.out Try.underlying48 rfl (by kernel_rfl) (.cell gy 27 #[.slice Y0 m0 j0,.slice Y1 m1 j1,.int .i64 yc,.slice Y3 m3 j3] (0,0) _ rfl BY.out Try.underlying27 rfl (by kernel_rfl) .nil))) rfl ?_;exact ⟨_,_,_,_,_,_,_,_,_,_,_,_,_,_,_,_,_,_,rfl,prog_K VC.out VB.out,HPZ.out,HS.out.now,HSZ.out,HLN.out.2.1,HLN.out.2.2,by have:=HLN.out.1;omega,HBW.out⟩
     ·obtain ⟨hbox,hg⟩:=setCells_blk (cs:= [.slice Ac lc cc,.slice Ab lb cb]) BZ.out rfl
      rw [if_pos (by rfl)];refine store_wp rfl 48 (.tmp 2) (.tmp 44) rfl rfl rfl BZ.out rfl (by kernel_rfl) (aB rfl) ?_;generalize World.setCells _ gz 0 [.slice Ac lc cc,.slice Ab lb cb]=wy at hbox hg ⊢;have NPZ:gp ≠ gz:=fun he=>by have h1:=LBPo.out;have h2:=LZO.out;omega
      have NSZ:gs ≠ gz:=fun he=>by have h1:=LBSo.out;have h2:=LZO.out;have h3:=LGF.out;omega
      refine hK.out _ _ ⟨blk_grown hHeld.1 hg (fun he=>NPZ (by injection he)),blk_grown hHeld.2 hg (fun he=>NSZ (by injection he))⟩ (fun hHeld=> ?_);clear hK K;have BZ_:=am hbox;replace VC:=am (R_grownT VC.out BZ.out (by decide) hg);replace VB:=am (R_grownT VB.out BZ.out (by decide) hg);replace BY:=am (blk_grown BY.out hg (fun he=>NZY.out (by injection he with he;exact he.symm)));replace HS:=am (HS.out.grown hg (fun z hz=>by cases hz;exact .inl (Nat.lt_of_lt_of_le LZO.out HBB.out)));replace HBW:=am (pw_below_grown HBW.out _ HBW.out.size hg (fun z hz=>by cases hz;exact LZ.out));clear hbox hg BZ NPZ NSZ;have BZ:=BZ_;clear BZ_;refine on9 (i:=1) (N:=some 45) rfl rfl (by kernel_rfl) (by decide) (fun K hK=> ?_);have t1:=zc8 hHeld.2;refine value_ (v:=.agg #[.slice Y0 m0 j0,.slice Y1 m1 j1,.int .i64 yc,.slice Y3 m3 j3]) (w1:=_) (by rfl) rfl (by go_simp<;>rfl) ?_;clear t1;refine hK.out _ _ hHeld (fun hHeld=> ?_);clear hK K;refine norm_ (a':= ?_) ?_ ?_;rotate_left
      ·show Act.put _ (some 45) _=_
       simp only [Act.put,sA,sZ,sS,i64_w];rfl
      clear hHeld;refine tail_ (fuel:=1) 3 (by kernel_rfl) ?_;simp only [List.drop_succ_cons,List.drop_zero]
      go_wp2_with (first
      |((with_reducible refine gate_store (t:=27) (p:=3) rfl ?_);refine store_block rfl rfl 27 (.tmp 3) (.tmp 45) rfl rfl rfl BY.out rfl (by kernel_rfl) (aB rfl) ?_;intro wn hbox hg;have BY_:=am hbox;replace VC:=am (R_grownT VC.out BY.out (by decide) hg);replace VB:=am (R_grownT VB.out BY.out (by decide) hg);replace BZ:=am (blk_grown BZ.out hg (fun he=>NZY.out (by injection he)));replace HS:=am (HS.out.grown hg (fun z hz=>by cases hz;exact .inl (Nat.lt_of_lt_of_le LYO.out HBB.out)));replace HBW:=am (pw_below_grown HBW.out _ HBW.out.size hg (fun z hz=>by cases hz;exact LY.out));clear hbox hg BY;have BY:=BY_;clear BY_))
      refine bodyPost_ret (results_list (rs:= [.cell 2 48,.cell 3 27]) rfl (by simp) (.cell gz 48 #[.slice Ac lc cc,.slice Ab lb cb] (0,0) _ rfl BZ.out Try.underlying48 rfl (by kernel_rfl) (.cell gy 27 #[.slice Y0 m0 j0,.slice Y1 m1 j1,.int .i64 yc,.slice Y3 m3 j3] (0,0) _ rfl BY.out Try.underlying27 rfl (by kernel_rfl) .nil))) rfl ?_;exact ⟨_,_,_,_,_,_,_,_,_,_,_,_,_,_,_,_,_,_,rfl,prog_K VC.out VB.out,HPZ.out,HS.out.now,HSZ.out,HLN.out.2.1,HLN.out.2.2,by have:=HLN.out.1;omega,HBW.out⟩
   ·have yk:decide ((k:Int) < 80)=false:=decide_eq_false hk9
    go_wp2;refine st9 (n:=4) (S:=fun W=>W.heap[gp]? = some (.cells #[.slice Ac lc cc,.slice Ab lb cb] 48 (0,0))/\W.heap[gs]? = some (.cells #[.slice Y0 m0 j0,.slice Y1 m1 j1,.int .i64 yc,.slice Y3 m3 j3] 27 (0,0))) (ds:= [3]) (by kernel_rfl) rfl ⟨blk_drew BP.out,blk_drew BS.out⟩ (fun hHeld=> ?_);have hb:=below_drew (Below.refl wr.heap.size wr);generalize wr.drew=w7 at hb hHeld ⊢;replace VC:=am (Kd.R_below VC.out hb);replace VB:=am (Kd.R_below VB.out hb);replace BP:=am (zb8 BP.out hb);replace BS:=am (zb8 BS.out hb);replace HS:=am (HS.out.grow hb);replace HD:=am (HD.out.grow hb);clear BPc BSc hb;have BPc:=zc8 BP.out;have BSc:=zc8 BS.out;refine ba9 (fuel:=3) (n:=1) [0] (by kernel_rfl) (fun N _ _ _ _ h=>by cases N <;> exact h) hHeld ?_
    iterate 1 (
     refine stillS_step (v:= ?_) (a':= ?_) rfl (Or.inl ⟨by rfl, ?_⟩) ?_ ?_;rotate_left
     ·rintro W ⟨s0,s9⟩
      have t0:=zc8 s0;have t1:=zc8 s9;clear s0 s9;go_simp;with_reducible rfl
     rotate_left
     ·simp only [Act.put,sA,sZ,sS,i64_w]
      rfl)
    refine stillS_nil ?_;replace BZ:=am (zb8 BZ.out HD.out.below);replace BY:=am (zb8 BY.out HD.out.below);have HBW:=am (below_step HB.out HD.out.below);clear HD;refine tw9 (i:=1) (j:=2) (Ni:=some 45) (Nj:=none) rfl rfl rfl rfl (by kernel_rfl) (by decide) (by decide) (fun K hK=> ?_) (fun K hK=> ?_)
    ·have t1:=zc8 hHeld.2
     refine value_ (v:=.agg #[.slice Y0 m0 j0,.slice Y1 m1 j1,.int .i64 yc,.slice Y3 m3 j3]) (w1:=_) (by rfl) rfl (by go_simp<;>rfl) ?_;clear t1;refine hK.out _ _ hHeld (fun hHeld=> ?_);clear hK K;refine norm_ (a':= ?_) ?_ ?_;rotate_left
     ·show Act.put _ (some 45) _=_
      simp only [Act.put,sA,sZ,sS,i64_w];rfl
     refine on9 (i:=2) (N:=none) rfl rfl (by kernel_rfl) (by decide) (fun K hK=> ?_);obtain ⟨hbox,hg⟩:=setCells_blk (cs:= [.slice Ac lc cc,.slice Ab lb cb]) BZ.out rfl;rw [if_pos (by rfl)];refine store_wp rfl 48 (.tmp 2) (.tmp 44) rfl rfl rfl BZ.out rfl (by kernel_rfl) (aB rfl) ?_;generalize World.setCells _ gz 0 [.slice Ac lc cc,.slice Ab lb cb]=wy at hbox hg ⊢;have NPZ:gp ≠ gz:=fun he=>by have h1:=LBPo.out;have h2:=LZO.out;omega
     have NSZ:gs ≠ gz:=fun he=>by have h1:=LBSo.out;have h2:=LZO.out;have h3:=LGF.out;omega
     refine hK.out _ _ ⟨blk_grown hHeld.1 hg (fun he=>NPZ (by injection he)),blk_grown hHeld.2 hg (fun he=>NSZ (by injection he))⟩ (fun hHeld=> ?_);clear hK K;have BZ_:=am hbox;replace VC:=am (R_grownT VC.out BZ.out (by decide) hg);replace VB:=am (R_grownT VB.out BZ.out (by decide) hg);replace BY:=am (blk_grown BY.out hg (fun he=>NZY.out (by injection he with he;exact he.symm)));replace HS:=am (HS.out.grown hg (fun z hz=>by cases hz;exact .inl (Nat.lt_of_lt_of_le LZO.out HBB.out)));replace HBW:=am (pw_below_grown HBW.out _ HBW.out.size hg (fun z hz=>by cases hz;exact LZ.out));clear hbox hg BZ NPZ NSZ;have BZ:=BZ_;clear BZ_;clear hHeld;refine tail_ (fuel:=1) 3 (by kernel_rfl) ?_;simp only [List.drop_succ_cons,List.drop_zero]
     go_wp2_with (first
     |((with_reducible refine gate_store (t:=27) (p:=3) rfl ?_);refine store_block rfl rfl 27 (.tmp 3) (.tmp 45) rfl rfl rfl BY.out rfl (by kernel_rfl) (aB rfl) ?_;intro wn hbox hg;have BY_:=am hbox;replace VC:=am (R_grownT VC.out BY.out (by decide) hg);replace VB:=am (R_grownT VB.out BY.out (by decide) hg);replace BZ:=am (blk_grown BZ.out hg (fun he=>NZY.out (by injection he)));replace HS:=am (HS.out.grown hg (fun z hz=>by cases hz;exact .inl (Nat.lt_of_lt_of_le LYO.out HBB.out)));replace HBW:=am (pw_below_grown HBW.out _ HBW.out.size hg (fun z hz=>by cases hz;exact LY.out));clear hbox hg BY;have BY:=BY_;clear BY_))
     refine bodyPost_ret (results_list (rs:= [.cell 2 48,.cell 3 27]) rfl (by simp) (.cell gz 48 #[.slice Ac lc cc,.slice Ab lb cb] (0,0) _ rfl BZ.out Try.underlying48 rfl (by kernel_rfl) (.cell gy 27 #[.slice Y0 m0 j0,.slice Y1 m1 j1,.int .i64 yc,.slice Y3 m3 j3] (0,0) _ rfl BY.out Try.underlying27 rfl (by kernel_rfl) .nil))) rfl ?_;exact ⟨_,_,_,_,_,_,_,_,_,_,_,_,_,_,_,_,_,_,rfl,prog_K VC.out VB.out,HPZ.out,HS.out.now,HSZ.out,HLN.out.2.1,HLN.out.2.2,by have:=HLN.out.1;omega,HBW.out⟩
    ·obtain ⟨hbox,hg⟩:=setCells_blk (cs:= [.slice Ac lc cc,.slice Ab lb cb]) BZ.out rfl
     rw [if_pos (by rfl)];refine store_wp rfl 48 (.tmp 2) (.tmp 44) rfl rfl rfl BZ.out rfl (by kernel_rfl) (aB rfl) ?_;generalize World.setCells _ gz 0 [.slice Ac lc cc,.slice Ab lb cb]=wy at hbox hg ⊢;have NPZ:gp ≠ gz:=fun he=>by have h1:=LBPo.out;have h2:=LZO.out;omega
     have NSZ:gs ≠ gz:=fun he=>by have h1:=LBSo.out;have h2:=LZO.out;have h3:=LGF.out;omega
     refine hK.out _ _ ⟨blk_grown hHeld.1 hg (fun he=>NPZ (by injection he)),blk_grown hHeld.2 hg (fun he=>NSZ (by injection he))⟩ (fun hHeld=> ?_);clear hK K;have BZ_:=am hbox;replace VC:=am (R_grownT VC.out BZ.out (by decide) hg);replace VB:=am (R_grownT VB.out BZ.out (by decide) hg);replace BY:=am (blk_grown BY.out hg (fun he=>NZY.out (by injection he with he;exact he.symm)));replace HS:=am (HS.out.grown hg (fun z hz=>by cases hz;exact .inl (Nat.lt_of_lt_of_le LZO.out HBB.out)));replace HBW:=am (pw_below_grown HBW.out _ HBW.out.size hg (fun z hz=>by cases hz;exact LZ.out));clear hbox hg BZ NPZ NSZ;have BZ:=BZ_;clear BZ_;refine on9 (i:=1) (N:=some 45) rfl rfl (by kernel_rfl) (by decide) (fun K hK=> ?_);have t1:=zc8 hHeld.2;refine value_ (v:=.agg #[.slice Y0 m0 j0,.slice Y1 m1 j1,.int .i64 yc,.slice Y3 m3 j3]) (w1:=_) (by rfl) rfl (by go_simp<;>rfl) ?_;clear t1;refine hK.out _ _ hHeld (fun hHeld=> ?_);clear hK K;refine norm_ (a':= ?_) ?_ ?_;rotate_left
     ·show Act.put _ (some 45) _=_
      simp only [Act.put,sA,sZ,sS,i64_w];rfl
     clear hHeld;refine tail_ (fuel:=1) 3 (by kernel_rfl) ?_;simp only [List.drop_succ_cons,List.drop_zero]
     go_wp2_with (first
     |((with_reducible refine gate_store (t:=27) (p:=3) rfl ?_);refine store_block rfl rfl 27 (.tmp 3) (.tmp 45) rfl rfl rfl BY.out rfl (by kernel_rfl) (aB rfl) ?_;intro wn hbox hg;have BY_:=am hbox;replace VC:=am (R_grownT VC.out BY.out (by decide) hg);replace VB:=am (R_grownT VB.out BY.out (by decide) hg);replace BZ:=am (blk_grown BZ.out hg (fun he=>NZY.out (by injection he)));replace HS:=am (HS.out.grown hg (fun z hz=>by cases hz;exact .inl (Nat.lt_of_lt_of_le LYO.out HBB.out)));replace HBW:=am (pw_below_grown HBW.out _ HBW.out.size hg (fun z hz=>by cases hz;exact LY.out));clear hbox hg BY;have BY:=BY_;clear BY_))
     refine bodyPost_ret (results_list (rs:= [.cell 2 48,.cell 3 27]) rfl (by simp) (.cell gz 48 #[.slice Ac lc cc,.slice Ab lb cb] (0,0) _ rfl BZ.out Try.underlying48 rfl (by kernel_rfl) (.cell gy 27 #[.slice Y0 m0 j0,.slice Y1 m1 j1,.int .i64 yc,.slice Y3 m3 j3] (0,0) _ rfl BY.out Try.underlying27 rfl (by kernel_rfl) .nil))) rfl ?_;exact ⟨_,_,_,_,_,_,_,_,_,_,_,_,_,_,_,_,_,_,rfl,prog_K VC.out VB.out,HPZ.out,HS.out.now,HSZ.out,HLN.out.2.1,HLN.out.2.2,by have:=HLN.out.1;omega,HBW.out⟩
end Go.Proofs.Ytimamoimphjakaa.Eq
