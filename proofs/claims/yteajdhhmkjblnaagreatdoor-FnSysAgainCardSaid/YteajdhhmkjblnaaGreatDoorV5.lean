import Derived.Test.YteajdhhmkjblnaaGreatDoorV4
import Derived.LaidEql
import Derived.Lib.SliceRun
import Derived.RowKitTokens
import Derived.Stop.Asserts
set_option maxHeartbeats 8000000
set_option maxRecDepth 100000
set_option linter.unusedVariables false
set_option linter.unusedSimpArgs false
namespace Go.Proofs.YteajdhhmkjblnaaGreatDoor.Eq
open Go.RowKit Go.Proofs.YteajdhhmkjblnaaGreatDoorW.PrintWords Go.Proofs.YteajdhhmkjblnaaGreatDoorW.PrintLast Go.Proofs.YteajdhhmkjblnaaGreatDoorW.PrintMore
def xr (B:Nat) (own:Nat->Nat) (W:World) (s:Sys) (c6:List Value):Prop:=∀ dY:World,W.heap.size<=dY.heap.size->(∀ k,B<=k->own k ≠ 0->k < W.heap.size->dY.heap[k]? = W.heap[k]?)->cS.K dY s c6
theorem xr.move {B:Nat} {own:Nat->Nat} {W W1:World} {s:Sys} {c6:List Value} (h:xr B own W s c6) (hs:W.heap.size<=W1.heap.size) (hm:∀ k,own k ≠ 0->k < W.heap.size->W1.heap[k]? = W.heap[k]?):xr B own W1 s c6:=
 fun dY ar pG=>h dY (Nat.le_trans hs ar) (fun k dt aT ak=>(pG k dt aT (Nat.lt_of_lt_of_le ak hs)).trans (hm k aT ak))
theorem xr.grow {B:Nat} {own:Nat->Nat} {W W1:World} {s:Sys} {c6:List Value} (h:xr B own W s c6) (I:Below W.heap.size W W1):xr B own W1 s c6:=h.move I.size (fun k _ ak=>I.block k ak)
theorem b8.QE {B:Nat} {own:Nat->Nat} {W:World} {s:Sys} {aG aZ aP:Value} (h:b8 B own s aG aZ aP W) {k:Nat} (J:own k ≠ 0):B<=k:=Nat.le_of_not_lt fun aJ=>J (h.low k aJ)
theorem b8.xt {B:Nat} {own:Nat->Nat} {W:World} {s:Sys} {aG aZ aP:Value} (h:b8 B own s aG aZ aP W):xr B own W s [aG,aZ,.int .i64 s.clock,aP]:=fun dY hs hm=>(h.move hs (fun k aT ak=>hm k (h.QE aT) aT ak)).read
structure HP (B N g:Nat) (s:Sys) (c6:List Value) (W:World):Prop where
 size:N<=W.heap.size
 read:∀ dY:World,N<=dY.heap.size->(∀ k,B<=k->k < N->k ≠ g->dY.heap[k]? = W.heap[k]?)->cS.K dY s c6
section
variable {B N g:Nat} {s:Sys} {c6:List Value} {W W1:World}
theorem HP.now (h:HP B N g s c6 W):cS.K W s c6:=h.read W h.size (fun _ _ _ _=>rfl)
end
theorem Gk {s:Sys} {k:Nat} {t:Task} (h:oC s) (J:k < s.tasks.length) (aA:t.aL=(R s k).aL) (dU:t.bE=(R s k).bE) (eb:t.reads=(R s k).reads) (e7:t.ai=(R s k).ai):oC (b0 s k t) where
 cells:=h.cells
 tasks:=by rw [c5];exact h.tasks
 log:=h.log
 kX:=h.kX
 task:=fun i aa=>by
  rw [c5] at aa;show (R (b0 s k t) i).aL.length<=_/\(R (b0 s k t) i).bE.length<=_/\(R (b0 s k t) i).reads.length<=_/\(R (b0 s k t) i).ai.length<=_;by_cases he:i=k
  ·subst he
   rw [cD J,aA,dU,eb,e7];exact h.task i J
  ·rw [oH he]
   exact h.task i aa
def Y7 (w0 w:World) (g:Nat) (b:List Int) (bz:Int) (e:Ending) (af:World):Prop:=∃ (p:Prog) (s:Sys) (aG a8:Value) (c6:List Value) (q:Int),e= .returned (.tuple #[.agg #[aG,a8],.agg c6.toArray])/\k2 p=true/\jI p/\(Kd.int .i64).aC 3 af w.heap.size (fun _=>True) aG p.cells/\(Kd.slice 55 kAct).aC 48 af w.heap.size (fun _=>True) a8 p.an/\HP w.heap.size af.heap.size g s c6 af/\oC s/\s.log.length+s.tasks.length<=1000/\1<=s.tasks.length/\ee w0 w g b q af/\bz<=q/\q<=bz+8000
theorem abH (w0 w:World) (g:Nat) (b:List Int) (bz:Int) (j4:Rd.IsS101 w0 w g b bz) (dt:Below w0.heap.size w0 w) (ay:Rd.Code b) (aq:0<=bz) (h1:bz<=500000):
  Calls Tryz.prog 39 #[.pointer (some ⟨g,0,none⟩)] w fun e af=>Y7 w0 w g b bz e af:=by
 have ag:=am (ee.start j4 dt aq);have cl:=am ay;have lH:=am h1;have cd:=am (show bz<=bz/\bz<=bz from ⟨Int.le_refl _,Int.le_refl _⟩);clear j4 dt ay aq h1;go_enter Tryz.func39,Tryz.ntmps39
 go_wp2_with (first
 |((with_reducible refine aQ 2 ?_);refine b6 26 ?_;intro fp e5 wn ad I;have h':=am ad;have s8:=am (show w.heap.size<=fp from Nat.le_trans ag.1.size (Nat.le_of_eq e5.symm));clear ad e5;replace ag:=am (ag.1.grow I);clear I;have ax:=h';clear h';have bu:=ae ax)
 |((with_reducible refine aQ 3 ?_);refine b6 31 ?_;intro hL e5 wn ad I;have mv:=am ad;have As:=am (show w.heap.size<=hL from Nat.le_trans ag.1.size (Nat.le_of_eq e5.symm));have XX:=am (show fp ≠ hL from fun he=>by have:=dK ax.1;omega);clear ad e5;replace ax:=aV ax I;replace ag:=am (ag.1.grow I);clear bu;have bu:=ae ax;clear I;have bj:=mv;clear mv;have cM:=ae bj)
 |(go_at_call 42;refine (abG w0 _ g b bz ag.1.rd ag.1.below cl.1 ag.1.pos lH.1).mono ?_;rintro e wn ⟨p,bs,aG,a8,tF,st,I3,own,bY,MT,rfl,c7,cP,bQ,r5,r6,hinv,cz,mj,iA,aO,fk,nz⟩;have kN:=ag.1.size;have J:=aO.lo;replace cd:=am (show bz<=bY/\bY<=bz+7000 from ⟨fk,nz⟩);have im:=am (iA.low g (Nat.lt_of_lt_of_le ag.1.lt kN));have kl:=am (iA.low fp (dK ax.1));have km:=am (iA.low hL (dK bj.1));replace aO:=ag.1.next aO.rd aO.below J aO.pos;clear fk nz;replace ax:=am (ag.1.dH J ax.1 (by decide));replace bj:=am (ag.1.dH J bj.1 (by decide));replace ag:=am (aO);clear bu cM;have bu:=ae ax;have cM:=ae bj;clear J aO;obtain ⟨A,dW,c'⟩:=Kd.bt r5;subst c';obtain ⟨B,fE,c'⟩:=Kd.bt r6;subst c';obtain ⟨jB,i',b1⟩:=Kd.bt iA.cells;obtain ⟨ma,ut,eg⟩:=Kd.bt iA.tasks;obtain ⟨jq,ul,eL⟩:=Kd.bt iA.log;rw [fH] at eg;subst b1 eg eL;obtain ⟨eo,eN⟩:∃ z:Nat,z=p.cells.length:=⟨_,rfl⟩;obtain ⟨eX,h4⟩:∃ z:Nat,z=p.an.length:=⟨_,rfl⟩;rw [<-eN] at r5;rw [<-h4] at r6;rw [<-eN,<-h4];have bc:=am (Kd.ft r5 kN);have bq:=am (Kd.ft r6 kN);have mJ:=am c7;have cK:=am cP;have nZ:=am (show 1<=bs.cells.length by rw [hinv.cells];exact bQ);have iB:=am hinv;have eD:=am cz;have lZ:=am mj;have bd:=am (iA.lower kN);clear r5 r6 kN eN h4 c7 cP bQ hinv cz mj iA)
 |((with_reducible refine aQ 4 ?_);refine b6 26 ?_;intro de e5 wn ad I;have vh:=am ad;have Ke:=am (show w.heap.size<=de from Nat.le_trans ag.1.size (Nat.le_of_eq e5.symm));have qn:=am (show fp ≠ de from fun he=>by have:=dK ax.1;omega);have mc:=am (bd.1.dk de (Nat.le_of_eq e5.symm));replace bd:=am (bd.1.grow I);clear ad e5;replace bc:=c9 bc I;replace bq:=c9 bq I;replace ax:=aV ax I;replace bj:=aV bj I;replace ag:=am (ag.1.grow I);clear bu cM;have bu:=ae ax;have cM:=ae bj;clear I;have aj:=vh;clear vh;have a5:=ae aj)
 |((with_reducible refine aQ 5 ?_);refine b6 31 ?_;intro gs e5 wn ad I;have nd:=am ad;have Ch:=am (show w.heap.size<=gs from Nat.le_trans ag.1.size (Nat.le_of_eq e5.symm));have ti:=am (show hL ≠ gs from fun he=>by have:=dK bj.1;omega);have gK:=am (bd.1.dk gs (Nat.le_of_eq e5.symm));replace bd:=am (bd.1.grow I);clear ad e5;replace bc:=c9 bc I;replace bq:=c9 bq I;replace ax:=aV ax I;replace bj:=aV bj I;replace aj:=aV aj I;replace ag:=am (ag.1.grow I);clear bu cM a5;have bu:=ae ax;have cM:=ae bj;have a5:=ae aj;clear I;have al:=nd;clear nd;have bg:=ae al)
 |((with_reducible refine bT 26 4 ?_);refine dG aj ?_;intro wn ad U;have vh:=am ad;replace bc:=g6 bc aj U;replace bq:=g6 bq aj U;replace ax:=fV ax U qn.1;replace bj:=fV bj U (g7 bj.1 aj.1 (by decide));replace al:=fV al U (g7 al.1 aj.1 (by decide));replace bd:=am (bd.1.move U.size (fun q aF ak=>U.block q ak (fun he=>aF (by injection he with he;rw [he];exact mc.1))));replace ag:=am (ag.1.grown U (fun k J=>by cases J;exact Ke.1));clear aj bu cM a5 bg;have aj:=vh;clear vh ad U;have bu:=ae ax;have cM:=ae bj;have a5:=ae aj;have bg:=ae al)
 |((with_reducible refine bT 31 5 ?_);refine dG al ?_;intro wn ad U;have nd:=am ad;replace bc:=g6 bc al U;replace bq:=g6 bq al U;replace ax:=fV ax U (g7 ax.1 al.1 (by decide));replace bj:=fV bj U ti.1;replace aj:=fV aj U (g7 aj.1 al.1 (by decide));replace bd:=am (bd.1.move U.size (fun q aF ak=>U.block q ak (fun he=>aF (by injection he with he;rw [he];exact gK.1))));replace ag:=am (ag.1.grown U (fun k J=>by cases J;exact Ch.1));clear al bu cM a5 bg;have al:=nd;clear nd ad U;have bu:=ae ax;have cM:=ae bj;have a5:=ae aj;have bg:=ae al))
 refine (ig ag.1 cl.1 (by have:=cd.1;have:=lH.1;(try have:=fC.1);(try have:=gR.1);omega) 14).mono ?_;rintro e wn ⟨x,bY,rfl,az,fk,aO,J⟩;replace bd:=am (bd.1.move J.1 (fun jM aT ak=>J.2 jM ak (fun he=>aT (by rw [he];exact im.1)) (by simp)));replace cd:=am (show bz<=bY/\bY<=bz+7001 from by have:=cd.1;(try have:=fC.1);(try have:=gR.1);omega);clear fk;replace bc:=am (ag.1.fa J bc.1 (by decide));replace bq:=am (ag.1.fa J bq.1 (by decide));replace ax:=am (ag.1.dH J ax.1 (by decide));replace bj:=am (ag.1.dH J bj.1 (by decide));replace aj:=am (ag.1.dH J aj.1 (by decide));replace al:=am (ag.1.dH J al.1 (by decide));replace ag:=am (aO);clear bu cM a5 bg;have bu:=ae ax;have cM:=ae bj;have a5:=ae aj;have bg:=ae al;clear J aO;by_cases mM:x=0
 ·have lQ:¬ (0:Int) < (x:Int):=by omega
  have x6:(0 < x)=False:=eq_false (by omega);clear az mM
  go_wp2_with (first
  |(go_at_call 40;fail))
  refine (ig ag.1 cl.1 (by have:=cd.1;have:=lH.1;(try have:=fC.1);(try have:=gR.1);omega) (bs.tasks.length:Int)).mono ?_;rintro e wn ⟨k,bY,rfl,J,fk,aO,J⟩;replace bd:=am (bd.1.move J.1 (fun jM aT ak=>J.2 jM ak (fun he=>aT (by rw [he];exact im.1)) (by simp)));replace cd:=am (show bz<=bY/\bY<=bz+7002 from by have:=cd.1;(try have:=fC.1);(try have:=gR.1);omega);clear fk;replace bc:=am (ag.1.fa J bc.1 (by decide));replace bq:=am (ag.1.fa J bq.1 (by decide));replace ax:=am (ag.1.dH J ax.1 (by decide));replace bj:=am (ag.1.dH J bj.1 (by decide));replace aj:=am (ag.1.dH J aj.1 (by decide));replace al:=am (ag.1.dH J al.1 (by decide));replace ag:=am (aO);clear bu cM a5 bg;have bu:=ae ax;have cM:=ae bj;have a5:=ae aj;have bg:=ae al;clear J aO;have hl:k < bs.tasks.length:=by have:=lZ.1;omega
  clear J
  go_wp2_with (first
  |(go_at_call 40;fail))
  refine (ig ag.1 cl.1 (by have:=cd.1;have:=lH.1;(try have:=fC.1);(try have:=gR.1);omega) 8).mono ?_;rintro e wn ⟨y,bY,rfl,aW,fk,aO,J⟩;replace bd:=am (bd.1.move J.1 (fun jM aT ak=>J.2 jM ak (fun he=>aT (by rw [he];exact im.1)) (by simp)));replace cd:=am (show bz<=bY/\bY<=bz+7003 from by have:=cd.1;(try have:=fC.1);(try have:=gR.1);omega);clear fk;replace bc:=am (ag.1.fa J bc.1 (by decide));replace bq:=am (ag.1.fa J bq.1 (by decide));replace ax:=am (ag.1.dH J ax.1 (by decide));replace bj:=am (ag.1.dH J bj.1 (by decide));replace aj:=am (ag.1.dH J aj.1 (by decide));replace al:=am (ag.1.dH J al.1 (by decide));replace ag:=am (aO);clear bu cM a5 bg;have bu:=ae ax;have cM:=ae bj;have a5:=ae aj;have bg:=ae al;clear J aO;have Vp:y=0\/y=1\/y=2\/y=3\/y=4\/y=5\/y=6\/y=7:=by omega
  clear aW;rename_i nQ aA kh ar ik h1
  have wW:∀ {u0 u1 u6 u7 u8 u9 u10 u11 u12 u13 u14 u15 u16 u17 u18 u19 u20 u21 u22 u23 u24 u25 u26 u27 u28 u29 u30 u31 u32 u33 u34 u35 u36 u37 u38 u39 u40 u41 u42 u43 u44 u45 u46 u47 u48 u49 u50 u51 u52 u53 u54 u55 u56 u57 u58 u59 u60 u61 u62 u63 u64 u65 u66 u67 u68 u69 u70 u71 u72 u73 u74 u75 u76 u77 u78 u79 u80 u81 u82 u83 u84 u85 u86 u87 u88 u89 u90 u91 u92 u93 u94 u95 u96 u97 u98 u99 u100 u101 u102 u103 u104 u105 u106 u107:Value} {bV:World} {s2:Sys} {c1:Nat->Nat} {lx np nr:Option Addr} {kK hq iF ep aU dz:Nat} {sG g2:Int},av (bV.heap[fp]? = some (.cells #[.slice none 0 0,.slice none 0 0] 26 (0,0)))->av (bV.heap[hL]? = some (.cells #[.slice none 0 0,.slice none 0 0,.int .i64 0,.slice none 0 0] 31 (0,0)))->av (bV.heap[de]? = some (.cells #[.slice A eo dW,.slice B eX fE] 26 (0,0)))->av (bV.heap[gs]? = some (.cells #[.slice lx kK ep,.slice np hq aU,.int .i64 sG,.slice nr iF dz] 31 (0,0)))->av ((Kd.int .i64).aC 3 bV w.heap.size (fun _=>True) (.slice A eo dW) p.cells)->av ((Kd.slice 55 kAct).aC 48 bV w.heap.size (fun _=>True) (.slice B eX fE) p.an)->av (xr w.heap.size c1 bV s2 [.slice lx kK ep,.slice np hq aU,.int .i64 sG,.slice nr iF dz])->av (ee w0 w g b g2 bV)->av (bz<=g2/\g2<=bz+7004)->av (c1 g=0)->av (c1 fp=0)->av (c1 hL=0)->av (c1 de=0)->av (c1 gs=0)->av (oC s2)->av (s2.log.length+s2.tasks.length<=1000)->av (1<=s2.tasks.length)->nQ {tmps:=#[u0,u1,.pointer (some ⟨fp,0,none⟩),.pointer (some ⟨hL,0,none⟩),.pointer (some ⟨de,0,none⟩),.pointer (some ⟨gs,0,none⟩),u6,u7,u8,u9,u10,u11,u12,u13,u14,u15,u16,u17,u18,u19,u20,u21,u22,u23,u24,u25,u26,u27,u28,u29,u30,u31,u32,u33,u34,u35,u36,u37,u38,u39,u40,u41,u42,u43,u44,u45,u46,u47,u48,u49,u50,u51,u52,u53,u54,u55,u56,u57,u58,u59,u60,u61,u62,u63,u64,u65,u66,u67,u68,u69,u70,u71,u72,u73,u74,u75,u76,u77,u78,u79,u80,u81,u82,u83,u84,u85,u86,u87,u88,u89,u90,u91,u92,u93,u94,u95,u96,u97,u98,u99,u100,u101,u102,u103,u104,u105,u106,u107,undef,undef],defers:= []} bV:=by
   clear im kl km mc gK bd bc bq ax bj aj al ag cd bu cM a5 bg;intro u0 u1 u6 u7 u8 u9 u10 u11 u12 u13 u14 u15 u16 u17 u18 u19 u20 u21 u22 u23 u24 u25 u26 u27 u28 u29 u30 u31 u32 u33 u34 u35 u36 u37 u38 u39 u40 u41 u42 u43 u44 u45 u46 u47 u48 u49 u50 u51 u52 u53 u54 u55 u56 u57 u58 u59 u60 u61 u62 u63 u64 u65 u66 u67 u68 u69 u70 u71 u72 u73 u74 u75 u76 u77 u78 u79 u80 u81 u82 u83 u84 u85 u86 u87 u88 u89 u90 u91 u92 u93 u94 u95 u96 u97 u98 u99 u100 u101 u102 u103 u104 u105 u106 u107 bV s2 c1 lx np nr kK hq iF ep aU dz sG g2 ax bj aj al bc bq bd ag cd im kl km mc gK Ai s7 OL;have bu:=ae ax;have cM:=ae bj;have a5:=ae aj;have bg:=ae al;refine aA _ _ ?_;go_wp2;refine kO (n:=4) (S:=fun W=>W.heap[de]? = some (.cells #[.slice A eo dW,.slice B eX fE] 26 (0,0))/\W.heap[gs]? = some (.cells #[.slice lx kK ep,.slice np hq aU,.int .i64 sG,.slice nr iF dz] 31 (0,0))) (ds:= [3]) (by kernel_rfl) rfl ⟨gW aj.1,gW al.1⟩ (fun aK=> ?_);have I:=ei (Below.refl bV.heap.size bV);generalize bV.drew=fN at I aK ⊢;replace bd:=am (bd.1.grow I);replace bc:=c9 bc I;replace bq:=c9 bq I;replace ax:=aV ax I;replace bj:=aV bj I;replace aj:=aV aj I;replace al:=aV al I;replace ag:=am (ag.1.grow I);clear bu cM a5 bg;have bu:=ae ax;have cM:=ae bj;have a5:=ae aj;have bg:=ae al;clear I;refine hn 3 1 [0] aK ?_
   iterate 1 (refine hR rfl (by rintro W ⟨bU,s1⟩;have t0:=bf bU;have t1:=bf s1;clear bU s1;go_simp;with_reducible rfl) ?_)
   refine bN ?_;refine BY (i:=1) (j:=2) (Ni:=some 109) (Nj:=none) rfl rfl rfl rfl (by kernel_rfl) (by decide) (by decide) (fun K au=> ?_) (fun K au=> ?_)
   ·have t1:=bf aK.2
    refine mV (v:=.agg #[.slice lx kK ep,.slice np hq aU,.int .i64 sG,.slice nr iF dz]) (w1:=_) (by rfl) rfl (by go_simp<;>rfl) ?_;clear t1;refine au.out _ _ (aK) (fun aK=>e8 ?_);clear au K
    refine fs 2 none (fun K au=> ?_);obtain ⟨ad,U⟩:=zn (cs:= [.slice A eo dW,.slice B eX fE]) ax.1 rfl;rw [if_pos (by rfl)];refine wB rfl 26 (.tmp 2) (.tmp 108) rfl rfl rfl ax.1 rfl (by kernel_rfl) (oI rfl) ?_;generalize World.setCells _ fp 0 [.slice A eo dW,.slice B eX fE]=nR at ad U ⊢;refine au.out _ _ ⟨eQ aK.1 U (fun he=>Ne.symm qn.1 (by injection he)),eQ aK.2 U (fun he=>g7 aK.2 ax.1 (by decide) (by injection he))⟩ (fun aK=> ?_);clear au K;have h':=am ad;replace bc:=g6 bc ax U;replace bq:=g6 bq ax U;replace bj:=fV bj U (g7 bj.1 ax.1 (by decide));replace aj:=fV aj U (Ne.symm qn.1);replace al:=fV al U (g7 al.1 ax.1 (by decide));replace bd:=am (bd.1.move U.size (fun q aF ak=>U.block q ak (fun he=>aF (by injection he with he;rw [he];exact kl.1))));replace ag:=am (ag.1.grown U (fun k J=>by cases J;exact s8.1));clear ax bu cM a5 bg;have ax:=h';clear h' ad U;have bu:=ae ax;have cM:=ae bj;have a5:=ae aj;have bg:=ae al;clear aK;refine lM (fuel:=1) 3 (by kernel_rfl) ?_;simp only [List.drop_succ_cons,List.drop_zero]
    go_wp2_with (first
    |((with_reducible refine bT 31 3 ?_);refine dG bj ?_;intro wn ad U;have mv:=am ad;replace bc:=g6 bc bj U;replace bq:=g6 bq bj U;replace ax:=fV ax U (g7 ax.1 bj.1 (by decide));replace aj:=fV aj U (g7 aj.1 bj.1 (by decide));replace al:=fV al U (Ne.symm ti.1);replace bd:=am (bd.1.move U.size (fun q aF ak=>U.block q ak (fun he=>aF (by injection he with he;rw [he];exact km.1))));replace ag:=am (ag.1.grown U (fun k J=>by cases J;exact As.1));clear bj bu cM a5 bg;have bj:=mv;clear mv ad U;have bu:=ae ax;have cM:=ae bj;have a5:=ae aj;have bg:=ae al))
    refine bodyPost_ret (x3 (rs:= [.cell 2 26,.cell 3 31]) rfl (by simp) (.cell fp 26 #[.slice A eo dW,.slice B eX fE] (0,0) _ rfl ax.1 Tryz.underlying26 rfl (by kernel_rfl) (.cell hL 31 #[.slice lx kK ep,.slice np hq aU,.int .i64 sG,.slice nr iF dz] (0,0) _ rfl bj.1 Tryz.underlying31 rfl (by kernel_rfl) .nil))) rfl ?_;exact ⟨p,s2,_,_,_,_,rfl,mJ.1,cK.1,bc.1,bq.1,⟨Nat.le_refl _,fun dY fB pG=>bd.1 dY fB (fun jM dt aT ak=>pG jM dt ak (fun he=>aT (by rw [he];exact im.1)))⟩,Ai.1,s7.1,OL.1,ag.1,cd.1.1,by have:=cd.1.2;omega⟩
   ·obtain ⟨ad,U⟩:=zn (cs:= [.slice A eo dW,.slice B eX fE]) ax.1 rfl
    rw [if_pos (by rfl)];refine wB rfl 26 (.tmp 2) (.tmp 108) rfl rfl rfl ax.1 rfl (by kernel_rfl) (oI rfl) ?_;generalize World.setCells _ fp 0 [.slice A eo dW,.slice B eX fE]=nR at ad U ⊢;refine au.out _ _ ⟨eQ aK.1 U (fun he=>Ne.symm qn.1 (by injection he)),eQ aK.2 U (fun he=>g7 aK.2 ax.1 (by decide) (by injection he))⟩ (fun aK=> ?_);clear au K;have h':=am ad;replace bc:=g6 bc ax U;replace bq:=g6 bq ax U;replace bj:=fV bj U (g7 bj.1 ax.1 (by decide));replace aj:=fV aj U (Ne.symm qn.1);replace al:=fV al U (g7 al.1 ax.1 (by decide));replace bd:=am (bd.1.move U.size (fun q aF ak=>U.block q ak (fun he=>aF (by injection he with he;rw [he];exact kl.1))));replace ag:=am (ag.1.grown U (fun k J=>by cases J;exact s8.1));clear ax bu cM a5 bg;have ax:=h';clear h' ad U;have bu:=ae ax;have cM:=ae bj;have a5:=ae aj;have bg:=ae al;refine fs 1 (some 109) (fun K au=> ?_);have t1:=bf aK.2;refine mV (v:=.agg #[.slice lx kK ep,.slice np hq aU,.int .i64 sG,.slice nr iF dz]) (w1:=_) (by rfl) rfl (by go_simp<;>rfl) ?_;clear t1;refine au.out _ _ (aK) (fun aK=>e8 ?_);clear au K
    clear aK;refine lM (fuel:=1) 3 (by kernel_rfl) ?_;simp only [List.drop_succ_cons,List.drop_zero]
    go_wp2_with (first
    |((with_reducible refine bT 31 3 ?_);refine dG bj ?_;intro wn ad U;have mv:=am ad;replace bc:=g6 bc bj U;replace bq:=g6 bq bj U;replace ax:=fV ax U (g7 ax.1 bj.1 (by decide));replace aj:=fV aj U (g7 aj.1 bj.1 (by decide));replace al:=fV al U (Ne.symm ti.1);replace bd:=am (bd.1.move U.size (fun q aF ak=>U.block q ak (fun he=>aF (by injection he with he;rw [he];exact km.1))));replace ag:=am (ag.1.grown U (fun k J=>by cases J;exact As.1));clear bj bu cM a5 bg;have bj:=mv;clear mv ad U;have bu:=ae ax;have cM:=ae bj;have a5:=ae aj;have bg:=ae al))
    refine bodyPost_ret (x3 (rs:= [.cell 2 26,.cell 3 31]) rfl (by simp) (.cell fp 26 #[.slice A eo dW,.slice B eX fE] (0,0) _ rfl ax.1 Tryz.underlying26 rfl (by kernel_rfl) (.cell hL 31 #[.slice lx kK ep,.slice np hq aU,.int .i64 sG,.slice nr iF dz] (0,0) _ rfl bj.1 Tryz.underlying31 rfl (by kernel_rfl) .nil))) rfl ?_;exact ⟨p,s2,_,_,_,_,rfl,mJ.1,cK.1,bc.1,bq.1,⟨Nat.le_refl _,fun dY fB pG=>bd.1 dY fB (fun jM dt aT ak=>pG jM dt ak (fun he=>aT (by rw [he];exact im.1)))⟩,Ai.1,s7.1,OL.1,ag.1,cd.1.1,by have:=cd.1.2;omega⟩
  clear aA;rcases Vp with rfl|rfl|rfl|rfl|rfl|rfl|rfl|rfl
  ·skip
   go_wp2_with (first
   |((with_reducible refine aQ 30 ?_);refine Kd.jX (Kd.int .i64) (w0:=_) w.heap.size 3 rfl (N:=30) rfl (xs:=([-1,201]:List Int)) (inner:= [.int .i64 (-1),.int .i64 201]) (ok:=(fun _=>True)) (okp:=(fun _=>True)) (by go_simp<;>rfl) (cp.one rfl (cp.one rfl (cp.none _ _))) (fun _ _=>trivial) trivial (Below.refl _ _) ag.1.size (by simp) ?_;intro v1 wl bG bZ U fw;clear bZ fw;obtain ⟨a9,dp,c'⟩:=Kd.bt bG;subst c';have vg:=am (show (Kd.int .i64).aC 3 wl w.heap.size (fun _=>True) (.slice a9 2 dp) ([-1,201]:List Int) from bG);clear bG;have I:=hW U;replace bd:=am (bd.1.grow I);replace bc:=c9 bc I;replace bq:=c9 bq I;replace ax:=aV ax I;replace bj:=aV bj I;replace aj:=aV aj I;replace al:=aV al I;replace ag:=am (ag.1.grow I);clear bu cM a5 bg;have bu:=ae ax;have cM:=ae bj;have a5:=ae aj;have bg:=ae al;clear I U;have hi:=vg;clear vg)
   |(go_at_call 40;refine (ig ag.1 cl.1 (by have:=cd.1;have:=lH.1;(try have:=fC.1);(try have:=gR.1);omega) 2).mono ?_;rintro e wn ⟨z,bY,rfl,aX,fk,aO,J⟩;replace bd:=am (bd.1.move J.1 (fun jM aT ak=>J.2 jM ak (fun he=>aT (by rw [he];exact im.1)) (by simp)));replace cd:=am (show bz<=bY/\bY<=bz+7004 from by have:=cd.1;(try have:=fC.1);(try have:=gR.1);omega);clear fk;replace bc:=am (ag.1.fa J bc.1 (by decide));replace bq:=am (ag.1.fa J bq.1 (by decide));replace hi:=am (ag.1.fa J hi.1 (by decide));replace ax:=am (ag.1.dH J ax.1 (by decide));replace bj:=am (ag.1.dH J bj.1 (by decide));replace aj:=am (ag.1.dH J aj.1 (by decide));replace al:=am (ag.1.dH J al.1 (by decide));replace ag:=am (aO);clear bu cM a5 bg;have bu:=ae ax;have cM:=ae bj;have a5:=ae aj;have bg:=ae al;clear J aO;have lC:(z:Int) < 2:=(by omega);have jQ:(0:Int)<=(z:Int):=(by omega);clear aX;obtain ⟨rM,il,n4,-⟩:=Kd.oa hi.1 (by decide);injection n4 with n4 xp xq;subst n4;obtain ⟨v,yh⟩:∃ v:Int,wn.cell? ⟨rM,z,none⟩=some (.int .i64 v):=⟨_,by have h:=Kd.wx 0 hi.1 (z:Int) jQ lC;rw [Int.toNat_natCast] at h;exact h.1⟩;clear xp xq)
   |((with_reducible refine bT 3 35 ?_);refine e9 (u:=.int .i64 v) rfl rfl _ _ rfl (g:=gs) (off:=2) rfl rfl rfl rfl (by kernel_rfl) ⟨⟨_,by rw [bf al.1];rfl⟩,iX al.1 _⟩ ?_;intro bV aH;have nd:=am (show bV.heap[gs]? = some (.cells #[.slice jB bs.cells.length i',.slice ma bs.tasks.length ut,.int .i64 v,.slice jq bs.log.length ul] 31 (0,0)) by rw [aH];exact ku al.1 2 (.int .i64 v));replace ax:=am (show bV.heap[fp]? = some (.cells #[.slice none 0 0,.slice none 0 0] 26 (0,0)) by rw [aH];exact eA (p:=⟨gs,2,none⟩) ax.1 (g7 ax.1 al.1 (by decide)) (.int .i64 v));replace bj:=am (show bV.heap[hL]? = some (.cells #[.slice none 0 0,.slice none 0 0,.int .i64 0,.slice none 0 0] 31 (0,0)) by rw [aH];exact eA (p:=⟨gs,2,none⟩) bj.1 (ti.1) (.int .i64 v));replace aj:=am (show bV.heap[de]? = some (.cells #[.slice A eo dW,.slice B eX fE] 26 (0,0)) by rw [aH];exact eA (p:=⟨gs,2,none⟩) aj.1 (g7 aj.1 al.1 (by decide)) (.int .i64 v));replace bc:=am (show (Kd.int .i64).aC 3 bV w.heap.size (fun _=>True) (.slice A eo dW) p.cells by rw [aH];exact lN bc.1 al.1 (by decide) 2 (.int .i64 v));replace bq:=am (show (Kd.slice 55 kAct).aC 48 bV w.heap.size (fun _=>True) (.slice B eX fE) p.an by rw [aH];exact lN bq.1 al.1 (by decide) 2 (.int .i64 v));replace bd:=am (show b8 _ _ _ _ _ _ bV by rw [aH];exact bd.1.cB gK.1 2 (.int .i64 v));replace ag:=am (show ee w0 w g b _ bV by rw [aH];exact ag.1.set Ch.1 2 (.int .i64 v));clear aH al bg bu cM a5;have al:=nd;clear nd;have bu:=ae ax;have cM:=ae bj;have a5:=ae aj;have bg:=ae al))
   replace bd:=am (b8.xt (s:={bs with clock:=v}) ⟨bd.1.low,bd.1.dk,bd.1.cells,bd.1.tasks,bd.1.fj,bd.1.log⟩);have kp:=am (iB.1.th (by have:=eD.1;omega));exact wW ax bj aj al bc bq bd ag (am (by have:=cd.1;omega)) im kl km mc gK (am ⟨kp.1.cells,kp.1.tasks,kp.1.log,kp.1.task,kp.1.kX⟩) (am (by have:=iB.1.room;have:=iB.1.many;have:=eD.1;show bs.log.length+bs.tasks.length<=1000;omega)) (am lZ.1)
  ·obtain ⟨cZ,p6,r3⟩:=bd.1.iV (by have:=lZ.1;omega)
   injection r3 with xD xE xF;subst xD;clear xE xF;have Hp:(0:Int)<=(k:Int):=by omega
   have Hq:(k:Int) < (bs.tasks.length:Int):=by omega
   go_wp2_with (first
   |(go_at_call 40;fail))
   refine kO (n:=11) (S:=fun W=>W.heap[gs]? = some (.cells #[.slice jB bs.cells.length i',.slice (some ⟨cZ,0,none⟩) bs.tasks.length ut,.int .i64 bs.clock,.slice jq bs.log.length ul] 31 (0,0))) (ds:= [8,9,10]) (by kernel_rfl) rfl (by exact gW al.1) (fun aK=> ?_);have I:=ei (Below.refl wn.heap.size wn);generalize wn.drew=fN at I aK ⊢;replace bd:=am (bd.1.grow I);replace bc:=c9 bc I;replace bq:=c9 bq I;replace ax:=aV ax I;replace bj:=aV bj I;replace aj:=aV aj I;replace al:=aV al I;replace ag:=am (ag.1.grow I);clear bu cM a5 bg;have bu:=ae ax;have cM:=ae bj;have a5:=ae aj;have bg:=ae al;clear I;refine hn 7 4 [0,1,2,4] aK ?_
   iterate 4 (refine hR rfl (by intro W bU;have t0:=bf bU;clear bU;go_simp;with_reducible rfl) ?_)
   refine bN ?_;refine BY (i:=3) (j:=5) (Ni:=some 41) (Nj:=some 43) rfl rfl rfl rfl (by kernel_rfl) (by decide) (by decide) (fun K au=> ?_) (fun K au=> ?_)
   ·refine Kd.qG (w0:=_) (Kd.int .i64) w.heap.size 3 (by rfl) (N:=41) rfl (xs:=([-1,5,2,3,4]:List Int)) (inner:= [.int .i64 (-1),.int .i64 5,.int .i64 2,.int .i64 3,.int .i64 4]) (ok:=(fun _=>True)) (okp:=(fun _=>True)) (by go_simp<;>rfl) (cp.one rfl (cp.one rfl (cp.one rfl (cp.one rfl (cp.one rfl (cp.none _ _)))))) (fun _ _=>trivial) trivial (Below.refl _ _) ag.1.size (by simp) ?_
    intro v1 wl bG bZ U fw;clear bZ fw;obtain ⟨a9,dp,c'⟩:=Kd.bt bG;subst c';have vg:=am (show (Kd.int .i64).aC 3 wl w.heap.size (fun _=>True) (.slice a9 5 dp) ([-1,5,2,3,4]:List Int) from bG);refine au.out _ _ (fS aK (hW U)) (fun aK=>e8 ?_);clear au K
    clear bG;have I:=hW U;replace bd:=am (bd.1.grow I);replace bc:=c9 bc I;replace bq:=c9 bq I;replace ax:=aV ax I;replace bj:=aV bj I;replace aj:=aV aj I;replace al:=aV al I;replace ag:=am (ag.1.grow I);clear bu cM a5 bg;have bu:=ae ax;have cM:=ae bj;have a5:=ae aj;have bg:=ae al;clear I U;have hi:=vg;clear vg;refine fs 5 (some 43) (fun K au=> ?_);refine kW Tryz.func40 #[.pointer (some ⟨g,0,none⟩),.int .i64 5] ?_;refine (ig ag.1 cl.1 (by have:=cd.1;have:=lH.1;omega) 5).mono ?_;rintro e wn ⟨z,bY,rfl,aX,fk,aO,J⟩;refine ⟨_,rfl, ?_⟩;refine au.out _ _ (ag.1.dH J aK (by decide)) (fun aK=>e8 ?_);clear au K
    replace bd:=am (bd.1.move J.1 (fun jM aT ak=>J.2 jM ak (fun he=>aT (by rw [he];exact im.1)) (by simp)));replace cd:=am (show bz<=bY/\bY<=bz+7004 from by have:=cd.1;(try have:=fC.1);(try have:=gR.1);omega);clear fk;replace bc:=am (ag.1.fa J bc.1 (by decide));replace bq:=am (ag.1.fa J bq.1 (by decide));replace hi:=am (ag.1.fa J hi.1 (by decide));replace ax:=am (ag.1.dH J ax.1 (by decide));replace bj:=am (ag.1.dH J bj.1 (by decide));replace aj:=am (ag.1.dH J aj.1 (by decide));replace al:=am (ag.1.dH J al.1 (by decide));replace ag:=am (aO);clear bu cM a5 bg;have bu:=ae ax;have cM:=ae bj;have a5:=ae aj;have bg:=ae al;clear J aO;have pI:(z:Int) < 5:=by omega
    have jQ:(0:Int)<=(z:Int):=by omega
    clear aX;obtain ⟨rM,il,n4,-⟩:=Kd.oa hi.1 (by decide);injection n4 with n4 xp xq;subst n4;obtain ⟨v,yh⟩:∃ v:Int,wn.cell? ⟨rM,z,none⟩=some (.int .i64 v):=⟨_,by have h:=Kd.wx 0 hi.1 (z:Int) jQ pI;rw [Int.toNat_natCast] at h;exact h.1⟩;clear xp xq;refine fs 6 (some 44) (fun K au=> ?_);refine mV (v:=.pointer (some ⟨rM,z,none⟩)) (w1:=wn) (by rfl) rfl (by go_simp<;>rfl) ?_;refine au.out _ _ (aK) (fun aK=>e8 ?_);clear au K
    refine fs 7 (some 45) (fun K au=> ?_);refine mV (v:=.int .i64 v) (w1:=wn) (by rfl) rfl (by go_simp<;>rfl) ?_;refine au.out _ _ (aK) (fun aK=>e8 ?_);clear au K
    clear aK yh hi;refine lM (fuel:=3) 8 (by kernel_rfl) ?_;simp only [List.drop_succ_cons,List.drop_zero]
    go_wp2_with (first
    |((with_reducible refine bT 3 47 ?_);obtain ⟨dm,cV,o3,hex,m'⟩:=bd.1.setInt hl 4 (by decide) (v) {R bs k with a7:=v} (fun _ _ _ _=>rfl) ⟨rfl,rfl,rfl,rfl⟩;obtain ⟨Ev,kU⟩:=Kd.y' bd.1.tasks cZ rfl;refine e9 (u:=.int .i64 (v)) rfl rfl _ _ rfl (g:=cZ) (off:=k*13+4) rfl rfl rfl rfl (by kernel_rfl) ⟨hex,m'⟩ ?_;intro bV aH;replace bd:=am (show b8 _ _ _ _ _ _ bV by rw [aH];exact dm);replace ax:=am (show bV.heap[fp]? = some (.cells #[.slice none 0 0,.slice none 0 0] 26 (0,0)) by rw [aH];exact eA (p:=⟨cZ,k*13+4,none⟩) ax.1 (fun he=>(by rw [<-show fp=cZ from he,kl.1] at cV;cases cV)) (.int .i64 (v)));replace bj:=am (show bV.heap[hL]? = some (.cells #[.slice none 0 0,.slice none 0 0,.int .i64 0,.slice none 0 0] 31 (0,0)) by rw [aH];exact eA (p:=⟨cZ,k*13+4,none⟩) bj.1 (fun he=>(by rw [<-show hL=cZ from he,km.1] at cV;cases cV)) (.int .i64 (v)));replace aj:=am (show bV.heap[de]? = some (.cells #[.slice A eo dW,.slice B eX fE] 26 (0,0)) by rw [aH];exact eA (p:=⟨cZ,k*13+4,none⟩) aj.1 (fun he=>(by rw [<-show de=cZ from he,mc.1] at cV;cases cV)) (.int .i64 (v)));replace al:=am (show bV.heap[gs]? = some (.cells #[.slice jB bs.cells.length i',.slice (some ⟨cZ,0,none⟩) bs.tasks.length ut,.int .i64 bs.clock,.slice jq bs.log.length ul] 31 (0,0)) by rw [aH];exact eA (p:=⟨cZ,k*13+4,none⟩) al.1 (fun he=>(by rw [<-show gs=cZ from he,gK.1] at cV;cases cV)) (.int .i64 (v)));replace bc:=am (show (Kd.int .i64).aC 3 bV w.heap.size (fun _=>True) (.slice A eo dW) p.cells by rw [aH];exact lN bc.1 kU (by decide) (k*13+4) (.int .i64 (v)));replace bq:=am (show (Kd.slice 55 kAct).aC 48 bV w.heap.size (fun _=>True) (.slice B eX fE) p.an by rw [aH];exact lN bq.1 kU (by decide) (k*13+4) (.int .i64 (v)));replace ag:=am (show ee w0 w g b _ bV by rw [aH];exact ag.1.set o3 (k*13+4) (.int .i64 (v)));clear aH bg bu cM a5 dm cV o3 hex m' kU;have bu:=ae ax;have cM:=ae bj;have a5:=ae aj;have bg:=ae al))
    replace bd:=am bd.1.xt;have kp:=am (iB.1.th (by have:=eD.1;omega));exact wW ax bj aj al bc bq bd ag (am (by have:=cd.1;omega)) im kl km mc gK (am (Gk kp.1 hl rfl rfl rfl rfl)) (am (by have:=iB.1.room;have:=iB.1.many;have:=eD.1;show bs.log.length+(bs.tasks.set _ _).length<=1000;rw [List.length_set];omega)) (am (by show 1<=(bs.tasks.set _ _).length;rw [List.length_set];exact lZ.1))
   ·refine kW Tryz.func40 #[.pointer (some ⟨g,0,none⟩),.int .i64 5] ?_
    refine (ig ag.1 cl.1 (by have:=cd.1;have:=lH.1;omega) 5).mono ?_;rintro e wn ⟨z,bY,rfl,aX,fk,aO,J⟩;refine ⟨_,rfl, ?_⟩;refine au.out _ _ (ag.1.dH J aK (by decide)) (fun aK=>e8 ?_);clear au K
    replace bd:=am (bd.1.move J.1 (fun jM aT ak=>J.2 jM ak (fun he=>aT (by rw [he];exact im.1)) (by simp)));replace cd:=am (show bz<=bY/\bY<=bz+7004 from by have:=cd.1;(try have:=fC.1);(try have:=gR.1);omega);clear fk;replace bc:=am (ag.1.fa J bc.1 (by decide));replace bq:=am (ag.1.fa J bq.1 (by decide));replace ax:=am (ag.1.dH J ax.1 (by decide));replace bj:=am (ag.1.dH J bj.1 (by decide));replace aj:=am (ag.1.dH J aj.1 (by decide));replace al:=am (ag.1.dH J al.1 (by decide));replace ag:=am (aO);clear bu cM a5 bg;have bu:=ae ax;have cM:=ae bj;have a5:=ae aj;have bg:=ae al;clear J aO;refine fs 3 (some 41) (fun K au=> ?_);refine Kd.qG (w0:=_) (Kd.int .i64) w.heap.size 3 (by rfl) (N:=41) rfl (xs:=([-1,5,2,3,4]:List Int)) (inner:= [.int .i64 (-1),.int .i64 5,.int .i64 2,.int .i64 3,.int .i64 4]) (ok:=(fun _=>True)) (okp:=(fun _=>True)) (by go_simp<;>rfl) (cp.one rfl (cp.one rfl (cp.one rfl (cp.one rfl (cp.one rfl (cp.none _ _)))))) (fun _ _=>trivial) trivial (Below.refl _ _) ag.1.size (by simp) ?_;intro v1 wl bG bZ U fw;clear bZ fw;obtain ⟨a9,dp,c'⟩:=Kd.bt bG;subst c';have vg:=am (show (Kd.int .i64).aC 3 wl w.heap.size (fun _=>True) (.slice a9 5 dp) ([-1,5,2,3,4]:List Int) from bG);refine au.out _ _ (fS aK (hW U)) (fun aK=>e8 ?_);clear au K
    clear bG;have I:=hW U;replace bd:=am (bd.1.grow I);replace bc:=c9 bc I;replace bq:=c9 bq I;replace ax:=aV ax I;replace bj:=aV bj I;replace aj:=aV aj I;replace al:=aV al I;replace ag:=am (ag.1.grow I);clear bu cM a5 bg;have bu:=ae ax;have cM:=ae bj;have a5:=ae aj;have bg:=ae al;clear I U;have hi:=vg;clear vg;have pI:(z:Int) < 5:=by omega
    have jQ:(0:Int)<=(z:Int):=by omega
    clear aX;obtain ⟨rM,il,n4,-⟩:=Kd.oa hi.1 (by decide);injection n4 with n4 xp xq;subst n4;obtain ⟨v,yh⟩:∃ v:Int,wl.cell? ⟨rM,z,none⟩=some (.int .i64 v):=⟨_,by have h:=Kd.wx 0 hi.1 (z:Int) jQ pI;rw [Int.toNat_natCast] at h;exact h.1⟩;clear xp xq;refine fs 6 (some 44) (fun K au=> ?_);refine mV (v:=.pointer (some ⟨rM,z,none⟩)) (w1:=wl) (by rfl) rfl (by go_simp<;>rfl) ?_;refine au.out _ _ (aK) (fun aK=>e8 ?_);clear au K
    refine fs 7 (some 45) (fun K au=> ?_);refine mV (v:=.int .i64 v) (w1:=wl) (by rfl) rfl (by go_simp<;>rfl) ?_;refine au.out _ _ (aK) (fun aK=>e8 ?_);clear au K
    clear aK yh hi;refine lM (fuel:=3) 8 (by kernel_rfl) ?_;simp only [List.drop_succ_cons,List.drop_zero]
    go_wp2_with (first
    |((with_reducible refine bT 3 47 ?_);obtain ⟨dm,cV,o3,hex,m'⟩:=bd.1.setInt hl 4 (by decide) (v) {R bs k with a7:=v} (fun _ _ _ _=>rfl) ⟨rfl,rfl,rfl,rfl⟩;obtain ⟨Ev,kU⟩:=Kd.y' bd.1.tasks cZ rfl;refine e9 (u:=.int .i64 (v)) rfl rfl _ _ rfl (g:=cZ) (off:=k*13+4) rfl rfl rfl rfl (by kernel_rfl) ⟨hex,m'⟩ ?_;intro bV aH;replace bd:=am (show b8 _ _ _ _ _ _ bV by rw [aH];exact dm);replace ax:=am (show bV.heap[fp]? = some (.cells #[.slice none 0 0,.slice none 0 0] 26 (0,0)) by rw [aH];exact eA (p:=⟨cZ,k*13+4,none⟩) ax.1 (fun he=>(by rw [<-show fp=cZ from he,kl.1] at cV;cases cV)) (.int .i64 (v)));replace bj:=am (show bV.heap[hL]? = some (.cells #[.slice none 0 0,.slice none 0 0,.int .i64 0,.slice none 0 0] 31 (0,0)) by rw [aH];exact eA (p:=⟨cZ,k*13+4,none⟩) bj.1 (fun he=>(by rw [<-show hL=cZ from he,km.1] at cV;cases cV)) (.int .i64 (v)));replace aj:=am (show bV.heap[de]? = some (.cells #[.slice A eo dW,.slice B eX fE] 26 (0,0)) by rw [aH];exact eA (p:=⟨cZ,k*13+4,none⟩) aj.1 (fun he=>(by rw [<-show de=cZ from he,mc.1] at cV;cases cV)) (.int .i64 (v)));replace al:=am (show bV.heap[gs]? = some (.cells #[.slice jB bs.cells.length i',.slice (some ⟨cZ,0,none⟩) bs.tasks.length ut,.int .i64 bs.clock,.slice jq bs.log.length ul] 31 (0,0)) by rw [aH];exact eA (p:=⟨cZ,k*13+4,none⟩) al.1 (fun he=>(by rw [<-show gs=cZ from he,gK.1] at cV;cases cV)) (.int .i64 (v)));replace bc:=am (show (Kd.int .i64).aC 3 bV w.heap.size (fun _=>True) (.slice A eo dW) p.cells by rw [aH];exact lN bc.1 kU (by decide) (k*13+4) (.int .i64 (v)));replace bq:=am (show (Kd.slice 55 kAct).aC 48 bV w.heap.size (fun _=>True) (.slice B eX fE) p.an by rw [aH];exact lN bq.1 kU (by decide) (k*13+4) (.int .i64 (v)));replace ag:=am (show ee w0 w g b _ bV by rw [aH];exact ag.1.set o3 (k*13+4) (.int .i64 (v)));clear aH bg bu cM a5 dm cV o3 hex m' kU;have bu:=ae ax;have cM:=ae bj;have a5:=ae aj;have bg:=ae al))
    replace bd:=am bd.1.xt;have kp:=am (iB.1.th (by have:=eD.1;omega));exact wW ax bj aj al bc bq bd ag (am (by have:=cd.1;omega)) im kl km mc gK (am (Gk kp.1 hl rfl rfl rfl rfl)) (am (by have:=iB.1.room;have:=iB.1.many;have:=eD.1;show bs.log.length+(bs.tasks.set _ _).length<=1000;rw [List.length_set];omega)) (am (by show 1<=(bs.tasks.set _ _).length;rw [List.length_set];exact lZ.1))
  ·obtain ⟨cZ,p6,r3⟩:=bd.1.iV (by have:=lZ.1;omega)
   injection r3 with xD xE xF;subst xD;clear xE xF;have Hp:(0:Int)<=(k:Int):=by omega
   have Hq:(k:Int) < (bs.tasks.length:Int):=by omega
   go_wp2_with (first
   |(go_at_call 40;fail))
   refine kO (n:=8) (S:=fun W=>W.heap[gs]? = some (.cells #[.slice jB bs.cells.length i',.slice (some ⟨cZ,0,none⟩) bs.tasks.length ut,.int .i64 bs.clock,.slice jq bs.log.length ul] 31 (0,0))) (ds:= [5,6,7]) (by kernel_rfl) rfl (by exact gW al.1) (fun aK=> ?_);have I:=ei (Below.refl wn.heap.size wn);generalize wn.drew=fN at I aK ⊢;replace bd:=am (bd.1.grow I);replace bc:=c9 bc I;replace bq:=c9 bq I;replace ax:=aV ax I;replace bj:=aV bj I;replace aj:=aV aj I;replace al:=aV al I;replace ag:=am (ag.1.grow I);clear bu cM a5 bg;have bu:=ae ax;have cM:=ae bj;have a5:=ae aj;have bg:=ae al;clear I;refine hn 4 4 [0,1,2,3] aK ?_
   iterate 4 (refine hR rfl (by intro W bU;have t0:=bf bU;clear bU;go_simp;with_reducible rfl) ?_)
   refine bN ?_;refine fs 4 (some 54) (fun K au=> ?_);refine kW Tryz.func40 #[.pointer (some ⟨g,0,none⟩),.int .i64 7] ?_;refine (ig ag.1 cl.1 (by have:=cd.1;have:=lH.1;omega) 7).mono ?_;rintro e wn ⟨z,bY,rfl,aX,fk,aO,J⟩;refine ⟨_,rfl, ?_⟩;refine au.out _ _ (ag.1.dH J aK (by decide)) (fun aK=>e8 ?_);clear au K
   replace bd:=am (bd.1.move J.1 (fun jM aT ak=>J.2 jM ak (fun he=>aT (by rw [he];exact im.1)) (by simp)));have Vq:z<=6:=by omega
   clear aX;replace cd:=am (show bz<=bY/\bY<=bz+7004 from by have:=cd.1;(try have:=fC.1);(try have:=gR.1);omega);clear fk;replace bc:=am (ag.1.fa J bc.1 (by decide));replace bq:=am (ag.1.fa J bq.1 (by decide));replace ax:=am (ag.1.dH J ax.1 (by decide));replace bj:=am (ag.1.dH J bj.1 (by decide));replace aj:=am (ag.1.dH J aj.1 (by decide));replace al:=am (ag.1.dH J al.1 (by decide));replace ag:=am (aO);clear bu cM a5 bg;have bu:=ae ax;have cM:=ae bj;have a5:=ae aj;have bg:=ae al;clear J aO;clear aK;refine lM (fuel:=3) 5 (by kernel_rfl) ?_;simp only [List.drop_succ_cons,List.drop_zero]
   go_wp2_with (first
   |((with_reducible refine bT 3 56 ?_);obtain ⟨dm,cV,o3,hex,m'⟩:=bd.1.setInt hl 5 (by decide) ((z:Int)) {R bs k with aE:=(z:Int)} (fun _ _ _ _=>rfl) ⟨rfl,rfl,rfl,rfl⟩;obtain ⟨Ev,kU⟩:=Kd.y' bd.1.tasks cZ rfl;refine e9 (u:=.int .i64 ((z:Int))) rfl rfl _ _ rfl (g:=cZ) (off:=k*13+5) rfl rfl rfl rfl (by kernel_rfl) ⟨hex,m'⟩ ?_;intro bV aH;replace bd:=am (show b8 _ _ _ _ _ _ bV by rw [aH];exact dm);replace ax:=am (show bV.heap[fp]? = some (.cells #[.slice none 0 0,.slice none 0 0] 26 (0,0)) by rw [aH];exact eA (p:=⟨cZ,k*13+5,none⟩) ax.1 (fun he=>(by rw [<-show fp=cZ from he,kl.1] at cV;cases cV)) (.int .i64 ((z:Int))));replace bj:=am (show bV.heap[hL]? = some (.cells #[.slice none 0 0,.slice none 0 0,.int .i64 0,.slice none 0 0] 31 (0,0)) by rw [aH];exact eA (p:=⟨cZ,k*13+5,none⟩) bj.1 (fun he=>(by rw [<-show hL=cZ from he,km.1] at cV;cases cV)) (.int .i64 ((z:Int))));replace aj:=am (show bV.heap[de]? = some (.cells #[.slice A eo dW,.slice B eX fE] 26 (0,0)) by rw [aH];exact eA (p:=⟨cZ,k*13+5,none⟩) aj.1 (fun he=>(by rw [<-show de=cZ from he,mc.1] at cV;cases cV)) (.int .i64 ((z:Int))));replace al:=am (show bV.heap[gs]? = some (.cells #[.slice jB bs.cells.length i',.slice (some ⟨cZ,0,none⟩) bs.tasks.length ut,.int .i64 bs.clock,.slice jq bs.log.length ul] 31 (0,0)) by rw [aH];exact eA (p:=⟨cZ,k*13+5,none⟩) al.1 (fun he=>(by rw [<-show gs=cZ from he,gK.1] at cV;cases cV)) (.int .i64 ((z:Int))));replace bc:=am (show (Kd.int .i64).aC 3 bV w.heap.size (fun _=>True) (.slice A eo dW) p.cells by rw [aH];exact lN bc.1 kU (by decide) (k*13+5) (.int .i64 ((z:Int))));replace bq:=am (show (Kd.slice 55 kAct).aC 48 bV w.heap.size (fun _=>True) (.slice B eX fE) p.an by rw [aH];exact lN bq.1 kU (by decide) (k*13+5) (.int .i64 ((z:Int))));replace ag:=am (show ee w0 w g b _ bV by rw [aH];exact ag.1.set o3 (k*13+5) (.int .i64 ((z:Int))));clear aH bg bu cM a5 dm cV o3 hex m' kU;have bu:=ae ax;have cM:=ae bj;have a5:=ae aj;have bg:=ae al))
   replace bd:=am bd.1.xt;have kp:=am (iB.1.th (by have:=eD.1;omega));exact wW ax bj aj al bc bq bd ag (am (by have:=cd.1;omega)) im kl km mc gK (am (Gk kp.1 hl rfl rfl rfl rfl)) (am (by have:=iB.1.room;have:=iB.1.many;have:=eD.1;show bs.log.length+(bs.tasks.set _ _).length<=1000;rw [List.length_set];omega)) (am (by show 1<=(bs.tasks.set _ _).length;rw [List.length_set];exact lZ.1))
  ·obtain ⟨cZ,p6,r3⟩:=bd.1.iV (by have:=lZ.1;omega)
   injection r3 with xD xE xF;subst xD;clear xE xF;have Hp:(0:Int)<=(k:Int):=by omega
   have Hq:(k:Int) < (bs.tasks.length:Int):=by omega
   go_wp2_with (first
   |(go_at_call 40;fail))
   refine kO (n:=9) (S:=fun W=>W.heap[gs]? = some (.cells #[.slice jB bs.cells.length i',.slice (some ⟨cZ,0,none⟩) bs.tasks.length ut,.int .i64 bs.clock,.slice jq bs.log.length ul] 31 (0,0))) (ds:= [6,7,8]) (by kernel_rfl) rfl (by exact gW al.1) (fun aK=> ?_);have I:=ei (Below.refl wn.heap.size wn);generalize wn.drew=fN at I aK ⊢;replace bd:=am (bd.1.grow I);replace bc:=c9 bc I;replace bq:=c9 bq I;replace ax:=aV ax I;replace bj:=aV bj I;replace aj:=aV aj I;replace al:=aV al I;replace ag:=am (ag.1.grow I);clear bu cM a5 bg;have bu:=ae ax;have cM:=ae bj;have a5:=ae aj;have bg:=ae al;clear I;refine hn 5 4 [0,1,2,3] aK ?_
   iterate 4 (refine hR rfl (by intro W bU;have t0:=bf bU;clear bU;go_simp;with_reducible rfl) ?_)
   refine bN ?_;refine fs 4 (some 63) (fun K au=> ?_);refine kW Tryz.func40 #[.pointer (some ⟨g,0,none⟩),.int .i64 5] ?_;refine (ig ag.1 cl.1 (by have:=cd.1;have:=lH.1;omega) 5).mono ?_;rintro e wn ⟨z,bY,rfl,aX,fk,aO,J⟩;refine ⟨_,rfl, ?_⟩;refine au.out _ _ (ag.1.dH J aK (by decide)) (fun aK=>e8 ?_);clear au K
   replace bd:=am (bd.1.move J.1 (fun jM aT ak=>J.2 jM ak (fun he=>aT (by rw [he];exact im.1)) (by simp)));have Vq:z<=6:=by omega
   clear aX;replace cd:=am (show bz<=bY/\bY<=bz+7004 from by have:=cd.1;(try have:=fC.1);(try have:=gR.1);omega);clear fk;replace bc:=am (ag.1.fa J bc.1 (by decide));replace bq:=am (ag.1.fa J bq.1 (by decide));replace ax:=am (ag.1.dH J ax.1 (by decide));replace bj:=am (ag.1.dH J bj.1 (by decide));replace aj:=am (ag.1.dH J aj.1 (by decide));replace al:=am (ag.1.dH J al.1 (by decide));replace ag:=am (aO);clear bu cM a5 bg;have bu:=ae ax;have cM:=ae bj;have a5:=ae aj;have bg:=ae al;clear J aO;refine hn 3 1 [5] aK ?_;refine Gl (v:= ?_) (a':= ?_) rfl (Or.inl ⟨by rfl, ?_⟩) ?_ ?_;rotate_left
   ·intro W bU
    go_simp
    with_reducible rfl
   rotate_left
   ·simp only [Act.put,nL,nM,nN,k0]
    rfl
   refine bN ?_;clear aK;refine lM (fuel:=3) 6 (by kernel_rfl) ?_;simp only [List.drop_succ_cons,List.drop_zero]
   go_wp2_with (first
   |((with_reducible refine bT 3 66 ?_);obtain ⟨dm,cV,o3,hex,m'⟩:=bd.1.setInt hl 2 (by decide) (wrap64 ((z:Int) - 1)) {R bs k with up:=wrap64 ((z:Int) - 1)} (fun _ _ _ _=>rfl) ⟨rfl,rfl,rfl,rfl⟩;obtain ⟨Ev,kU⟩:=Kd.y' bd.1.tasks cZ rfl;refine e9 (u:=.int .i64 (wrap64 ((z:Int) - 1))) rfl rfl _ _ rfl (g:=cZ) (off:=k*13+2) rfl rfl rfl rfl (by kernel_rfl) ⟨hex,m'⟩ ?_;intro bV aH;replace bd:=am (show b8 _ _ _ _ _ _ bV by rw [aH];exact dm);replace ax:=am (show bV.heap[fp]? = some (.cells #[.slice none 0 0,.slice none 0 0] 26 (0,0)) by rw [aH];exact eA (p:=⟨cZ,k*13+2,none⟩) ax.1 (fun he=>(by rw [<-show fp=cZ from he,kl.1] at cV;cases cV)) (.int .i64 (wrap64 ((z:Int) - 1))));replace bj:=am (show bV.heap[hL]? = some (.cells #[.slice none 0 0,.slice none 0 0,.int .i64 0,.slice none 0 0] 31 (0,0)) by rw [aH];exact eA (p:=⟨cZ,k*13+2,none⟩) bj.1 (fun he=>(by rw [<-show hL=cZ from he,km.1] at cV;cases cV)) (.int .i64 (wrap64 ((z:Int) - 1))));replace aj:=am (show bV.heap[de]? = some (.cells #[.slice A eo dW,.slice B eX fE] 26 (0,0)) by rw [aH];exact eA (p:=⟨cZ,k*13+2,none⟩) aj.1 (fun he=>(by rw [<-show de=cZ from he,mc.1] at cV;cases cV)) (.int .i64 (wrap64 ((z:Int) - 1))));replace al:=am (show bV.heap[gs]? = some (.cells #[.slice jB bs.cells.length i',.slice (some ⟨cZ,0,none⟩) bs.tasks.length ut,.int .i64 bs.clock,.slice jq bs.log.length ul] 31 (0,0)) by rw [aH];exact eA (p:=⟨cZ,k*13+2,none⟩) al.1 (fun he=>(by rw [<-show gs=cZ from he,gK.1] at cV;cases cV)) (.int .i64 (wrap64 ((z:Int) - 1))));replace bc:=am (show (Kd.int .i64).aC 3 bV w.heap.size (fun _=>True) (.slice A eo dW) p.cells by rw [aH];exact lN bc.1 kU (by decide) (k*13+2) (.int .i64 (wrap64 ((z:Int) - 1))));replace bq:=am (show (Kd.slice 55 kAct).aC 48 bV w.heap.size (fun _=>True) (.slice B eX fE) p.an by rw [aH];exact lN bq.1 kU (by decide) (k*13+2) (.int .i64 (wrap64 ((z:Int) - 1))));replace ag:=am (show ee w0 w g b _ bV by rw [aH];exact ag.1.set o3 (k*13+2) (.int .i64 (wrap64 ((z:Int) - 1))));clear aH bg bu cM a5 dm cV o3 hex m' kU;have bu:=ae ax;have cM:=ae bj;have a5:=ae aj;have bg:=ae al))
   replace bd:=am bd.1.xt;have kp:=am (iB.1.th (by have:=eD.1;omega));exact wW ax bj aj al bc bq bd ag (am (by have:=cd.1;omega)) im kl km mc gK (am (Gk kp.1 hl rfl rfl rfl rfl)) (am (by have:=iB.1.room;have:=iB.1.many;have:=eD.1;show bs.log.length+(bs.tasks.set _ _).length<=1000;rw [List.length_set];omega)) (am (by show 1<=(bs.tasks.set _ _).length;rw [List.length_set];exact lZ.1))
  ·obtain ⟨gZ,adi,Vr⟩:=bd.1.tg (by have:=nZ.1;omega)
   injection Vr with Xh Xi Xj;subst Xh;clear Xi Xj;have Vs:0 < bs.cells.length:=by have:=nZ.1;omega
   have acx:(0:Int) < (bs.cells.length:Int):=by omega
   go_wp2_with (first
   |(go_at_call 40;fail))
   refine kO (n:=12) (S:=fun W=>W.heap[gs]? = some (.cells #[.slice (some ⟨gZ,0,none⟩) bs.cells.length i',.slice ma bs.tasks.length ut,.int .i64 bs.clock,.slice jq bs.log.length ul] 31 (0,0))) (ds:= [9,10,11]) (by kernel_rfl) rfl (by exact gW al.1) (fun aK=> ?_);have I:=ei (Below.refl wn.heap.size wn);generalize wn.drew=fN at I aK ⊢;replace bd:=am (bd.1.grow I);replace bc:=c9 bc I;replace bq:=c9 bq I;replace ax:=aV ax I;replace bj:=aV bj I;replace aj:=aV aj I;replace al:=aV al I;replace ag:=am (ag.1.grow I);clear bu cM a5 bg;have bu:=ae ax;have cM:=ae bj;have a5:=ae aj;have bg:=ae al;clear I;refine hn 5 7 [0,1,2,3,4,5,6] aK ?_
   iterate 7 (refine hR rfl (by intro W bU;have t0:=bf bU;clear bU;go_simp;with_reducible rfl) ?_)
   refine bN ?_;refine fs 7 (some 76) (fun K au=> ?_);refine kW Tryz.func40 #[.pointer (some ⟨g,0,none⟩),.int .i64 (wrap64 ((bs.tasks.length:Int)+2))] ?_;refine (ig ag.1 cl.1 (by have:=cd.1;have:=lH.1;omega) (wrap64 ((bs.tasks.length:Int)+2))).mono ?_;rintro e wn ⟨z,bY,rfl,aX,fk,aO,J⟩;refine ⟨_,rfl, ?_⟩;refine au.out _ _ (ag.1.dH J aK (by decide)) (fun aK=>e8 ?_);clear au K
   replace bd:=am (bd.1.move J.1 (fun jM aT ak=>J.2 jM ak (fun he=>aT (by rw [he];exact im.1)) (by simp)));clear aX;replace cd:=am (show bz<=bY/\bY<=bz+7004 from by have:=cd.1;(try have:=fC.1);(try have:=gR.1);omega);clear fk;replace bc:=am (ag.1.fa J bc.1 (by decide));replace bq:=am (ag.1.fa J bq.1 (by decide));replace ax:=am (ag.1.dH J ax.1 (by decide));replace bj:=am (ag.1.dH J bj.1 (by decide));replace aj:=am (ag.1.dH J aj.1 (by decide));replace al:=am (ag.1.dH J al.1 (by decide));replace ag:=am (aO);clear bu cM a5 bg;have bu:=ae ax;have cM:=ae bj;have a5:=ae aj;have bg:=ae al;clear J aO;refine hn 3 1 [8] aK ?_;refine Gl (v:= ?_) (a':= ?_) rfl (Or.inl ⟨by rfl, ?_⟩) ?_ ?_;rotate_left
   ·intro W bU
    go_simp
    with_reducible rfl
   rotate_left
   ·simp only [Act.put,nL,nM,nN,k0]
    rfl
   refine bN ?_;clear aK;refine lM (fuel:=3) 9 (by kernel_rfl) ?_;simp only [List.drop_succ_cons,List.drop_zero]
   go_wp2_with (first
   |((with_reducible refine bT 3 79 ?_);obtain ⟨dm,cV,o3,hex,m'⟩:=bd.1.Y6 (i:=0) Vs (wrap64 ((z:Int) - 1));obtain ⟨Ev,kU⟩:=Kd.y' bd.1.cells gZ rfl;refine e9 (u:=.int .i64 (wrap64 ((z:Int) - 1))) rfl rfl _ _ rfl (g:=gZ) (off:=0*3+2) rfl rfl rfl rfl (by kernel_rfl) ⟨hex,m'⟩ ?_;intro bV aH;replace bd:=am (show b8 _ _ _ _ _ _ bV by rw [aH];exact dm);replace ax:=am (show bV.heap[fp]? = some (.cells #[.slice none 0 0,.slice none 0 0] 26 (0,0)) by rw [aH];exact eA (p:=⟨gZ,0*3+2,none⟩) ax.1 (fun he=>(by rw [<-show fp=gZ from he,kl.1] at cV;cases cV)) (.int .i64 (wrap64 ((z:Int) - 1))));replace bj:=am (show bV.heap[hL]? = some (.cells #[.slice none 0 0,.slice none 0 0,.int .i64 0,.slice none 0 0] 31 (0,0)) by rw [aH];exact eA (p:=⟨gZ,0*3+2,none⟩) bj.1 (fun he=>(by rw [<-show hL=gZ from he,km.1] at cV;cases cV)) (.int .i64 (wrap64 ((z:Int) - 1))));replace aj:=am (show bV.heap[de]? = some (.cells #[.slice A eo dW,.slice B eX fE] 26 (0,0)) by rw [aH];exact eA (p:=⟨gZ,0*3+2,none⟩) aj.1 (fun he=>(by rw [<-show de=gZ from he,mc.1] at cV;cases cV)) (.int .i64 (wrap64 ((z:Int) - 1))));replace al:=am (show bV.heap[gs]? = some (.cells #[.slice (some ⟨gZ,0,none⟩) bs.cells.length i',.slice ma bs.tasks.length ut,.int .i64 bs.clock,.slice jq bs.log.length ul] 31 (0,0)) by rw [aH];exact eA (p:=⟨gZ,0*3+2,none⟩) al.1 (fun he=>(by rw [<-show gs=gZ from he,gK.1] at cV;cases cV)) (.int .i64 (wrap64 ((z:Int) - 1))));replace bc:=am (show (Kd.int .i64).aC 3 bV w.heap.size (fun _=>True) (.slice A eo dW) p.cells by rw [aH];exact lN bc.1 kU (by decide) (0*3+2) (.int .i64 (wrap64 ((z:Int) - 1))));replace bq:=am (show (Kd.slice 55 kAct).aC 48 bV w.heap.size (fun _=>True) (.slice B eX fE) p.an by rw [aH];exact lN bq.1 kU (by decide) (0*3+2) (.int .i64 (wrap64 ((z:Int) - 1))));replace ag:=am (show ee w0 w g b _ bV by rw [aH];exact ag.1.set o3 (0*3+2) (.int .i64 (wrap64 ((z:Int) - 1))));clear aH bg bu cM a5 dm cV o3 hex m' kU;have bu:=ae ax;have cM:=ae bj;have a5:=ae aj;have bg:=ae al))
   replace bd:=am bd.1.xt;have kp:=am (iB.1.th (by have:=eD.1;omega));have E6:(setCell bs 0 {cellAt bs.cells 0 with lock:=wrap64 ((z:Int) - 1)}).cells.length=bs.cells.length:=by simp [setCell]
   exact wW ax bj aj al bc bq bd ag (am (by have:=cd.1;omega)) im kl km mc gK (am ⟨by rw [E6];exact kp.1.cells,kp.1.tasks,kp.1.log,kp.1.task,kp.1.kX⟩) (am (by have:=iB.1.room;have:=iB.1.many;have:=eD.1;show bs.log.length+bs.tasks.length<=1000;omega)) (am lZ.1)
  ·obtain ⟨cZ,p6,r3⟩:=bd.1.iV (by have:=lZ.1;omega)
   injection r3 with xD xE xF;subst xD;clear xE xF;have Hp:(0:Int)<=(k:Int):=by omega
   have Hq:(k:Int) < (bs.tasks.length:Int):=by omega
   go_wp2_with (first
   |(go_at_call 40;fail)
   |((with_reducible refine bT 3 89 ?_);obtain ⟨dm,cV,o3,hex,m'⟩:=bd.1.setInt hl 7 (by decide) (wrap64 (bs.clock+1)) {R bs k with since:=wrap64 (bs.clock+1)} (fun _ _ _ _=>rfl) ⟨rfl,rfl,rfl,rfl⟩;obtain ⟨Ev,kU⟩:=Kd.y' bd.1.tasks cZ rfl;refine e9 (u:=.int .i64 (wrap64 (bs.clock+1))) rfl rfl _ _ rfl (g:=cZ) (off:=k*13+7) rfl rfl rfl rfl (by kernel_rfl) ⟨hex,m'⟩ ?_;intro bV aH;replace bd:=am (show b8 _ _ _ _ _ _ bV by rw [aH];exact dm);replace ax:=am (show bV.heap[fp]? = some (.cells #[.slice none 0 0,.slice none 0 0] 26 (0,0)) by rw [aH];exact eA (p:=⟨cZ,k*13+7,none⟩) ax.1 (fun he=>(by rw [<-show fp=cZ from he,kl.1] at cV;cases cV)) (.int .i64 (wrap64 (bs.clock+1))));replace bj:=am (show bV.heap[hL]? = some (.cells #[.slice none 0 0,.slice none 0 0,.int .i64 0,.slice none 0 0] 31 (0,0)) by rw [aH];exact eA (p:=⟨cZ,k*13+7,none⟩) bj.1 (fun he=>(by rw [<-show hL=cZ from he,km.1] at cV;cases cV)) (.int .i64 (wrap64 (bs.clock+1))));replace aj:=am (show bV.heap[de]? = some (.cells #[.slice A eo dW,.slice B eX fE] 26 (0,0)) by rw [aH];exact eA (p:=⟨cZ,k*13+7,none⟩) aj.1 (fun he=>(by rw [<-show de=cZ from he,mc.1] at cV;cases cV)) (.int .i64 (wrap64 (bs.clock+1))));replace al:=am (show bV.heap[gs]? = some (.cells #[.slice jB bs.cells.length i',.slice (some ⟨cZ,0,none⟩) bs.tasks.length ut,.int .i64 bs.clock,.slice jq bs.log.length ul] 31 (0,0)) by rw [aH];exact eA (p:=⟨cZ,k*13+7,none⟩) al.1 (fun he=>(by rw [<-show gs=cZ from he,gK.1] at cV;cases cV)) (.int .i64 (wrap64 (bs.clock+1))));replace bc:=am (show (Kd.int .i64).aC 3 bV w.heap.size (fun _=>True) (.slice A eo dW) p.cells by rw [aH];exact lN bc.1 kU (by decide) (k*13+7) (.int .i64 (wrap64 (bs.clock+1))));replace bq:=am (show (Kd.slice 55 kAct).aC 48 bV w.heap.size (fun _=>True) (.slice B eX fE) p.an by rw [aH];exact lN bq.1 kU (by decide) (k*13+7) (.int .i64 (wrap64 (bs.clock+1))));replace ag:=am (show ee w0 w g b _ bV by rw [aH];exact ag.1.set o3 (k*13+7) (.int .i64 (wrap64 (bs.clock+1))));clear aH bg bu cM a5 dm cV o3 hex m' kU;have bu:=ae ax;have cM:=ae bj;have a5:=ae aj;have bg:=ae al))
   replace bd:=am bd.1.xt;have kp:=am (iB.1.th (by have:=eD.1;omega));exact wW ax bj aj al bc bq bd ag (am (by have:=cd.1;omega)) im kl km mc gK (am (Gk kp.1 hl rfl rfl rfl rfl)) (am (by have:=iB.1.room;have:=iB.1.many;have:=eD.1;show bs.log.length+(bs.tasks.set _ _).length<=1000;rw [List.length_set];omega)) (am (by show 1<=(bs.tasks.set _ _).length;rw [List.length_set];exact lZ.1))
  ·obtain ⟨cZ,p6,r3⟩:=bd.1.iV (by have:=lZ.1;omega)
   injection r3 with xD xE xF;subst xD;clear xE xF;have Hp:(0:Int)<=(k:Int):=by omega
   have Hq:(k:Int) < (bs.tasks.length:Int):=by omega
   obtain ⟨v10,dL,jv⟩:=bd.1.Yw hl;obtain ⟨zN,zO,c'⟩:=Kd.bt jv;subst c';have kA:=am jv;have hc:=am dL;have M9:=am (iB.1.ai hl);clear jv dL
   go_wp2_with (first
   |(go_at_call 40;fail))
   refine kO (n:=17) (S:=fun W=>W.heap[gs]? = some (.cells #[.slice jB bs.cells.length i',.slice (some ⟨cZ,0,none⟩) bs.tasks.length ut,.int .i64 bs.clock,.slice jq bs.log.length ul] 31 (0,0))/\W.cell? ⟨cZ,k*13+10,none⟩=some (.slice zN (R bs k).ai.length zO)) (ds:= [14,15,16]) (by kernel_rfl) rfl ⟨gW al.1,hc.1⟩ (fun aK=> ?_);have I:=ei (Below.refl wn.heap.size wn);generalize wn.drew=fN at I aK ⊢;clear hc;replace bd:=am (bd.1.grow I);replace bc:=c9 bc I;replace bq:=c9 bq I;replace kA:=c9 kA I;replace ax:=aV ax I;replace bj:=aV bj I;replace aj:=aV aj I;replace al:=aV al I;replace ag:=am (ag.1.grow I);clear bu cM a5 bg;have bu:=ae ax;have cM:=ae bj;have a5:=ae aj;have bg:=ae al;clear I;refine hn 7 10 [0,1,2,3,4,5,6,7,8,9] aK ?_
   iterate 10 (refine hR rfl (by rintro W ⟨bU,s1⟩;have t0:=bf bU;clear bU;go_simp;with_reducible rfl) ?_)
   refine bN ?_;refine fs 10 (some 102) (fun K au=> ?_);refine kW Tryz.func40 #[.pointer (some ⟨g,0,none⟩),.int .i64 5] ?_;refine (ig ag.1 cl.1 (by have:=cd.1;have:=lH.1;omega) 5).mono ?_;rintro e wn ⟨z,bY,rfl,aX,fk,aO,J⟩;refine ⟨_,rfl, ?_⟩;refine au.out _ _ (⟨ag.1.dH J aK.1 (by decide),aan aK.2 J (fun he=>by have aA:=bd.1.fj cZ rfl;rw [he,im.1] at aA;cases aA)⟩) (fun aK=>e8 ?_);clear au K
   replace bd:=am (bd.1.move J.1 (fun jM aT ak=>J.2 jM ak (fun he=>aT (by rw [he];exact im.1)) (by simp)));clear aX;replace cd:=am (show bz<=bY/\bY<=bz+7004 from by have:=cd.1;(try have:=fC.1);(try have:=gR.1);omega);clear fk;replace bc:=am (ag.1.fa J bc.1 (by decide));replace bq:=am (ag.1.fa J bq.1 (by decide));replace kA:=am (ag.1.fa J kA.1 (by decide));replace ax:=am (ag.1.dH J ax.1 (by decide));replace bj:=am (ag.1.dH J bj.1 (by decide));replace aj:=am (ag.1.dH J aj.1 (by decide));replace al:=am (ag.1.dH J al.1 (by decide));replace ag:=am (aO);clear bu cM a5 bg;have bu:=ae ax;have cM:=ae bj;have a5:=ae aj;have bg:=ae al;clear J aO;refine fs 11 (some 103) (fun K au=> ?_);refine mV (v:=.agg #[.int .i64 z,.int .i64 0]) (w1:=wn) (by rfl) rfl (by go_simp<;>rfl) ?_;refine au.out _ _ (aK) (fun aK=>e8 ?_);clear au K
   refine fs 12 (some 104) (fun K au=> ?_);refine mV (v:=.slice (some ⟨wn.heap.size,0,none⟩) 1 1) (w1:=wn.alloc (.cells #[.int .i64 z,.int .i64 0] 52 (0,0))) (by rfl) rfl (by go_simp<;>rfl) ?_;have kJ:=aK;refine au.out _ _ (⟨ss aK.1 _,aaT aK.2 _⟩) (fun aK=>e8 ?_);clear au K
   refine fs 13 (some 105) (fun K au=> ?_);refine Kd.BE cn (w0:=_) w.heap.size (by rfl) (.tmp 100) (.tmp 104) 36 52 (.agg #[.int .i64 0,.int .i64 0]) 16 rfl Tryz.underlying36 (by kernel_rfl) rfl (by decide) (by decide) (.slice zN (R bs k).ai.length zO) (R bs k).ai ⟨z,0⟩ [.int .i64 z,.int .i64 0] (fun q=>own q=11+8*k\/own q=0) (fun _=>False) rfl rfl (xW ⟨z,0⟩) (fun _ J=>J.elim) (fun q aF=> .inr (bd.1.dk q aF)) (Kd.cG kA.1 (fun q aF=> .inl aF)) (Below.refl _ _) ag.1.size (by have:=M9.1;omega) ?_;intro v1 g1 bG lG h6 o8;clear lG;have Hr:some cZ ≠ (Value.slice zN (R bs k).ai.length zO).ownBlock:=fun he=>by have eb:own cZ=11+8*k:=kA.1.1 cZ he.symm;rw [bd.1.fj cZ rfl] at eb;omega
   have M':some fp ≠ (Value.slice zN (R bs k).ai.length zO).ownBlock:=fun he=>by have eb:own fp=11+8*k:=kA.1.1 fp he.symm;rw [kl.1] at eb;omega
   have Na:some hL ≠ (Value.slice zN (R bs k).ai.length zO).ownBlock:=fun he=>by have eb:own hL=11+8*k:=kA.1.1 hL he.symm;rw [km.1] at eb;omega
   have Nb:some de ≠ (Value.slice zN (R bs k).ai.length zO).ownBlock:=fun he=>by have eb:own de=11+8*k:=kA.1.1 de he.symm;rw [mc.1] at eb;omega
   have zA:some gs ≠ (Value.slice zN (R bs k).ai.length zO).ownBlock:=fun he=>by have eb:own gs=11+8*k:=kA.1.1 gs he.symm;rw [gK.1] at eb;omega
   refine au.out _ _ (⟨eQ kJ.1 h6 zA,aaS kJ.2 h6 Hr⟩) (fun aK=>e8 ?_);clear au K
   have g5:g1.frozen? ⟨cZ,k*13+10,none⟩=false:=by obtain ⟨p6,kU⟩:=Kd.y' bd.1.tasks cZ rfl;exact iX (eQ kU h6 Hr) _
   have vY:∃ p6,g1.heap[cZ]? = some (.cells p6 38 (0,0)):=by obtain ⟨p6,kU⟩:=Kd.y' bd.1.tasks cZ rfl;exact ⟨p6,eQ kU h6 Hr⟩
   have Vt:=am g5;have Vu:=am vY;have zx:=am aK.2;have Nc:=am bG;have Vv:=am (show w.heap.size<=cZ from Nat.le_of_not_lt fun aJ=>by have aA:=bd.1.fj cZ rfl;rw [bd.1.low cZ aJ] at aA;cases aA);have Ew:=am (show ∀ q,own q=0->q ≠ cZ from fun q aT he=>by rw [he,bd.1.fj cZ rfl] at aT;cases aT);obtain ⟨c1,OM,vW⟩:=bd.1.aam hl kJ.2 h6 bG o8;have nx:=am OM;have DE:=ag.1.lt;have kN:=ag.1.size;replace im:=am ((vW g (by omega)).trans im.1);have ON:=am ((vW fp (dK ax.1)).trans kl.1);have OO:=am ((vW hL (dK bj.1)).trans km.1);have OP:=am ((vW de (dK aj.1)).trans mc.1);have OQ:=am ((vW gs (dK al.1)).trans gK.1);replace bc:=am (CS bc.1 kA.1 (by decide) h6);replace bq:=am (CS bq.1 kA.1 (by decide) h6);replace ax:=am (eQ ax.1 h6 M');replace bj:=am (eQ bj.1 h6 Na);replace aj:=am (eQ aj.1 h6 Nb);replace al:=am (eQ al.1 h6 zA);replace ag:=am (ag.1.grown h6 (fun q aF=>Kd.FF kA.1 q aF));have Vw:=am (Ew.1 fp kl.1);have Vx:=am (Ew.1 hL km.1);have Vy:=am (Ew.1 de mc.1);have Vz:=am (Ew.1 gs gK.1);clear aK kJ bG h6 o8 g5 vY Hr M' Na Nb zA OM vW DE kN Ew kl km mc gK kA bu cM a5 bg bd;have kl:=ON;clear ON;have km:=OO;clear OO;have mc:=OP;clear OP;have gK:=OQ;clear OQ;have bg:=ae al;refine lM (fuel:=3) 14 (by kernel_rfl) ?_;simp only [List.drop_succ_cons,List.drop_zero]
   go_wp2_with (first
   |((with_reducible refine bT 36 107 ?_);obtain ⟨adj,K'⟩:=Vu.1;refine e9 (u:=v1) rfl rfl _ _ rfl (g:=cZ) (off:=k*13+10) rfl rfl (qA Nc.1) (qF Nc.1) (by kernel_rfl) ⟨⟨_,zx.1⟩,Vt.1⟩ ?_;intro bV aH;have Qd:=am (show b8 _ _ _ _ _ _ bV by rw [aH];exact nx.1);replace ax:=am (show bV.heap[fp]? = some (.cells #[.slice none 0 0,.slice none 0 0] 26 (0,0)) by rw [aH];exact eA (p:=⟨cZ,k*13+10,none⟩) ax.1 Vw.1 v1);replace bj:=am (show bV.heap[hL]? = some (.cells #[.slice none 0 0,.slice none 0 0,.int .i64 0,.slice none 0 0] 31 (0,0)) by rw [aH];exact eA (p:=⟨cZ,k*13+10,none⟩) bj.1 Vx.1 v1);replace aj:=am (show bV.heap[de]? = some (.cells #[.slice A eo dW,.slice B eX fE] 26 (0,0)) by rw [aH];exact eA (p:=⟨cZ,k*13+10,none⟩) aj.1 Vy.1 v1);replace al:=am (show bV.heap[gs]? = some (.cells #[.slice jB bs.cells.length i',.slice (some ⟨cZ,0,none⟩) bs.tasks.length ut,.int .i64 bs.clock,.slice jq bs.log.length ul] 31 (0,0)) by rw [aH];exact eA (p:=⟨cZ,k*13+10,none⟩) al.1 Vz.1 v1);replace bc:=am (show (Kd.int .i64).aC 3 bV w.heap.size (fun _=>True) (.slice A eo dW) p.cells by rw [aH];exact lN bc.1 K' (by decide) (k*13+10) v1);replace bq:=am (show (Kd.slice 55 kAct).aC 48 bV w.heap.size (fun _=>True) (.slice B eX fE) p.an by rw [aH];exact lN bq.1 K' (by decide) (k*13+10) v1);replace ag:=am (show ee w0 w g b _ bV by rw [aH];exact ag.1.set Vv.1 (k*13+10) v1);clear aH nx bg K';have bd:=Qd;clear Qd;have bu:=ae ax;have cM:=ae bj;have a5:=ae aj;have bg:=ae al))
   replace bd:=am bd.1.xt;have kp:=am (iB.1.th (by have:=eD.1;omega));exact wW ax bj aj al bc bq bd ag (am (by have:=cd.1;omega)) im kl km mc gK (am (abi kp.1 hl rfl rfl rfl (by have:=M9.1;rw [List.length_append,List.length_singleton];omega))) (am (by have:=iB.1.room;have:=iB.1.many;have:=eD.1;show bs.log.length+(bs.tasks.set _ _).length<=1000;rw [List.length_set];omega)) (am (by show 1<=(bs.tasks.set _ _).length;rw [List.length_set];exact lZ.1))
  ·obtain ⟨i0,lh,_,cP,_⟩:=info_parts Mm
   have hcut:=Ro (P:=Tryz.prog) 27 50 .i64 Tryz.underlying27 lh 3 cP jB bs.cells.length i' 1 (by decide) (by have:=nZ.1;omega);obtain ⟨dX,Kg⟩:∃ dX,dX=(if i'=(1:Int).toNat then jB else jB.map (·.add ((1:Int).toNat*3))):=⟨_,rfl⟩;obtain ⟨cu,qa⟩:∃ cu,cu=i' - (1:Int).toNat:=⟨_,rfl⟩;rw [<-Kg,<-qa] at hcut;have Kh:=am Kg;have VA:=am qa;clear Kg qa lh cP
   go_wp2_with (first
   |((with_reducible refine aQ 26 ?_);refine C1 rfl (by first|exact hcut _|(go_simp;exact hcut _)|(go_simp;rfl)) ?_)
   |((with_reducible refine bT 27 27 ?_);refine e9 (u:=.slice dX (bs.cells.length - 1) cu) rfl rfl _ _ rfl (g:=gs) (off:=0) rfl rfl rfl rfl (by kernel_rfl) ⟨⟨_,by rw [bf al.1];rfl⟩,iX al.1 _⟩ ?_;intro bV aH;have nd:=am (show bV.heap[gs]? = some (.cells #[.slice dX (bs.cells.length - 1) cu,.slice ma bs.tasks.length ut,.int .i64 bs.clock,.slice jq bs.log.length ul] 31 (0,0)) by rw [aH];exact ku al.1 0 (.slice dX (bs.cells.length - 1) cu));replace ax:=am (show bV.heap[fp]? = some (.cells #[.slice none 0 0,.slice none 0 0] 26 (0,0)) by rw [aH];exact eA (p:=⟨gs,0,none⟩) ax.1 (g7 ax.1 al.1 (by decide)) (.slice dX (bs.cells.length - 1) cu));replace bj:=am (show bV.heap[hL]? = some (.cells #[.slice none 0 0,.slice none 0 0,.int .i64 0,.slice none 0 0] 31 (0,0)) by rw [aH];exact eA (p:=⟨gs,0,none⟩) bj.1 (ti.1) (.slice dX (bs.cells.length - 1) cu));replace aj:=am (show bV.heap[de]? = some (.cells #[.slice A eo dW,.slice B eX fE] 26 (0,0)) by rw [aH];exact eA (p:=⟨gs,0,none⟩) aj.1 (g7 aj.1 al.1 (by decide)) (.slice dX (bs.cells.length - 1) cu));replace bc:=am (show (Kd.int .i64).aC 3 bV w.heap.size (fun _=>True) (.slice A eo dW) p.cells by rw [aH];exact lN bc.1 al.1 (by decide) 0 (.slice dX (bs.cells.length - 1) cu));replace bq:=am (show (Kd.slice 55 kAct).aC 48 bV w.heap.size (fun _=>True) (.slice B eX fE) p.an by rw [aH];exact lN bq.1 al.1 (by decide) 0 (.slice dX (bs.cells.length - 1) cu));replace bd:=am (show b8 _ _ _ _ _ _ bV by rw [aH];exact bd.1.cB gK.1 0 (.slice dX (bs.cells.length - 1) cu));replace ag:=am (show ee w0 w g b _ bV by rw [aH];exact ag.1.set Ch.1 0 (.slice dX (bs.cells.length - 1) cu));clear aH al bg bu cM a5;have al:=nd;clear nd;have bu:=ae ax;have cM:=ae bj;have a5:=ae aj;have bg:=ae al))
   replace bd:=am (show xr w.heap.size own bV {bs with cells:=bs.cells.drop 1} [.slice dX (bs.cells.length - 1) cu,.slice ma bs.tasks.length ut,.int .i64 bs.clock,.slice jq bs.log.length ul] from fun dY fB pG=>by have h:=(bd.1.move fB (fun k aT ak=>pG k (bd.1.QE aT) aT ak)).ZN nZ.1;rw [Kh.1,VA.1];exact h);clear hcut;have kp:=am (iB.1.th (by have:=eD.1;omega));exact wW ax bj aj al bc bq bd ag (am (by have:=cd.1;omega)) im kl km mc gK (am ⟨(by show (bs.cells.drop 1).length<=_;rw [List.length_drop];have:=kp.1.cells;omega),kp.1.tasks,kp.1.log,kp.1.task,kp.1.kX⟩) (am (by have:=iB.1.room;have:=iB.1.many;have:=eD.1;show bs.log.length+bs.tasks.length<=1000;omega)) (am lZ.1)
 ·have lQ:(0:Int) < (x:Int):=by omega
  have x6:0 < x:=by omega
  clear az mM;replace bd:=am bd.1.xt;go_wp2;refine kO (n:=4) (S:=fun W=>W.heap[de]? = some (.cells #[.slice A eo dW,.slice B eX fE] 26 (0,0))/\W.heap[gs]? = some (.cells #[.slice jB bs.cells.length i',.slice ma bs.tasks.length ut,.int .i64 bs.clock,.slice jq bs.log.length ul] 31 (0,0))) (ds:= [3]) (by kernel_rfl) rfl ⟨gW aj.1,gW al.1⟩ (fun aK=> ?_);have I:=ei (Below.refl wn.heap.size wn);generalize wn.drew=fN at I aK ⊢;replace bd:=am (bd.1.grow I);replace bc:=c9 bc I;replace bq:=c9 bq I;replace ax:=aV ax I;replace bj:=aV bj I;replace aj:=aV aj I;replace al:=aV al I;replace ag:=am (ag.1.grow I);clear bu cM a5 bg;have bu:=ae ax;have cM:=ae bj;have a5:=ae aj;have bg:=ae al;clear I;refine hn 3 1 [0] aK ?_
  iterate 1 (refine hR rfl (by rintro W ⟨bU,s1⟩;have t0:=bf bU;have t1:=bf s1;clear bU s1;go_simp;with_reducible rfl) ?_)
  refine bN ?_;refine BY (i:=1) (j:=2) (Ni:=some 16) (Nj:=none) rfl rfl rfl rfl (by kernel_rfl) (by decide) (by decide) (fun K au=> ?_) (fun K au=> ?_)
  ·have t1:=bf aK.2
   refine mV (v:=.agg #[.slice jB bs.cells.length i',.slice ma bs.tasks.length ut,.int .i64 bs.clock,.slice jq bs.log.length ul]) (w1:=_) (by rfl) rfl (by go_simp<;>rfl) ?_;clear t1;refine au.out _ _ (aK) (fun aK=>e8 ?_);clear au K
   refine fs 2 none (fun K au=> ?_);obtain ⟨ad,U⟩:=zn (cs:= [.slice A eo dW,.slice B eX fE]) ax.1 rfl;rw [if_pos (by rfl)];refine wB rfl 26 (.tmp 2) (.tmp 15) rfl rfl rfl ax.1 rfl (by kernel_rfl) (oI rfl) ?_;generalize World.setCells _ fp 0 [.slice A eo dW,.slice B eX fE]=nR at ad U ⊢;refine au.out _ _ ⟨eQ aK.1 U (fun he=>Ne.symm qn.1 (by injection he)),eQ aK.2 U (fun he=>g7 aK.2 ax.1 (by decide) (by injection he))⟩ (fun aK=> ?_);clear au K;have h':=am ad;replace bc:=g6 bc ax U;replace bq:=g6 bq ax U;replace bj:=fV bj U (g7 bj.1 ax.1 (by decide));replace aj:=fV aj U (Ne.symm qn.1);replace al:=fV al U (g7 al.1 ax.1 (by decide));replace bd:=am (bd.1.move U.size (fun q aF ak=>U.block q ak (fun he=>aF (by injection he with he;rw [he];exact kl.1))));replace ag:=am (ag.1.grown U (fun k J=>by cases J;exact s8.1));clear ax bu cM a5 bg;have ax:=h';clear h' ad U;have bu:=ae ax;have cM:=ae bj;have a5:=ae aj;have bg:=ae al;clear aK;refine lM (fuel:=1) 3 (by kernel_rfl) ?_;simp only [List.drop_succ_cons,List.drop_zero]
   go_wp2_with (first
   |((with_reducible refine bT 31 3 ?_);refine dG bj ?_;intro wn ad U;have mv:=am ad;replace bc:=g6 bc bj U;replace bq:=g6 bq bj U;replace ax:=fV ax U (g7 ax.1 bj.1 (by decide));replace aj:=fV aj U (g7 aj.1 bj.1 (by decide));replace al:=fV al U (Ne.symm ti.1);replace bd:=am (bd.1.move U.size (fun q aF ak=>U.block q ak (fun he=>aF (by injection he with he;rw [he];exact km.1))));replace ag:=am (ag.1.grown U (fun k J=>by cases J;exact As.1));clear bj bu cM a5 bg;have bj:=mv;clear mv ad U;have bu:=ae ax;have cM:=ae bj;have a5:=ae aj;have bg:=ae al))
   refine bodyPost_ret (x3 (rs:= [.cell 2 26,.cell 3 31]) rfl (by simp) (.cell fp 26 #[.slice A eo dW,.slice B eX fE] (0,0) _ rfl ax.1 Tryz.underlying26 rfl (by kernel_rfl) (.cell hL 31 #[.slice jB bs.cells.length i',.slice ma bs.tasks.length ut,.int .i64 bs.clock,.slice jq bs.log.length ul] (0,0) _ rfl bj.1 Tryz.underlying31 rfl (by kernel_rfl) .nil))) rfl ?_;exact ⟨p,bs,_,_,_,_,rfl,mJ.1,cK.1,bc.1,bq.1,⟨Nat.le_refl _,fun dY fB pG=>bd.1 dY fB (fun jM dt aT ak=>pG jM dt ak (fun he=>aT (by rw [he];exact im.1)))⟩,iB.1.th (by have:=eD.1;omega),(by have:=iB.1.room;have:=iB.1.many;have:=eD.1;omega),lZ.1,ag.1,cd.1.1,by have:=cd.1.2;omega⟩
  ·obtain ⟨ad,U⟩:=zn (cs:= [.slice A eo dW,.slice B eX fE]) ax.1 rfl
   rw [if_pos (by rfl)];refine wB rfl 26 (.tmp 2) (.tmp 15) rfl rfl rfl ax.1 rfl (by kernel_rfl) (oI rfl) ?_;generalize World.setCells _ fp 0 [.slice A eo dW,.slice B eX fE]=nR at ad U ⊢;refine au.out _ _ ⟨eQ aK.1 U (fun he=>Ne.symm qn.1 (by injection he)),eQ aK.2 U (fun he=>g7 aK.2 ax.1 (by decide) (by injection he))⟩ (fun aK=> ?_);clear au K;have h':=am ad;replace bc:=g6 bc ax U;replace bq:=g6 bq ax U;replace bj:=fV bj U (g7 bj.1 ax.1 (by decide));replace aj:=fV aj U (Ne.symm qn.1);replace al:=fV al U (g7 al.1 ax.1 (by decide));replace bd:=am (bd.1.move U.size (fun q aF ak=>U.block q ak (fun he=>aF (by injection he with he;rw [he];exact kl.1))));replace ag:=am (ag.1.grown U (fun k J=>by cases J;exact s8.1));clear ax bu cM a5 bg;have ax:=h';clear h' ad U;have bu:=ae ax;have cM:=ae bj;have a5:=ae aj;have bg:=ae al;refine fs 1 (some 16) (fun K au=> ?_);have t1:=bf aK.2;refine mV (v:=.agg #[.slice jB bs.cells.length i',.slice ma bs.tasks.length ut,.int .i64 bs.clock,.slice jq bs.log.length ul]) (w1:=_) (by rfl) rfl (by go_simp<;>rfl) ?_;clear t1;refine au.out _ _ (aK) (fun aK=>e8 ?_);clear au K
   clear aK;refine lM (fuel:=1) 3 (by kernel_rfl) ?_;simp only [List.drop_succ_cons,List.drop_zero]
   go_wp2_with (first
   |((with_reducible refine bT 31 3 ?_);refine dG bj ?_;intro wn ad U;have mv:=am ad;replace bc:=g6 bc bj U;replace bq:=g6 bq bj U;replace ax:=fV ax U (g7 ax.1 bj.1 (by decide));replace aj:=fV aj U (g7 aj.1 bj.1 (by decide));replace al:=fV al U (Ne.symm ti.1);replace bd:=am (bd.1.move U.size (fun q aF ak=>U.block q ak (fun he=>aF (by injection he with he;rw [he];exact km.1))));replace ag:=am (ag.1.grown U (fun k J=>by cases J;exact As.1));clear bj bu cM a5 bg;have bj:=mv;clear mv ad U;have bu:=ae ax;have cM:=ae bj;have a5:=ae aj;have bg:=ae al))
   refine bodyPost_ret (x3 (rs:= [.cell 2 26,.cell 3 31]) rfl (by simp) (.cell fp 26 #[.slice A eo dW,.slice B eX fE] (0,0) _ rfl ax.1 Tryz.underlying26 rfl (by kernel_rfl) (.cell hL 31 #[.slice jB bs.cells.length i',.slice ma bs.tasks.length ut,.int .i64 bs.clock,.slice jq bs.log.length ul] (0,0) _ rfl bj.1 Tryz.underlying31 rfl (by kernel_rfl) .nil))) rfl ?_;exact ⟨p,bs,_,_,_,_,rfl,mJ.1,cK.1,bc.1,bq.1,⟨Nat.le_refl _,fun dY fB pG=>bd.1 dY fB (fun jM dt aT ak=>pG jM dt ak (fun he=>aT (by rw [he];exact im.1)))⟩,iB.1.th (by have:=eD.1;omega),(by have:=iB.1.room;have:=iB.1.many;have:=eD.1;omega),lZ.1,ag.1,cd.1.1,by have:=cd.1.2;omega⟩
theorem aaU:(Tryz.prog.info? 50).map (fun i=>(i.zero,i.size,i.bytes))=some (some (.agg #[.int .i64 0,.int .i64 0,.int .i64 0]),3,24):=by kernel_rfl
theorem II (A:Option Addr) (c:Nat) (xs:List Int) (w:World) (az:(Kd.int .i64).C w A xs.length xs) (aS:xs.length<=1048576):
  Calls Tryz.prog 113 #[.slice A xs.length c] w fun e af=>∃ v,e= .returned v/\(Kd.int .i64).aC 3 af w.heap.size (fun _=>True) v xs/\Below w.heap.size w af:=by
 have OR:∀ (w:World) (a:Option Addr) (n c n' rA:Nat),(binOp .eql 23 (.slice a n c) (.slice none n' rA)).run Tryz.prog w= .ok (.bool a.isNone) w:=fun w a n c n' rA=>Lib.run_eql_slice_nil w _ _ a n c n' rA Tryz.underlying23
 have ew:=am az;obtain ⟨h1,ar,aA⟩:=az
 cases A with
 | none=>
  obtain rfl:xs= []:=by
   cases xs with
   | nil=>rfl
   | cons x l=>obtain ⟨cy,ha,-⟩:=aA (by simp);cases ha
  clear h1 ar aA;go_enter Tryz.func113,Tryz.ntmps113;go_wp2;go_ret
  exact ⟨_,rfl,Kd.ht _ _ _ _ _,Below.refl _ _⟩
 | some cy=>
  clear h1 ar aA;go_enter Tryz.func113,Tryz.ntmps113
  go_wp2_with (first
  |((with_reducible refine aQ 5 ?_);refine Kd.jX (w0:=w) (Kd.int .i64) w.heap.size 3 rfl (N:=5) rfl (xs:=([]:List Int)) (inner:= []) (ok:=fun _=>True) (okp:=fun _=>True) (by go_simp<;>rfl) (cp.none _ _) (fun _ J=>J) trivial (Below.refl _ _) (Nat.le_refl _) (by simp) ?_;intro v0 eE aT I U _;have eB:=am aT;have ab:=am I;replace ew:=am (Kd.bW ew.1 (BD U));clear aT I U)
  |((with_reducible refine jJ (b:=.append) (xs:=#[.tmp 5,.tmp 6]) rfl ?_);at_builtin;refine Kd.BF (Kd.int .i64) (Rr:=(Kd.int .i64).K eE) (w0:=w) w.heap.size rfl (.tmp 5) (.tmp 6) 23 3 (.int .i64 0) 8 rfl Tryz.underlying23 od rfl (by decide) (by decide) v0 [] xs (some cy) xs.length c (fun _=>True) (fun _=>False) rfl rfl eB.1 ew.1 (fun _ _ h=>h) (fun _ J=>J.elim) (fun _ _=>trivial) ab.1 (tn ab.1) (by simp;omega) ?_;intro v1 dJ aT I U _;have sP:=am aT;have gH:=am I;clear aT I U eB ab))
  go_ret;exact ⟨_,rfl,sP.1,gH.1⟩
theorem IJ (A:Option Addr) (c:Nat) (xs:List cI) (w:World) (az:cn.C w A xs.length xs) (aS:xs.length<=1048576):
  Calls Tryz.prog 129 #[.slice A xs.length c] w fun e af=>∃ v,e= .returned v/\cn.aC 52 af w.heap.size (fun _=>True) v xs/\Below w.heap.size w af:=by
 have OR:∀ (w:World) (a:Option Addr) (n c n' rA:Nat),(binOp .eql 36 (.slice a n c) (.slice none n' rA)).run Tryz.prog w= .ok (.bool a.isNone) w:=fun w a n c n' rA=>Lib.run_eql_slice_nil w _ _ a n c n' rA Tryz.underlying36
 have ew:=am az;obtain ⟨h1,ar,aA⟩:=az
 cases A with
 | none=>
  obtain rfl:xs= []:=by
   cases xs with
   | nil=>rfl
   | cons x l=>obtain ⟨cy,ha,-⟩:=aA (by simp);cases ha
  clear h1 ar aA;go_enter Tryz.func129,Tryz.ntmps129;go_wp2;go_ret
  exact ⟨_,rfl,Kd.ht _ _ _ _ _,Below.refl _ _⟩
 | some cy=>
  clear h1 ar aA;go_enter Tryz.func129,Tryz.ntmps129
  go_wp2_with (first
  |((with_reducible refine aQ 5 ?_);refine Kd.jX (w0:=w) cn w.heap.size 52 rfl (N:=5) rfl (xs:=([]:List cI)) (inner:= []) (ok:=fun _=>True) (okp:=fun _=>True) (by go_simp<;>rfl) (cp.none _ _) (fun _ J=>J) trivial (Below.refl _ _) (Nat.le_refl _) (by simp) ?_;intro v0 eE aT I U _;have eB:=am aT;have ab:=am I;replace ew:=am (Kd.bW ew.1 (BD U));clear aT I U)
  |((with_reducible refine jJ (b:=.append) (xs:=#[.tmp 5,.tmp 6]) rfl ?_);at_builtin;refine Kd.BF cn (Rr:=cn.K eE) (w0:=w) w.heap.size rfl (.tmp 5) (.tmp 6) 36 52 (.agg #[.int .i64 0,.int .i64 0]) 16 rfl Tryz.underlying36 xZ rfl (by decide) (by decide) v0 [] xs (some cy) xs.length c (fun _=>True) (fun _=>False) rfl rfl eB.1 ew.1 (fun _ _ h=>h) (fun _ J=>J.elim) (fun _ _=>trivial) ab.1 (tn ab.1) (by simp;omega) ?_;intro v1 dJ aT I U _;have sP:=am aT;have gH:=am I;clear aT I U eB ab))
  go_ret;exact ⟨_,rfl,sP.1,gH.1⟩
theorem S' (A:Option Addr) (c:Nat) (xs:List Cell) (w:World) (az:iU.C w A xs.length xs) (aS:xs.length<=1048576):
  Calls Tryz.prog 98 #[.slice A xs.length c] w fun e af=>∃ v,e= .returned v/\iU.aC 50 af w.heap.size (fun _=>True) v xs/\Below w.heap.size w af:=by
 have OR:∀ (w:World) (a:Option Addr) (n c n' rA:Nat),(binOp .eql 27 (.slice a n c) (.slice none n' rA)).run Tryz.prog w= .ok (.bool a.isNone) w:=fun w a n c n' rA=>Lib.run_eql_slice_nil w _ _ a n c n' rA Tryz.underlying27
 have ew:=am az;obtain ⟨h1,ar,aA⟩:=az
 cases A with
 | none=>
  obtain rfl:xs= []:=by
   cases xs with
   | nil=>rfl
   | cons x l=>obtain ⟨cy,ha,-⟩:=aA (by simp);cases ha
  clear h1 ar aA;go_enter Tryz.func98,Tryz.ntmps98;go_wp2;go_ret
  exact ⟨_,rfl,Kd.ht _ _ _ _ _,Below.refl _ _⟩
 | some cy=>
  clear h1 ar aA;go_enter Tryz.func98,Tryz.ntmps98
  go_wp2_with (first
  |((with_reducible refine aQ 5 ?_);refine Kd.jX (w0:=w) iU w.heap.size 50 rfl (N:=5) rfl (xs:=([]:List Cell)) (inner:= []) (ok:=fun _=>True) (okp:=fun _=>True) (by go_simp<;>rfl) (cp.none _ _) (fun _ J=>J) trivial (Below.refl _ _) (Nat.le_refl _) (by simp) ?_;intro v0 eE aT I U _;have eB:=am aT;have ab:=am I;replace ew:=am (Kd.bW ew.1 (BD U));clear aT I U)
  |((with_reducible refine jJ (b:=.append) (xs:=#[.tmp 5,.tmp 6]) rfl ?_);at_builtin;refine Kd.BF iU (Rr:=iU.K eE) (w0:=w) w.heap.size rfl (.tmp 5) (.tmp 6) 27 50 (.agg #[.int .i64 0,.int .i64 0,.int .i64 0]) 24 rfl Tryz.underlying27 aaU rfl (by decide) (by decide) v0 [] xs (some cy) xs.length c (fun _=>True) (fun _=>False) rfl rfl eB.1 ew.1 (fun _ _ h=>h) (fun _ J=>J.elim) (fun _ _=>trivial) ab.1 (tn ab.1) (by simp;omega) ?_;intro v1 dJ aT I U _;have sP:=am aT;have gH:=am I;clear aT I U eB ab))
  go_ret;exact ⟨_,rfl,sP.1,gH.1⟩
open Go.Extern.Stop Go.Stop Go.Extern
theorem RE (v:Value) (w:World):(Extern.ReflectliteType.typeOf #[.iface 187 v]).run Tryz.prog w= .ok (.iface 126 (.agg #[.pointer (some ⟨2,187,none⟩)])) w:=by kernel_rfl
theorem SO (w:World):((Extern.ReflectliteType.method fun t=>do Go.Extern.Rtype.noPackHeld "Comparable" t;(fun a=>Value.bool a.comparable) <$> typeInfo t) #[.agg #[.pointer (some ⟨2,187,none⟩)]]).run Tryz.prog w= .ok (.bool true) w:=by kernel_rfl
theorem RF (v:Value) (w:World):(Go.method 325 126 v "Comparable").run Tryz.prog w= .ok (176,v) w:=by kernel_rfl
theorem QW:(Tryz.prog.info? 187).map (·.comparable)=some true:=by kernel_rfl
theorem QX:(Tryz.prog.info? 213).map (·.size)=some 1:=by kernel_rfl
theorem Xk (v:Value) (tJ:TypeId) (w:World):(Instr.typeAssert (.iface 187 v) tJ 128 true).run Tryz.prog w= .ok (.tuple #[.nilIface,.bool false]) w:=run_typeAssert_lacksB Tryz.underlying128 (by kernel_rfl) (by kernel_rfl) v tJ w
theorem ZO (v:Value) (tJ:TypeId) (w:World):(Instr.typeAssert (.iface 187 v) tJ 131 true).run Tryz.prog w= .ok (.tuple #[.nilIface,.bool false]) w:=run_typeAssert_lacksB Tryz.underlying131 (by kernel_rfl) (by kernel_rfl) v tJ w
theorem aao (v:Value) (tJ:TypeId) (w:World):(Instr.typeAssert (.iface 187 v) tJ 133 true).run Tryz.prog w= .ok (.tuple #[.nilIface,.bool false]) w:=run_typeAssert_lacksB Tryz.underlying133 (by kernel_rfl) (by kernel_rfl) v tJ w
theorem Rh (a:Addr) (w:World):
  Calls Tryz.prog 46 #[.iface 187 (.pointer (some a)),.iface 187 (.pointer (some a))] w fun e af=>e= .returned (.bool true)/\w=af:=by
 obtain ⟨i,aa,La⟩:=Option.map_eq_some_iff.1 QW;obtain ⟨j,aI,OS⟩:=Option.map_eq_some_iff.1 QX;have dU:=@run_callFunc_extern Tryz.prog 64 _ Extern.ReflectliteType.typeOf Tryz.func64 (by kernel_rfl) (by kernel_rfl) (by kernel_rfl) (by kernel_rfl);have VB:=@run_callFunc_extern Tryz.prog 176 _ (Extern.ReflectliteType.method fun t=>do Go.Extern.Rtype.noPackHeld "Comparable" t;pure (.bool (<-typeInfo t).comparable)) Tryz.func176 (by kernel_rfl) (by kernel_rfl) (by kernel_rfl) (by kernel_rfl);have TA:=RE;have TB:=SO;have TC:=RF;have heq:=run_eql_iface_ptr_same (P:=Tryz.prog) w a Tryz.underlying69 Tryz.underlying187 aa La aI;go_enter Tryz.func46,Tryz.ntmps46;go_wp2;refine wp_loop_rounds 1 ?_;rw [rounds_succ];go_wp2;go_ret;exact ⟨rfl,rfl⟩
theorem Yx (b:Addr) (w:World):
  Calls Tryz.prog 46 #[.nilIface,.iface 187 (.pointer (some b))] w fun e af=>e= .returned (.bool false)/\w=af:=by
 have aS:=run_eql_iface_nil_left (P:=Tryz.prog) w 187 (.pointer (some b)) Tryz.underlying69;go_enter Tryz.func46,Tryz.ntmps46;go_wp2;go_ret;exact ⟨rfl,rfl⟩
theorem ZP (a b:Addr) (kf er:Array Value) (TD BP:TypeId) (w:World) (cm:a ≠ b) (ha:w.heap[a.block]? = some (.cells kf TD (0,0))) (I:w.heap[b.block]? = some (.cells er BP (0,0))):
  Calls Tryz.prog 46 #[.iface 187 (.pointer (some a)),.iface 187 (.pointer (some b))] w fun e af=>e= .returned (.bool false)/\w=af:=by
 obtain ⟨i,aa,La⟩:=Option.map_eq_some_iff.1 QW;obtain ⟨j,aI,OS⟩:=Option.map_eq_some_iff.1 QX;have dU:=@run_callFunc_extern Tryz.prog 64 _ Extern.ReflectliteType.typeOf Tryz.func64 (by kernel_rfl) (by kernel_rfl) (by kernel_rfl) (by kernel_rfl);have VB:=@run_callFunc_extern Tryz.prog 176 _ (Extern.ReflectliteType.method fun t=>do Go.Extern.Rtype.noPackHeld "Comparable" t;pure (.bool (<-typeInfo t).comparable)) Tryz.func176 (by kernel_rfl) (by kernel_rfl) (by kernel_rfl) (by kernel_rfl);have TA:=RE;have TB:=SO;have TC:=RF;have acy:=Xk;have acz:=ZO;have acA:=aao;have heq:=run_eql_iface_ptr_other (P:=Tryz.prog) w Tryz.underlying69 Tryz.underlying187 aa La aI (by rw [OS];decide) cm ha I;go_enter Tryz.func46,Tryz.ntmps46;go_wp2;refine wp_loop_rounds 1 ?_;rw [rounds_succ];go_wp2;go_ret;exact ⟨rfl,rfl⟩
theorem Y8 {t:Task} {w W:World} {l:eM} {qQ sK oh sU:Nat->Prop} {v3 bC v9 v10:Value} (h:ba w W (.r sU (oQ cn 52 w.heap.size sU v10 t.ai) :: .r oh (oQ cn 52 w.heap.size oh v9 t.reads) :: .r sK (oQ (Kd.int .i64) 3 w.heap.size sK bC t.bE) :: .r qQ (oQ (Kd.int .i64) 3 w.heap.size qQ v3 t.aL) :: l)):o9 t w.heap.size W v3 bC v9 v10:=by
 have jv:cn.aC 52 W w.heap.size sU v10 t.ai:=h.so;have me:cn.aC 52 W w.heap.size oh v9 t.reads:=h.so;have vL:(Kd.int .i64).aC 3 W w.heap.size sK bC t.bE:=h.so;have hN:(Kd.int .i64).aC 3 W w.heap.size qQ v3 t.aL:=h.so;have ha:=h.apart;simp only [List.pairwise_cons] at ha;obtain ⟨Ki,oo,TE,-,-⟩:=ha;have Xl:∀ k,sK k->¬ qQ k:=TE (.r qQ (oQ (Kd.int .i64) 3 w.heap.size qQ v3 t.aL)) (by simp);have Xm:∀ k,oh k->¬ qQ k:=oo (.r qQ (oQ (Kd.int .i64) 3 w.heap.size qQ v3 t.aL)) (by simp);have XY:∀ k,sU k->¬ qQ k:=Ki (.r qQ (oQ (Kd.int .i64) 3 w.heap.size qQ v3 t.aL)) (by simp);have Xn:∀ k,oh k->¬ sK k:=oo (.r sK (oQ (Kd.int .i64) 3 w.heap.size sK bC t.bE)) (by simp);have XZ:∀ k,sU k->¬ sK k:=Ki (.r sK (oQ (Kd.int .i64) 3 w.heap.size sK bC t.bE)) (by simp);have X0:∀ k,sU k->¬ oh k:=Ki (.r oh (oQ cn 52 w.heap.size oh v9 t.reads)) (by simp);have n {v u:Value} {a b:Nat->Prop} (bp:∀ k,v.ownBlock=some k->a k) (hu:∀ k,u.ownBlock=some k->b k) (aB:∀ k,b k->¬ a k):∀ k,v.ownBlock=some k->u.ownBlock ≠ some k:=fun k h1 ar=>aB k (hu k ar) (bp k h1)
 exact ⟨Kd.cG hN (fun _ _=>trivial),Kd.cG vL (fun _ _=>trivial),Kd.cG me (fun _ _=>trivial),Kd.cG jv (fun _ _=>trivial),
  n hN.1 vL.1 Xl,n hN.1 me.1 Xm,n hN.1 jv.1 XY,n vL.1 me.1 Xn,n vL.1 jv.1 XZ,n me.1 jv.1 X0⟩
theorem ab3 (t:Task) (dn:List Value) (w:World) (a6:eV.K w t dn) (aA:t.aL.length<=1048576) (dU:t.bE.length<=1048576) (eb:t.reads.length<=1048576) (e7:t.ai.length<=1048576):
  Calls Tryz.prog 99 #[.agg dn.toArray] w fun e af=>∃ v3 bC v9 v10,e= .returned (.agg #[.int .i64 t.body,.int .i64 t.aR,.int .i64 t.up,v3,.int .i64 t.a7,.int .i64 t.aE,.int .i64 t.at_,.int .i64 t.since,bC,v9,v10,.int .i64 t.bw,.int .i64 t.from_])/\o9 t w.heap.size af v3 bC v9 v10/\Below w.heap.size w af:=by
 obtain ⟨cU,bO,gy,e1,ev,dp,e6,dL,rfl,gz,dj,og,fy,h0,hh,ko,fi⟩:=gh a6;have tx:=am dj;have TF:=am fy;have TG:=am hh;have VC:=am fi;have M:=am (ba.nil w);have C:=M.1.aw;clear a6 dj fy hh fi gz og h0 ko;go_enter Tryz.func99,Tryz.ntmps99
 go_upto_region 2 with (first
 |((first|with_reducible refine gB ?_ | with_reducible refine gA ?_);refine cx rfl M.1 ?_;clear M C;intro g W M C;simp only [ah] at C)
 |(go_at_call 113;refine (II _ _ _ _ (Kd.bW tx.1 M.1.below) aA).mono ?_;rintro e W1 ⟨v,rfl,ao,I⟩;obtain ⟨A,c,rfl⟩:=Kd.bt ao;replace M:=am (M.1.made I ao);clear C;have C:=M.1.aw;simp only [ah] at C;clear I ao)
 |((with_reducible refine da ?_);refine yd rfl rfl (by go_simp <;> rfl) M.1 ?_;clear M C;intro W M C;simp only [ah] at C))
 go_upto_region 3 with (first
 |(go_at_call 113;refine (II _ _ _ _ (Kd.bW TF.1 M.1.below) dU).mono ?_;rintro e W1 ⟨v,rfl,ao,I⟩;obtain ⟨A,c,rfl⟩:=Kd.bt ao;replace M:=am (M.1.made I ao);clear C;have C:=M.1.aw;simp only [ah] at C;clear I ao)
 |((with_reducible refine da ?_);refine yd rfl rfl (by go_simp <;> rfl) M.1 ?_;clear M C;intro W M C;simp only [ah] at C))
 go_upto_region 4 with (first
 |(go_at_call 129;refine (IJ _ _ _ _ (Kd.bW TG.1 M.1.below) eb).mono ?_;rintro e W1 ⟨v,rfl,ao,I⟩;obtain ⟨A,c,rfl⟩:=Kd.bt ao;replace M:=am (M.1.made I ao);clear C;have C:=M.1.aw;simp only [ah] at C;clear I ao)
 |((with_reducible refine da ?_);refine yd rfl rfl (by go_simp <;> rfl) M.1 ?_;clear M C;intro W M C;simp only [ah] at C))
 go_wp2_with (first
 |(go_at_call 129;refine (IJ _ _ _ _ (Kd.bW VC.1 M.1.below) e7).mono ?_;rintro e W1 ⟨v,rfl,ao,I⟩;obtain ⟨A,c,rfl⟩:=Kd.bt ao;replace M:=am (M.1.made I ao);clear C;have C:=M.1.aw;simp only [ah] at C;clear I ao)
 |((with_reducible refine da ?_);refine yd rfl rfl (by go_simp <;> rfl) M.1 ?_;clear M C;intro W M C;simp only [ah] at C)
 |((with_reducible refine cv ?_);refine dV rfl rfl M.1 ?_)
 |((with_reducible refine da ?_);refine dv rfl rfl rfl M.1 ?_;clear M C;intro W M C;simp only [ah] at C))
 refine bodyPost_ret (sx Tryz.results99 (.cell _ _ _ (0,0) _ rfl (M.1.eU.at_ (by repeat (first|exact .here | exact .kept | apply gF.there))) Tryz.underlying38 rfl (by kernel_rfl) .nil)) rfl ?_;exact ⟨_,_,_,_,rfl,Y8 M.1,M.1.below⟩
theorem aca (e:Entry) (es:List Value) (w:World) (he:hf.K w e es) (aA:e.reads.length<=1048576) (bR:e.ai.length<=1048576):
  Calls Tryz.prog 100 #[.agg es.toArray] w fun r af=>∃ v3 v4,r= .returned (.agg #[.int .i64 e.task,.int .i64 e.act,.int .i64 e.bw,v3,v4,.int .i64 e.from_])/\cn.aC 52 af w.heap.size (fun _=>True) v3 e.reads/\cn.aC 52 af w.heap.size (fun _=>True) v4 e.ai/\Below w.heap.size w af:=by
 obtain ⟨cU,bO,acB,l8,rfl,gz,dj,oq,Du⟩:=Bz he;have tx:=am dj;have TH:=am Du;have M:=am (ba.nil w);have C:=M.1.aw;clear he dj Du gz oq;go_enter Tryz.func100,Tryz.ntmps100
 go_upto_region 2 with (first
 |((first|with_reducible refine gB ?_ | with_reducible refine gA ?_);refine cx rfl M.1 ?_;clear M C;intro g W M C;simp only [ah] at C)
 |(go_at_call 129;refine (IJ _ _ _ _ (Kd.bW tx.1 M.1.below) aA).mono ?_;rintro e W1 ⟨v,rfl,ao,I⟩;obtain ⟨A,c,rfl⟩:=Kd.bt ao;replace M:=am (M.1.made I ao);clear C;have C:=M.1.aw;simp only [ah] at C;clear I ao)
 |((with_reducible refine da ?_);refine yd rfl rfl (by go_simp <;> rfl) M.1 ?_;clear M C;intro W M C;simp only [ah] at C))
 go_wp2_with (first
 |(go_at_call 129;refine (IJ _ _ _ _ (Kd.bW TH.1 M.1.below) bR).mono ?_;rintro e W1 ⟨v,rfl,ao,I⟩;obtain ⟨A,c,rfl⟩:=Kd.bt ao;replace M:=am (M.1.made I ao);clear C;have C:=M.1.aw;simp only [ah] at C;clear I ao)
 |((with_reducible refine da ?_);refine yd rfl rfl (by go_simp <;> rfl) M.1 ?_;clear M C;intro W M C;simp only [ah] at C)
 |((with_reducible refine cv ?_);refine dV rfl rfl M.1 ?_)
 |((with_reducible refine da ?_);refine dv rfl rfl rfl M.1 ?_;clear M C;intro W M C;simp only [ah] at C))
 refine bodyPost_ret (sx Tryz.results100 (.cell _ _ _ (0,0) _ rfl (M.1.eU.at_ (by repeat (first|exact .here | exact .kept | apply gF.there))) Tryz.underlying105 rfl (by kernel_rfl) .nil)) rfl ?_;exact ⟨_,_,rfl,Kd.cG M.1.so (fun _ _=>trivial),Kd.cG M.1.so (fun _ _=>trivial),M.1.below⟩
def y4 (Q:Exit->Go.Act->World->Prop) (K:Go.Act->World->Prop):Exit->Go.Act->World->Prop
 | .normal,a,w=>K a w
 | e,a,w=>Q e a w
section
variable {P:Program} {ops:Array Oper} {o:Oper} {a:Go.Act} {Q:Exit->Go.Act->World->Prop} {K:Go.Act->World->Prop} {w W:World} {l:eM} {n:Nat}
theorem ZQ {next:Go.Act->World->Prop} (h:Oper.wp P o a W next (y4 Q K)):Oper.wp P o a W next Q:=by
 unfold Oper.wp at*;generalize (execOp a.eval o).run P W=r at*
 cases r with
 | ok n af=>
  cases n <;> simp only [Oper.upon] at h ⊢ <;> first | exact h | exact Calls.mono h (fun e Uh he=>by cases e <;> exact he)
 | halt x af=>cases x <;> simp only [Oper.upon] at h ⊢ <;> exact h
theorem CX {i:Nat} (aa:ops[i]? = some o) (h:wpList P ops (y4 Q K) [o] a W):wpOp P ops Q i K a W:=by
 unfold wpOp;simp only [aa];unfold wpList at h;split at h
 ·rename_i hw
  rw [if_pos hw];rcases h with h | ⟨h1,ar⟩
  ·exact .inl (ZQ h)
  ·exact .inr ⟨h1,ar⟩
 ·rename_i hw
  rw [if_neg hw];exact h
theorem g3 (h1:ba w W l) {D:Prop} (ar:D):ba w W l/\D:=⟨h1,ar⟩
def mK (P:Program) (ops:Array Oper) (Q:Exit->Go.Act->World->Prop) (w:World) (l:eM) (ds:List Nat) (n:Nat) (is:List Nat) (a:Go.Act) (W:World):Prop:=
 fM P .any ops Q (fun V=>ba w V l) ds (n - is.length) (lu (Array.replicate n false) is) a W
variable {ds:List Nat}
theorem ot {id:Nat} {qV:eM} (ds:List Nat) (Xo:∀ V,ba w V qV->ba w V l) (M:ba w W qV) (h:∀ bM,av (ba w bM qV)->mK P ops Q w l ds n [] a bM) (hm:P.follows .mixedOrders=true:=by kernel_rfl) (aS:ops.size=n:=by rfl):(Code.region id ops true).wp P Q a W:=
 HY (S:=fun V=>ba w V l) (ds:=ds) _ hm aS rfl (Xo _ M.drew) (fun _=>h _ ⟨M.drew⟩)
theorem jO {dQ:List Nat} (is:List Nat) (M:ba w W l) (h:jx P ops (fun V=>ah V l) is (fun a'=>mK P ops Q w l ds n (dQ ++ is) a' W) a)
  (ay:(xM .any ops ds (lu (Array.replicate n false) dQ) is && (n - dQ.length == n - (dQ ++ is).length+is.length))=true:=by kernel_rfl)
  (mC:∀ N v c a w,Q (.panic c) (Go.Act.put a N v) w->Q (.panic c) a w:=by (intro N _ _ _ _ h;cases N <;> exact h)):mK P ops Q w l ds n dQ a W:=by
 simp only [Bool.and_eq_true,beq_iff_eq] at ay;unfold mK;rw [ay.2];refine F3 (S:=fun V=>ba w V l) mC M is _ a ay.1 rfl ?_
 have key:∀ (is:List Nat) (K j3:Go.Act->Prop) (a:Go.Act),(∀ a,K a->j3 a)->jx P ops (fun V=>ah V l) is K a->jx P ops (fun V=>ba w V l) is j3 a:=by
  intro is
  induction is with
  | nil=>exact fun K j3 a J h=>J _ h
  | cons i is fI=>
   rintro K j3 a J ⟨c2,v,h1,ar,aA⟩;exact ⟨c2,v,h1,ar.imp (fun h=>⟨h.1,fun V dB=>h.2 V dB.aw⟩) id,fI _ _ _ J aA⟩
 exact key _ _ _ _ (fun a' h=>by unfold mK at h;rw [tp] at h;exact h) h
theorem ir {dQ:List Nat} (i:Nat) {N:Option Tmp} {op:Op} {ty:TypeId} {bK:String} {e2:Array Edge} {cQ:Option (Nat × Bool)} (aa:ops[i]? = some {dst:=N,op:=op,type:=ty,pos:=bK,after:=e2,guard:=cQ}) (h:wpList P ops (y4 Q (fun a' bM=>ba w bM l/\mK P ops Q w l ds n (dQ ++ [i]) a' bM)) [{dst:=N,op:=op,type:=ty,pos:=bK,after:=e2,guard:=cQ}] a W)
  (ay:((Region.ready .any ops (lu (Array.replicate n false) dQ) == [i]) && (n - dQ.length == n - (dQ ++ [i]).length+1))=true:=by kernel_rfl):mK P ops Q w l ds n dQ a W:=by
 simp only [Bool.and_eq_true,beq_iff_eq] at ay;unfold mK;rw [ay.2];refine ⟨fun aq=>(by rw [ay.1] at aq;cases aq),fun j aI=> ?_⟩;rw [ay.1] at aI;obtain rfl:j=i:=by simpa using aI
 refine wpOp_mono ?_ (CX aa h);rintro a' bM ⟨hm,aO⟩;refine ⟨fun _ _=>hm, ?_⟩;unfold mK at aO;rw [tp] at aO;exact aO
theorem lT {dQ:List Nat} (i:Nat) {N:Option Tmp} {op:Op} {ty:TypeId} {bK:String} {e2:Array Edge} {cQ:Option (Nat × Bool)} (aa:ops[i]? = some {dst:=N,op:=op,type:=ty,pos:=bK,after:=e2,guard:=cQ}) (h:wpList P ops (y4 Q (fun a' bM=>mK P ops Q w l ds n (dQ ++ [i]) a' bM)) [{dst:=N,op:=op,type:=ty,pos:=bK,after:=e2,guard:=cQ}] a W)
  (ay:((Region.ready .any ops (lu (Array.replicate n false) dQ) == [i]) && (n - dQ.length == n - (dQ ++ [i]).length+1) && ds.contains i)=true:=by kernel_rfl):mK P ops Q w l ds n dQ a W:=by
 simp only [Bool.and_eq_true,beq_iff_eq,List.contains_iff_mem] at ay;unfold mK;rw [ay.1.2];refine ⟨fun aq=>(by rw [ay.1.1] at aq;cases aq),fun j aI=> ?_⟩;rw [ay.1.1] at aI;obtain rfl:j=i:=by simpa using aI
 refine wpOp_mono ?_ (CX aa h);intro a' bM aO;refine ⟨fun aS=>absurd ay.2 aS, ?_⟩;unfold mK at aO;rw [tp] at aO;exact aO
theorem Hs {dQ:List Nat} (i j:Nat) {N:Option Tmp} {op:Op} {ty:TypeId} {bK:String} {e2:Array Edge} {cQ:Option (Nat × Bool)} {Dn:Option Tmp} {OT:Op} {OU:TypeId} {OV:String} {OW:Array Edge} {OX:Option (Nat × Bool)} (aa:ops[i]? = some {dst:=N,op:=op,type:=ty,pos:=bK,after:=e2,guard:=cQ}) (aI:ops[j]? = some {dst:=Dn,op:=OT,type:=OU,pos:=OV,after:=OW,guard:=OX}) (h1:wpList P ops (y4 Q (fun a' bM=>ba w bM l/\mK P ops Q w l ds n (dQ ++ [i]) a' bM)) [{dst:=N,op:=op,type:=ty,pos:=bK,after:=e2,guard:=cQ}] a W) (ar:wpList P ops (y4 Q (fun a' bM=>ba w bM l/\mK P ops Q w l ds n (dQ ++ [j]) a' bM)) [{dst:=Dn,op:=OT,type:=OU,pos:=OV,after:=OW,guard:=OX}] a W)
  (ay:((Region.ready .any ops (lu (Array.replicate n false) dQ) == [i,j]) && (n - dQ.length == n - (dQ ++ [i]).length+1))=true:=by kernel_rfl):mK P ops Q w l ds n dQ a W:=by
 simp only [Bool.and_eq_true,beq_iff_eq] at ay;unfold mK;rw [ay.2];refine ⟨fun aq=>(by rw [ay.1] at aq;cases aq),fun q aF=> ?_⟩;rw [ay.1] at aF;simp only [List.mem_cons,List.not_mem_nil,or_false] at aF;rcases aF with rfl|rfl
 ·refine wpOp_mono ?_ (CX aa h1)
  rintro a' bM ⟨hm,aO⟩;refine ⟨fun _ _=>hm, ?_⟩;unfold mK at aO;rw [tp] at aO;exact aO
 ·refine wpOp_mono ?_ (CX aI ar)
  rintro a' bM ⟨hm,aO⟩;refine ⟨fun _ _=>hm, ?_⟩;unfold mK at aO;rw [tp] at aO;rw [show (dQ ++ [i]).length=(dQ ++ [q]).length by simp];exact aO
theorem mf {dQ:List Nat} (h:Q .normal a W) (ao:(Region.ready .any ops (lu (Array.replicate n false) dQ) == [])=true:=by kernel_rfl):mK P ops Q w l ds n dQ a W:=xH ao h
theorem fF {dQ:List Nat} {a':Go.Act} (h:mK P ops Q w l ds n dQ a' W) (ha:a=a':=by simp only [Act.put,nL,nM,nN,k0];rfl):mK P ops Q w l ds n dQ a W:=by
 subst ha;exact h
end
def wo (own:Nat->Nat):Nat->Prop:=fun k=>own k ≠ 0
def fL (B:Nat) (own:Nat->Nat) (s:Sys) (aG aZ aP:Value):World->Prop:=fun V=>b8 B own s aG aZ aP V
theorem FW {B:Nat} {own:Nat->Nat} {s:Sys} {aG aZ aP:Value}:xC (wo own) (fL B own s aG aZ aP):=fun V rG hs J h=>b8.move h hs (fun k h1 ar=>J k h1 ar)
theorem ba.QY {w W:World} {e b:kk} {l:eM} (h:av (ba w W (e :: b :: l))):∃ L,av (l=L)/\av (ba w W (e :: b :: L)):=⟨l,⟨rfl⟩,h⟩
theorem aaV (W:World):W.grownBy W none:=⟨rfl,rfl,rfl,Nat.le_refl _,fun _ _ _=>rfl⟩
section
variable {w W W1:World} {l:eM} {own:Nat->Nat} {aG aZ aP v1:Value} {cs:List Cell} {dn:List Task} {es:List Entry} {B1 aa:Nat}
theorem ba.merge {wG zo:Nat->Prop} {pX bA:World->Prop} (M:ba w W (.r wG pX :: .r zo bA :: l)):ba w W (.r (fun k=>wG k\/zo k) (fun V=>pX V/\bA V) :: l):=by
 obtain ⟨h1,ar,aA,bR⟩:=M;obtain ⟨⟨jN,a2,a3⟩,⟨ej,b2,b3⟩,ak⟩:=ar;have f1:=aA (.r wG pX) (by simp);have f2:=aA (.r zo bA) (by simp);rw [List.pairwise_cons,List.pairwise_cons] at bR;refine ⟨h1,⟨⟨fun k J=>J.elim (jN k) (ej k),fun V rG hs J dB=>⟨a2 V rG hs (fun k h=>J k (.inl h)) dB.1,b2 V rG hs (fun k h=>J k (.inr h)) dB.2⟩,a3,b3⟩,ak⟩,fun e he=> ?_,List.pairwise_cons.2 ⟨fun e he k J iI=> ?_,bR.2.2⟩⟩
 ·rcases List.mem_cons.1 he with rfl | he
  ·exact fun k J=>J.elim (f1 k) (f2 k)
  ·exact aA e (by simp [he])
 ·rcases J with J | J
  ·exact bR.1 e (by simp [he]) k J iI
  ·exact bR.2.1 e he k J iI
theorem ba.VD {ok:Nat->Prop} (M:ba w W (.r ok (oQ iU 50 w.heap.size ok aG cs) :: l)):∃ own,ba w W (.r (wo own) (fL w.heap.size own ⟨cs, [],0, []⟩ aG (.slice none 0 0) (.slice none 0 0)) :: l):=by
 have df:iU.aC 50 W w.heap.size ok aG cs:=M.so;have aX:∀ k,¬ aG.ownBlock=some k->ef (fun _=>0) aG.ownBlock 2 k=0:=fun k J=>gv J
 refine ⟨ef (fun _=>0) aG.ownBlock 2,M.lK (aaV W) (fun k J=>by cases J) (fun k J=> ?_) FW ?_⟩
 ·have rS:aG.ownBlock=some k:=Classical.byContradiction fun cm=>J (aX k cm)
  have:=fc df k rS
  exact ⟨.inl this.1,this.2.2⟩
 ·refine ⟨fun k J=>aX k (fun he=> ?_),fun k J=>aX k (fun he=> ?_),oF RM df (fun k J=>iW J),Kd.ht _ _ _ _ _,fun k J=>(by simp [Value.ownBlock] at J),Kd.ht _ _ _ _ _⟩
  ·have:=(fc df k he).2.1
   omega
  ·have:=(fc df k he).2.2
   omega
theorem b8.slice3 {B:Nat} {s:Sys} (h:b8 B own s aG aZ aP W):∃ A n c,aZ= .slice A n c:=by
 obtain ⟨A,c,he⟩:=Kd.bt h.tasks;exact ⟨A,_,c,he⟩
theorem b8.Yy {B:Nat} {s:Sys} (h:b8 B own s aG aZ aP W):∃ A n c,aP= .slice A n c:=by
 obtain ⟨A,c,he⟩:=Kd.bt h.log;exact ⟨A,_,c,he⟩
structure OY (v3 bC v9 v10:Value):Prop where
 Cw:∀ k,v3.ownBlock=some k->bC.ownBlock ≠ some k
 Cx:∀ k,v3.ownBlock=some k->v9.ownBlock ≠ some k
 CF:∀ k,v3.ownBlock=some k->v10.ownBlock ≠ some k
 Cy:∀ k,bC.ownBlock=some k->v9.ownBlock ≠ some k
 CG:∀ k,bC.ownBlock=some k->v10.ownBlock ≠ some k
 CH:∀ k,v9.ownBlock=some k->v10.ownBlock ≠ some k
def pY (t:Task) (B:Nat) (ok:Nat->Prop) (v3 bC v9 v10:Value):World->Prop:=fun V=>(Kd.int .i64).aC 3 V B ok v3 t.aL/\(Kd.int .i64).aC 3 V B ok bC t.bE/\cn.aC 52 V B ok v9 t.reads/\cn.aC 52 V B ok v10 t.ai
theorem Y9 {t:Task} {B:Nat} {ok:Nat->Prop} {v3 bC v9 v10:Value}:xC ok (pY t B ok v3 bC v9 v10):=fun V rG hs J h=>
 ⟨Kd.eI h.1 (fun k h1 ar=>J k h1 ar),Kd.eI h.2.1 (fun k h1 ar=>J k h1 ar),Kd.eI h.2.2.1 (fun k h1 ar=>J k h1 ar),Kd.eI h.2.2.2 (fun k h1 ar=>J k h1 ar)⟩
theorem ba.X1 {t:Task} {v3 bC v9 v10:Value} (M:ba w W l) (I:Below W.heap.size W W1) (h:o9 t W.heap.size W1 v3 bC v9 v10):ba w W1 (.r (n3 W.heap.size W1.heap.size) (pY t W.heap.size (n3 W.heap.size W1.heap.size) v3 bC v9 v10) :: l)/\OY v3 bC v9 v10:=
 ⟨M.row I (fun k J=>J) Y9 ⟨Kd.cG (Kd.fW h.aL) (fun k J=>⟨J.2.1,J.2.2.1⟩),Kd.cG (Kd.fW h.bE) (fun k J=>⟨J.2.1,J.2.2.1⟩),Kd.cG (Kd.fW h.reads) (fun k J=>⟨J.2.1,J.2.2.1⟩),Kd.cG (Kd.fW h.ai) (fun k J=>⟨J.2.1,J.2.2.1⟩)⟩,
  ⟨h.Cw,h.Cx,h.CF,h.Cy,h.CG,h.CH⟩⟩
theorem ba.Y' {t:Task} {v3 bC v9 v10:Value} (M:ba w W (.r (n3 B1 aa) (pY t B1 (n3 B1 aa) v3 bC v9 v10) :: .r (wo own) (fL w.heap.size own ⟨cs,dn,0,es⟩ aG aZ aP) :: l)) (dt:w.heap.size<=B1) (aq:∀ k,B1<=k->own k=0) (ne:OY v3 bC v9 v10):
  ∃ c1,b8 w.heap.size c1 ⟨cs,dn,0,es⟩ aG aZ aP W/\(gg c1).M W w.heap.size (fun q=>8<=c1 q) (t,dn.length) (eK t v3 bC v9 v10)/\∀ W1 v1,W.grownBy W1 aZ.ownBlock->(gg c1).aC 38 W1 w.heap.size (fun q=>(c1 q=3\/8<=c1 q)\/c1 q=0) v1 (dn.zipIdx ++ [(t,dn.length)])->(v1.ownBlock=aZ.ownBlock\/∃ b,v1.ownBlock=some b/\W.heap.size<=b)->
   ∃ j9,ba w W1 (.r (wo j9) (fL w.heap.size j9 ⟨cs,dn ++ [t],0,es⟩ aG v1 aP) :: l):=by
 have dm:b8 w.heap.size own ⟨cs,dn,0,es⟩ aG aZ aP W:=M.pop.get (F:=fL w.heap.size own ⟨cs,dn,0,es⟩ aG aZ aP);have bR:pY t B1 (n3 B1 aa) v3 bC v9 v10 W:=M.get;have BN:o9 t B1 W v3 bC v9 v10:=⟨Kd.cG bR.1 (fun _ _=>trivial),Kd.cG bR.2.1 (fun _ _=>trivial),Kd.cG bR.2.2.1 (fun _ _=>trivial),Kd.cG bR.2.2.2 (fun _ _=>trivial),ne.Cw,ne.Cx,ne.CF,ne.Cy,ne.CG,ne.CH⟩;obtain ⟨fB,Ba⟩:=dm.H8 (L:=dn.length) BN aq dt;have jw:=o9.row (own:=own) (L:=dn.length) (B:=w.heap.size) BN dt;have lk:=(Ia (own:=own) (L:=dn.length) BN).2.2.2.2;refine ⟨_,fB,jw,fun W1 v1 U ao dy=> ?_⟩;obtain ⟨j9,q7,qm⟩:=fB.RV U (ts':=dn ++ [t]) (by rw [Ik];exact ao) dy M.below.size;refine ⟨j9,M.merge.lK U (fun k J=> .inr (by show own k ≠ 0;rw [dm.fj k J];decide)) (fun k J=> ?_) FW q7⟩;have aJ:k < W1.heap.size:=Nat.lt_of_not_le fun hle=>J (q7.dk k hle)
 refine ⟨?_,aJ⟩;rcases Nat.lt_or_ge k W.heap.size with n6 | t'
 ·left
  have h1:jV own v3 bC v9 v10 dn.length k ≠ 0:=by rw [<-qm k n6];exact J
  refine Classical.byContradiction fun cm=>h1 ?_
  rw [not_or] at cm;rw [lk k ⟨fun he=>cm.1 (bR.1.1 k he),fun he=>cm.1 (bR.2.1.1 k he),fun he=>cm.1 (bR.2.2.1.1 k he),fun he=>cm.1 (bR.2.2.2.1 k he)⟩];exact Classical.byContradiction fun h=>cm.2 h
 ·exact .inr t'
def bA (e:Entry) (B:Nat) (ok:Nat->Prop) (v3 v4:Value):World->Prop:=fun V=>cn.aC 52 V B ok v3 e.reads/\cn.aC 52 V B ok v4 e.ai
theorem Za {e:Entry} {B:Nat} {ok:Nat->Prop} {v3 v4:Value}:xC ok (bA e B ok v3 v4):=fun V rG hs J h=>⟨Kd.eI h.1 (fun k h1 ar=>J k h1 ar),Kd.eI h.2 (fun k h1 ar=>J k h1 ar)⟩
theorem ba.Yz {e:Entry} {v3 v4:Value} (M:ba w W l) (I:Below W.heap.size W W1) (aA:cn.aC 52 W1 W.heap.size (fun _=>True) v3 e.reads) (bR:cn.aC 52 W1 W.heap.size (fun _=>True) v4 e.ai):ba w W1 (.r (n3 W.heap.size W1.heap.size) (bA e W.heap.size (n3 W.heap.size W1.heap.size) v3 v4) :: l):=
 M.row I (fun k J=>J) Za ⟨Kd.cG (Kd.fW aA) (fun k J=>⟨J.2.1,J.2.2.1⟩),Kd.cG (Kd.fW bR) (fun k J=>⟨J.2.1,J.2.2.1⟩)⟩
theorem ba.ZR {e:Entry} {v3 v4:Value} (M:ba w W (.r (n3 B1 aa) (bA e B1 (n3 B1 aa) v3 v4) :: .r (wo own) (fL w.heap.size own ⟨cs,dn,0,es⟩ aG aZ aP) :: l)) (dt:w.heap.size<=B1) (aq:∀ k,B1<=k->own k=0) (Ci:W.heap.size<=aa):
  b8 w.heap.size own ⟨cs,dn,0,es⟩ aG aZ aP W/\hf.M W w.heap.size (fun q=>own q=0/\B1<=q) e [.int .i64 e.task,.int .i64 e.act,.int .i64 e.bw,v3,v4,.int .i64 e.from_]/\∀ W1 v1,W.grownBy W1 aP.ownBlock->hf.aC 105 W1 w.heap.size (fun q=>own q=4\/(own q=0/\B1<=q)) v1 (es ++ [e])->
   ∃ j9,ba w W1 (.r (wo j9) (fL w.heap.size j9 ⟨cs,dn,0,es ++ [e]⟩ aG aZ v1) :: l):=by
 have dm:b8 w.heap.size own ⟨cs,dn,0,es⟩ aG aZ aP W:=M.pop.get (F:=fL w.heap.size own ⟨cs,dn,0,es⟩ aG aZ aP);have bR:bA e B1 (n3 B1 aa) v3 v4 W:=M.get;have br:∀ k,n3 B1 aa k->own k=0/\B1<=k:=fun k J=>⟨aq k J.1,J.1⟩
 refine ⟨dm,Iv e (Kd.ft (Kd.cG bR.1 br) dt) (Kd.ft (Kd.cG bR.2 br) dt),fun W1 v1 U ao=> ?_⟩;have sQ:B1<=W.heap.size\/W.heap.size < B1:=by omega
 rcases sQ with sQ | sQ
 ·obtain ⟨j9,q7,qm⟩:=dm.L1 sQ U aq dt ao
  refine ⟨j9,M.merge.lK U (fun k J=> .inr (by show own k ≠ 0;rw [dm.log.1 k J];decide)) (fun k J=> ?_) FW q7⟩;have aJ:k < W1.heap.size:=Nat.lt_of_not_le fun hle=>J (q7.dk k hle)
  refine ⟨?_,aJ⟩;rcases Nat.lt_or_ge k B1 with h1 | h1
  ·exact .inl (.inr (by show own k ≠ 0;rw [<-qm k h1];exact J))
  ·rcases Nat.lt_or_ge k aa with ar | ar
   ·exact .inl (.inl ⟨h1,ar⟩)
   ·exact .inr (by omega)
 ·have Eu:hf.aC 105 W1 w.heap.size (fun q=>own q=4\/(own q=0/\W.heap.size<=q)) v1 (es ++ [e]):=Kd.cG ao (fun k J=>J.imp id (fun h=>⟨h.1,by omega⟩))
  obtain ⟨j9,q7,qm⟩:=dm.L1 (Nat.le_refl _) U (fun k J=>dm.dk k J) M.below.size Eu;refine ⟨j9,M.merge.lK U (fun k J=> .inr (by show own k ≠ 0;rw [dm.log.1 k J];decide)) (fun k J=> ?_) FW q7⟩;have aJ:k < W1.heap.size:=Nat.lt_of_not_le fun hle=>J (q7.dk k hle)
  refine ⟨?_,aJ⟩;rcases Nat.lt_or_ge k W.heap.size with h1 | h1
  ·exact .inl (.inr (by show own k ≠ 0;rw [<-qm k h1];exact J))
  ·exact .inr h1
end
theorem abW (s:Sys) (c6:List Value) (w:World) (hs:cS.K w s c6) (ay:s.cells.length<=1048576) (aS:s.tasks.length<=1048576) (ak:s.log.length<=1048576) (a6:∀ i,i < s.tasks.length->(R s i).aL.length<=1048576/\(R s i).bE.length<=1048576/\(R s i).reads.length<=1048576/\(R s i).ai.length<=1048576) (he:∀ i,i < s.log.length->(eh s.log i).reads.length<=1048576/\(eh s.log i).ai.length<=1048576):
  Calls Tryz.prog 62 #[.agg c6.toArray] w fun e af=>∃ own aG aZ aP,e= .returned (.agg #[aG,aZ,.int .i64 s.clock,aP])/\b8 w.heap.size own s aG aZ aP af/\Below w.heap.size w af:=by
 obtain ⟨cX,bL,dX,cu,cU,bO,rfl,-,fz,-,db,-,dj⟩:=gX hs;have pt:=am fz;have iM:=am db;have tx:=am dj;have cl:=am ay;have eD:=am aS;have dq:=am ak;have hO:=am a6;have bS:=am he;have M:=am (ba.nil w);have C:=M.1.aw;clear hs fz db dj a6 he;go_enter Tryz.func62,Tryz.ntmps62
 go_upto_region 1 with (first
 |((first|with_reducible refine gB ?_ | with_reducible refine gA ?_);refine cx rfl M.1 ?_;clear M C;intro g W M C;simp only [ah] at C))
 refine ot [] (fun _ h=>h) M.1 ?_;clear M C;intro W M;refine jO [0,1,3,4] M.1 ?_;iterate 4 (first|refine cc rfl ?_|refine ch rfl ?_|refine cj rfl ?_|refine cE rfl ?_)
 refine bN ?_;have C:=M.1.aw;simp only [ah] at C;refine Hs 2 6 rfl rfl ?ga ?gb
 case' ga=>
  go_wp2_with (first
  |(go_at_call 98;refine (S' _ _ _ _ (Kd.bW pt.1 M.1.below) cl.1).mono ?_;rintro e W1 ⟨v,rfl,ao,I⟩;obtain ⟨A,c,rfl⟩:=Kd.bt ao;replace M:=am (M.1.made I ao);clear C;have C:=M.1.aw;simp only [ah] at C;clear I ao))
  refine g3 M.1.pop ?_;refine jO [5] M.1.pop ?_;(first|refine cc rfl ?_|refine ch rfl ?_|refine cj rfl ?_|refine cE rfl ?_);refine bN ?_;refine ir 6 rfl ?_
  go_wp2_with (first
  |((first|with_reducible refine gB ?_ | with_reducible refine gA ?_);refine cx rfl M.1 ?_;clear M C;intro g W M C;simp only [ah] at C))
  refine g3 M.1.pop.pop ?_;refine ir 7 rfl ?_
  go_wp2_with (first
  |((with_reducible refine da ?_);refine dv rfl rfl rfl M.1 ?_;clear M C;intro W M C;simp only [ah] at C))
  refine g3 M.1.pop.pop ?_
  try refine fF ?_
  refine mf ?_;replace M:=am (M.1.perm (List.Perm.swap _ _ _));clear C;have C:=M.1.aw;simp only [ah] at C
 case' gb=>
  go_wp2_with (first
  |((first|with_reducible refine gB ?_ | with_reducible refine gA ?_);refine cx rfl M.1 ?_;clear M C;intro g W M C;simp only [ah] at C))
  refine g3 M.1.pop ?_;refine ir 2 rfl ?_
  go_wp2_with (first
  |(go_at_call 98;refine (S' _ _ _ _ (Kd.bW pt.1 M.1.below) cl.1).mono ?_;rintro e W1 ⟨v,rfl,ao,I⟩;obtain ⟨A,c,rfl⟩:=Kd.bt ao;replace M:=am (M.1.made I ao);clear C;have C:=M.1.aw;simp only [ah] at C;clear I ao))
  refine g3 M.1.pop.pop ?_;refine jO [5] M.1.pop.pop ?_;(first|refine cc rfl ?_|refine ch rfl ?_|refine cj rfl ?_|refine cE rfl ?_);refine bN ?_;refine ir 7 rfl ?_
  go_wp2_with (first
  |((with_reducible refine da ?_);refine dv rfl rfl rfl M.1 ?_;clear M C;intro W M C;simp only [ah] at C))
  refine g3 M.1.pop.pop ?_
  try refine fF ?_
  refine mf ?_
 all_goals
  obtain ⟨own,hj⟩:=ba.VD M.1;obtain ⟨L,fg,fh⟩:=ba.QY (am hj);clear hj
  go_wp2_with (first
   | fail)
  go_loopw [17] (fun j af=>∃ (k:Nat) (own:Nat->Nat) (aZ:Value),k<=s.tasks.length/\j= .int .i64 k/\av (ba w af (.r (wo own) (fL w.heap.size own ⟨s.cells,s.tasks.take k,0, []⟩ (.slice A s.cells.length c) aZ (.slice none 0 0)) :: .b g #[.slice A s.cells.length c,aZ,.int .i64 s.clock,(.slice none 0 0)] 31 :: L))) (fun j _=>s.tasks.length - (intOf j).toNat)
  case atStart=>exact ⟨0,own,_,Nat.zero_le _,rfl,fh⟩
  case round=>
   obtain ⟨k,own,aZ,J,rfl,M2⟩:=hrel;have lT:=fg.1;subst lT;clear M C fh fg;have M:=M2;clear M2;have C:=M.1.aw;simp only [ah] at C;by_cases aJ:k < s.tasks.length
   ·have bz:(0:Int)<=(k:Int):=by omega
    have b7:(k:Int) < (s.tasks.length:Int):=by omega
    obtain ⟨b,o,cs,rfl,bQ,au,aM,-⟩:=dd iM.1 dS k aJ (by decide);obtain ⟨x,az⟩:∃ x,x=R s k:=⟨_,rfl⟩;rw [show s.tasks.getD k dS=x from az.symm] at au;have cP:=hO.1 k aJ;rw [<-az] at cP;have jf:=am (show s.tasks.take (k+1)=s.tasks.take k ++ [x] by rw [List.take_succ_eq_append_getElem aJ,az];simp [R,aD,aJ]);have cT:=am au;have cJ:=am aM;obtain ⟨hB,d3,iZ,d8,gY,d9,gd,d10,rfl,-⟩:=gh au
    obtain ⟨wX,p6,rfl⟩:∃ A c,aZ= .slice A k c:=by
     have dm:b8 w.heap.size own ⟨s.cells,s.tasks.take k,0, []⟩ (.slice A s.cells.length c) aZ (.slice none 0 0) _:=M.1.get (F:=fL _ _ _ _ _ _);obtain ⟨A,c,he⟩:=Kd.bt dm.tasks;exact ⟨A,c,by rw [he,fH];simp;omega⟩
    clear az au aM bQ
    go_upto_region 5 with (first
    |((with_reducible refine cv ?_);refine fZ rfl rfl M.1 cJ.1 ?_)
    |((first|with_reducible refine gB ?_ | with_reducible refine gA ?_);refine cx rfl M.1 ?_;clear M C;intro g W M C;simp only [ah] at C)
    |((with_reducible refine da ?_);refine dv rfl rfl rfl M.1 ?_;clear M C;intro W M C;simp only [ah] at C))
    refine ot [7] (fun _ h=>(h.perm (List.Perm.swap _ _ _)).pop) M.1 ?_;clear M C;intro W M;have Ex:=am (show ∀ q,W.heap.size<=q->own q=0 from (show b8 w.heap.size own _ _ _ _ W from M.1.get (F:=fL _ _ _ _ _ _)).dk);have kT:=am M.1.below.size;refine jO [0,1,2] (M.1.perm (List.Perm.swap _ _ _)).pop ?_;(first|refine cc rfl ?_|refine ch rfl ?_|refine cj rfl ?_|refine cE rfl ?_);(first|refine cc rfl ?_|refine ch rfl ?_|refine cj rfl ?_|refine cE rfl ?_);refine sE rfl rfl ?_;refine bN ?_;have C:=M.1.aw;simp only [ah] at C;refine ir 3 rfl ?_
    go_wp2_with (first
    |(go_at_call 99;refine (ab3 x _ _ (eV.bH M.1.below cT.1) cP.1 cP.2.1 cP.2.2.1 cP.2.2.2).mono ?_;rintro e W1 ⟨v3,bC,v9,v10,rfl,bR,I⟩;obtain ⟨a3,d3,rfl⟩:=Kd.bt bR.aL;obtain ⟨mG,d8,rfl⟩:=Kd.bt bR.bE;obtain ⟨a9,d9,rfl⟩:=Kd.bt bR.reads;obtain ⟨kB,d10,rfl⟩:=Kd.bt bR.ai;obtain ⟨Nd,ne⟩:=M.1.X1 I bR;have NE:=am ne;replace M:=am (Nd);clear C;have C:=M.1.aw;simp only [ah] at C;clear Nd bR I ne))
    refine g3 ((M.1.pop.perm (List.Perm.swap _ _ _)).pop) ?_
    try refine fF ?_
    refine ir 4 rfl ?_
    go_wp2_with (first
     | fail)
    refine g3 (((M.1.pop.perm (List.Perm.swap _ _ _)).pop).step (mz (Below.refl _ _) _)) ?_
    try refine fF ?_
    refine ir 5 rfl ?_;obtain ⟨c1,fB,jw,yq⟩:=(M.1.perm (List.Perm.cons _ (List.Perm.swap _ _ _))).Y' kT.1 Ex.1 NE.1;have nx:=am fB;have Ey:=am jw;have Ez:=am yq;clear fB jw yq
    go_wp2_with (first
    |((with_reducible refine jJ (b:=.append) (xs:=#[.tmp 22,.tmp 25]) rfl ?_);at_builtin;refine Kd.mY (gg c1) (w0:=w) w.heap.size rfl (.tmp 22) (.tmp 25) 28 38 (.agg #[.int .i64 0,.int .i64 0,.int .i64 0,.slice none 0 0,.int .i64 0,.int .i64 0,.int .i64 0,.int .i64 0,.slice none 0 0,.slice none 0 0,.slice none 0 0,.int .i64 0,.int .i64 0]) 168 rfl Tryz.underlying28 (by kernel_rfl) rfl (by rw [Iq];decide) (by decide) (.slice wX k p6) (List.take k s.tasks).zipIdx (x,(List.take k s.tasks).length) _ (fun q=>(c1 q=3\/8<=c1 q)\/c1 q=0) (fun q=>8<=c1 q) rfl rfl Ey.1 (fun q aF=>⟨.inl (.inr aF),fun he=>by have:=nx.1.fj q he.symm;omega⟩) (fun q aF=> .inr (nx.1.dk q aF)) (Kd.cG nx.1.tasks (fun q aF=> .inl aF)) M.1.below M.1.below.size (by rw [fH];simp;omega) ?_;intro v1 wn bp I U dy;obtain ⟨j9,rN⟩:=Ez.1 wn v1 U bp dy;clear nx Ey Ez NE Ex kT bp I U dy;obtain ⟨I4,Gu,nS,rfl⟩:∃ A n c,v1= .slice A n c:=(show b8 w.heap.size j9 _ _ v1 _ wn from rN.get (F:=fL _ _ _ _ _ _)).slice3;replace M:=am (rN);clear C;have C:=M.1.aw;simp only [ah] at C;clear rN))
    refine g3 M.1.pop ?_
    try refine fF ?_
    refine jO [6] M.1.pop ?_
    (first|refine cc rfl ?_|refine ch rfl ?_|refine cj rfl ?_|refine cE rfl ?_)
    refine bN ?_;refine lT 7 rfl ?_
    go_wp2_with (first
    |((with_reducible refine da ?_);refine yd rfl rfl (by go_simp <;> rfl) M.1 ?_;clear M C;intro W M C;simp only [ah] at C))
    try refine fF ?_
    refine mf ?_
    go_wp2_with (first
     | fail)
    go_roundw
    case rel=>exact ⟨k+1,j9,_,by omega,by go_num,⟨by rw [jf.1];exact (M.1.perm (List.Perm.swap _ _ _)).pop⟩⟩
    case measure=>simp [intOf];omega
   ·obtain ⟨wX,p6,rfl⟩:∃ A c,aZ= .slice A k c:=by
     have dm:b8 w.heap.size own ⟨s.cells,s.tasks.take k,0, []⟩ (.slice A s.cells.length c) aZ (.slice none 0 0) _:=M.1.get (F:=fL _ _ _ _ _ _);obtain ⟨A,c,he⟩:=Kd.bt dm.tasks;exact ⟨A,c,by rw [he,fH];simp;omega⟩
    obtain rfl:k=s.tasks.length:=by omega
    have b7:¬ (s.tasks.length:Int) < (s.tasks.length:Int):=by omega
    obtain ⟨L,fg,fh⟩:=ba.QY M
    go_wp2_with (first
     | fail)
    clear b7;go_loopw [32] (fun j af=>∃ (k:Nat) (own:Nat->Nat) (aP:Value),k<=s.log.length/\j= .int .i64 k/\av (ba w af (.r (wo own) (fL w.heap.size own ⟨s.cells,s.tasks.take s.tasks.length,0,s.log.take k⟩ (.slice A s.cells.length c) (.slice wX s.tasks.length p6) aP) :: .b g #[.slice A s.cells.length c,(.slice wX s.tasks.length p6),.int .i64 s.clock,aP] 31 :: L))) (fun j _=>s.log.length - (intOf j).toNat)
    case atStart=>exact ⟨0,own,_,Nat.zero_le _,rfl,fh⟩
    case round=>
     obtain ⟨k,own,aP,J,rfl,M2⟩:=hrel;have lT:=fg.1;subst lT;clear M C fh fg;have M:=M2;clear M2;have C:=M.1.aw;simp only [ah] at C
     obtain ⟨cW,aw,rfl⟩:∃ A c,aP= .slice A k c:=by
      have dm:b8 w.heap.size own ⟨s.cells,s.tasks.take s.tasks.length,0,s.log.take k⟩ _ _ aP _:=M.1.get (F:=fL _ _ _ _ _ _);obtain ⟨A,c,he⟩:=Kd.bt dm.log;exact ⟨A,c,by rw [he];simp;omega⟩
     by_cases aJ:k < s.log.length
     ·have bz:(0:Int)<=(k:Int):=by omega
      have b7:(k:Int) < (s.log.length:Int):=by omega
      obtain ⟨b,o,cs,rfl,bQ,au,aM,-⟩:=dd tx.1 sl k aJ (by decide);obtain ⟨x,az⟩:∃ x,x=eh s.log k:=⟨_,rfl⟩;rw [show s.log.getD k sl=x from az.symm] at au;have cP:=bS.1 k aJ;rw [<-az] at cP;have jf:=am (show s.log.take (k+1)=s.log.take k ++ [x] by rw [List.take_succ_eq_append_getElem aJ,az];simp [eh,aJ]);have cT:=am au;have cJ:=am aM;obtain ⟨hB,d3,vD,d4,rfl,-⟩:=Bz au;clear az au aM bQ
      go_upto_region 10 with (first
      |((with_reducible refine cv ?_);refine fZ rfl rfl M.1 cJ.1 ?_)
      |((first|with_reducible refine gB ?_ | with_reducible refine gA ?_);refine cx rfl M.1 ?_;clear M C;intro g W M C;simp only [ah] at C)
      |((with_reducible refine da ?_);refine dv rfl rfl rfl M.1 ?_;clear M C;intro W M C;simp only [ah] at C))
      refine ot [7] (fun _ h=>(h.perm (List.Perm.swap _ _ _)).pop) M.1 ?_;clear M C;intro W M;have Ex:=am (show ∀ q,W.heap.size<=q->own q=0 from (show b8 w.heap.size own _ _ _ _ W from M.1.get (F:=fL _ _ _ _ _ _)).dk);have kT:=am M.1.below.size;obtain ⟨B1,adk⟩:∃ B,W.heap.size=B:=⟨_,rfl⟩;refine jO [0,1,2] (M.1.perm (List.Perm.swap _ _ _)).pop ?_;(first|refine cc rfl ?_|refine ch rfl ?_|refine cj rfl ?_|refine cE rfl ?_);(first|refine cc rfl ?_|refine ch rfl ?_|refine cj rfl ?_|refine cE rfl ?_);refine sE rfl rfl ?_;refine bN ?_;have C:=M.1.aw;simp only [ah] at C;refine ir 3 rfl ?_
      go_wp2_with (first
      |(go_at_call 100;refine (aca x _ _ (hf.bH M.1.below cT.1) cP.1 cP.2).mono ?_;rintro e W1 ⟨v3,v4,rfl,aA,bR,I⟩;obtain ⟨a3,d3,rfl⟩:=Kd.bt aA;obtain ⟨a4,d4,rfl⟩:=Kd.bt bR;have VE:=am I.size;replace M:=am (M.1.Yz I aA bR);clear C;have C:=M.1.aw;simp only [ah] at C;clear aA bR I))
      refine g3 ((M.1.pop.perm (List.Perm.swap _ _ _)).pop) ?_
      try refine fF ?_
      refine ir 4 rfl ?_
      go_wp2_with (first
       | fail)
      refine g3 (((M.1.pop.perm (List.Perm.swap _ _ _)).pop).step (mz (Below.refl _ _) _)) ?_
      try refine fF ?_
      refine ir 5 rfl ?_;obtain ⟨fB,jw,yq⟩:=(M.1.perm (List.Perm.cons _ (List.Perm.swap _ _ _))).ZR kT.1 Ex.1 (Nat.le_refl _);have nx:=am fB;have Ey:=am jw;have Ez:=am yq;clear fB jw yq
      go_wp2_with (first
      |((with_reducible refine jJ (b:=.append) (xs:=#[.tmp 37,.tmp 40]) rfl ?_);at_builtin;refine Kd.mY hf (w0:=w) w.heap.size rfl (.tmp 37) (.tmp 40) 29 105 (.agg #[.int .i64 0,.int .i64 0,.int .i64 0,.slice none 0 0,.slice none 0 0,.int .i64 0]) 80 rfl Tryz.underlying29 (by kernel_rfl) rfl (by decide) (by decide) (.slice cW k aw) (List.take k s.log) x _ (fun q=>own q=4\/(own q=0/\W.heap.size<=q)) (fun q=>own q=0/\W.heap.size<=q) rfl rfl Ey.1 (fun q aF=>⟨.inr aF,fun he=>by have h1:own q=4:=nx.1.log.1 q he.symm;omega⟩) (fun q aF=> .inr ⟨nx.1.dk q aF,Nat.le_trans VE.1 aF⟩) (Kd.cG nx.1.log (fun q aF=> .inl aF)) M.1.below M.1.below.size (by simp;omega) ?_;intro v1 wn bp I U dy;obtain ⟨j9,rN⟩:=Ez.1 wn v1 U bp;clear nx Ey Ez Ex kT bp I U dy;obtain ⟨I4,Gu,nS,rfl⟩:∃ A n c,v1= .slice A n c:=(show b8 w.heap.size j9 _ _ _ v1 wn from rN.get (F:=fL _ _ _ _ _ _)).Yy;replace M:=am (rN);clear C;have C:=M.1.aw;simp only [ah] at C;clear rN))
      refine g3 M.1.pop ?_
      try refine fF ?_
      refine jO [6] M.1.pop ?_
      (first|refine cc rfl ?_|refine ch rfl ?_|refine cj rfl ?_|refine cE rfl ?_)
      refine bN ?_;refine lT 7 rfl ?_
      go_wp2_with (first
      |((with_reducible refine da ?_);refine yd rfl rfl (by go_simp <;> rfl) M.1 ?_;clear M C;intro W M C;simp only [ah] at C))
      try refine fF ?_
      refine mf ?_
      go_wp2_with (first
       | fail)
      go_roundw
      case rel=>exact ⟨k+1,j9,_,by omega,by go_num,⟨by rw [jf.1];exact (M.1.perm (List.Perm.swap _ _ _)).pop⟩⟩
      case measure=>simp [intOf];omega
     ·obtain rfl:k=s.log.length:=by omega
      have b7:¬ (s.log.length:Int) < (s.log.length:Int):=by omega
      go_wp2_with (first
      |((with_reducible refine cv ?_);refine dV rfl rfl M.1 ?_)
      |((with_reducible refine da ?_);refine dv rfl rfl rfl M.1 ?_;clear M C;intro W M C;simp only [ah] at C))
      refine bodyPost_ret (sx Tryz.results62 (.cell _ _ _ (0,0) _ rfl (M.1.eU.at_ (by repeat (first|exact .here | exact .kept | apply gF.there))) Tryz.underlying31 rfl (by kernel_rfl) .nil)) rfl ?_;have dm:b8 w.heap.size own ⟨s.cells,s.tasks.take s.tasks.length,0,s.log.take s.log.length⟩ _ _ _ _:=M.1.get (F:=fL _ _ _ _ _ _);rw [List.take_length,List.take_length] at dm;exact ⟨own,_,_,_,rfl,⟨dm.low,dm.dk,dm.cells,dm.tasks,dm.fj,dm.log⟩,M.1.below⟩
theorem ME (x:Int) (w:World):Calls Tryz.prog 144 #[.int .i64 x] w fun e af=>e= .returned (.bool (decide (0<=x) && decide (x < 3)))/\w=af:=by
 go_enter Tryz.func144,Tryz.ntmps144
 go_wp2_with (first
 |(go_at_call 101;refine (lP _ _ _).mono ?_;rintro e b9 ⟨rfl,rfl⟩))
 go_ret;exact ⟨rfl,rfl⟩
theorem vz (x:Int) (w:World):Calls Tryz.prog 125 #[.int .i64 x] w fun e af=>e= .returned (.bool (decide (0<=x) && decide (x < 100)))/\w=af:=by
 go_enter Tryz.func125,Tryz.ntmps125
 go_wp2_with (first
 |(go_at_call 101;refine (lP _ _ _).mono ?_;rintro e b9 ⟨rfl,rfl⟩))
 go_ret;exact ⟨rfl,rfl⟩
theorem CN (x:Int):(decide (0<=x) && decide (x < 100))=bF x 0 99:=by
 rw [Bool.eq_iff_iff,e0];simp;omega
def Be (xs:List Int):Bool:=hH xs.length fun i=>bF (cC xs i) 0 99
theorem MN (A:Option Addr) (c:Nat) (xs:List Int) (w:World) (az:(Kd.int .i64).C w A xs.length xs) (aS:xs.length<=1048576):
  Calls Tryz.prog 121 #[.slice A xs.length c] w fun e af=>e= .returned (.bool (Be xs))/\w=af:=by
 have ew:=am az;clear az;go_enter Tryz.func121,Tryz.ntmps121;go_wp2;go_loopw [7] (fun j af=>∃ k:Nat,k<=xs.length/\j= .int .i64 k/\av (∀ i,i < k->bF (cC xs i) 0 99=true)/\av (w=af)) (fun j _=>xs.length - (intOf j).toNat)
 case atStart=>exact ⟨0,Nat.zero_le _,rfl,⟨fun i aa=>by omega⟩,⟨rfl⟩⟩
 case round=>
  obtain ⟨k,J,rfl,du,BS⟩:=hrel;have hw:=BS.1;subst hw;by_cases aJ:k < xs.length
  ·have bz:(0:Int)<=(k:Int):=by omega
   have b7:(k:Int) < (xs.length:Int):=by omega
   obtain ⟨cy,mb,az⟩:=Kd.kG ew.1 (k:Int) bz b7;cases mb;simp only [Int.toNat_natCast] at az;obtain ⟨x,hG⟩:∃ x,x=cC xs k:=⟨_,rfl⟩;have sS:rd xs (k:Int)=x:=by rw [hG];rfl
   rw [sS] at az;have h7:=am hG;clear sS hG
   cases I:bF x 0 99 with
   | false=>
    have H1:av ((decide (0<=x) && decide (x < 100))=false):=⟨by rw [CN,I]⟩;have ab:=am I;clear I
    go_wp2_with (first
    |(go_at_call 125;refine (vz _ _).mono ?_;rw [H1.1];rintro e b9 ⟨rfl,rfl⟩))
    go_ret;have ao:Be xs=false:=hK aJ (by rw [<-h7.1];exact ab.1);rw [ao]
    exact ⟨rfl,rfl⟩
   | true=>
    have H1:av ((decide (0<=x) && decide (x < 100))=true):=⟨by rw [CN,I]⟩;have ab:=am I;clear I
    go_wp2_with (first
    |(go_at_call 125;refine (vz _ _).mono ?_;rw [H1.1];rintro e b9 ⟨rfl,rfl⟩))
    go_roundw
    case rel=>exact ⟨k+1,by omega,by go_num,⟨fun i aa=>by rcases Nat.lt_or_ge i k with h | h;exact du.1 i h;obtain rfl:i=k:=(by omega);rw [<-h7.1];exact ab.1⟩,⟨by first|rfl | trivial⟩⟩
    case measure=>simp [intOf];omega
  ·obtain rfl:k=xs.length:=by omega
   have b7:¬ (xs.length:Int) < (xs.length:Int):=by omega
   go_wp2;go_ret;have ao:Be xs=true:=hv.2 du.1;rw [ao];exact ⟨rfl,rfl⟩
theorem SP (A:Option Addr) (c:Nat) (xs:List Int) (w:World) (az:(Kd.int .i64).C w A xs.length xs) (aS:xs.length<=1048576):
  Calls Tryz.prog 126 #[.slice A xs.length c] w fun e af=>e= .returned (.bool (my xs 3))/\w=af:=by
 have ew:=am az;have eD:=am aS;clear az aS;go_enter Tryz.func126,Tryz.ntmps126;by_cases aA:(xs.length:Int)=3
 ·have ed:((xs.length:Int) == 3)=true:=by simp [aA]
  have ao:my xs 3=Be xs:=by unfold my Be;rw [decide_eq_true aA,Bool.and_true]
  have cb:=am ao;clear ao aA
  go_wp2_with (first
  |(go_at_call 121;refine (MN _ _ _ _ ew.1 eD.1).mono ?_;rintro e b9 ⟨rfl,rfl⟩))
  go_ret;rw [cb.1];exact ⟨rfl,rfl⟩
 ·have ed:((xs.length:Int) == 3)=false:=by simpa using aA
  have ao:my xs 3=false:=by unfold my;rw [decide_eq_false aA,Bool.and_false]
  have cb:=am ao;clear ao aA;go_wp2;go_ret;rw [cb.1];exact ⟨rfl,rfl⟩
theorem Mb (x n:Int):(decide (0<=x) && decide (x < n))=bF x 0 (n - 1):=by
 rw [Bool.eq_iff_iff,e0];simp;omega
theorem IF (A:Option Addr) (c:Nat) (xs:List cI) (n:Int) (w:World) (az:cn.C w A xs.length xs) (aS:xs.length<=1048576):
  Calls Tryz.prog 127 #[.slice A xs.length c,.int .i64 n] w fun e af=>e= .returned (.bool (hJ xs n))/\Below w.heap.size w af:=by
 obtain ⟨b,o,jo,j'⟩:=RX az;have cl:=am j';have ew:=am az;have M:=am (ba.nil w);have C:=M.1.aw;clear az j';go_enter Tryz.func127,Tryz.ntmps127;go_wp2;go_loopw [5,6,9] (fun _ _ j af=>∃ k:Nat,k<=xs.length/\j= .int .i64 k/\av (∀ i,i < k->(bF (putAt xs i).cell 0 (n - 1) && bF (putAt xs i).num 0 99 && (decide (i=0) || decide ((putAt xs (i - 1)).cell < (putAt xs i).cell)))=true)/\av (ba w af [])) (fun _ _ j _=>xs.length - (intOf j).toNat)
 case atStart=>exact ⟨0,Nat.zero_le _,rfl,⟨fun i aa=>by omega⟩,M⟩
 case round=>
  obtain ⟨k,J,rfl,du,M2⟩:=hrel;clear M C;have M:=M2;clear M2;have C:=M.1.aw;simp only [ah] at C;by_cases aJ:k < xs.length
  ·obtain rfl:=jo (by omega)
   have bz:(0:Int)<=(k:Int):=by omega
   have b7:(k:Int) < (xs.length:Int):=by omega
   obtain ⟨mB,tt,cs,zu,bQ,au,aM,-⟩:=dd ew.1 gU k aJ (by decide);cases zu;obtain ⟨x,hG⟩:∃ x,x=putAt xs k:=⟨_,rfl⟩;rw [show xs.getD k gU=x from hG.symm] at au;have eg:=mZ au;subst eg;have cJ:=am aM;have h7:=am hG;obtain ⟨ej,cg⟩:∃ b,(decide (0<=x.cell) && decide (x.cell < n))=b:=⟨_,rfl⟩;obtain ⟨b2,cO⟩:∃ b,(decide (0<=x.num) && decide (x.num < 100))=b:=⟨_,rfl⟩;have H1:av (bF x.cell 0 (n - 1)=ej):=⟨by rw [<-cg,Mb]⟩;have bn:av (bF x.num 0 99=b2):=⟨by rw [<-cO,CN]⟩;have gM:=am cg;have jA:=am cO;clear bQ au aM hG cg cO
   go_wp2_with (first
   |((first|with_reducible refine gB ?_ | with_reducible refine gA ?_);refine cx rfl M.1 ?_;clear M C;intro g W M C;simp only [ah] at C)
   |((with_reducible refine cv ?_);refine fZ rfl rfl M.1 cJ.1 ?_)
   |((with_reducible refine da ?_);refine dv rfl rfl rfl M.1 ?_;clear M C;intro W M C;simp only [ah] at C))
   cases ej
   case false=>
    refine gL M.1 ?_;clear M C;intro W M;refine dx [0,1,2] M.1 ?_;iterate 3 (first|refine cc rfl ?_|refine ch rfl ?_|refine cj rfl ?_|refine cE rfl ?_)
    refine bN ?_;refine jn 3 rfl ?_;refine hQ (lP _ _ _) gM.1 ?_;refine ⟨_,rfl,M,hb ?_⟩;refine dx [4,5,6,7] M.1 ?_;iterate 4 (first|refine cc rfl ?_|refine ch rfl ?_|refine cj rfl ?_|refine cE rfl ?_)
    refine bN ?_;refine sF 8 rfl rfl M.1 (hb ?_);refine dx [9,10,11,12,13,14,15,16,17,18,19,20,21,22,23,24,25] M.1 ?_;iterate 17 (first|refine cc rfl ?_|refine ch rfl ?_|refine cj rfl ?_|refine cE rfl ?_)
    refine bN ?_;refine f' ?_;have C:=M.1.aw;simp only [ah] at C;go_wp2;go_ret;rw [show hJ xs n=false from hK aJ (by rw [<-h7.1,H1.1,Bool.false_and,Bool.false_and])];exact ⟨rfl,M.1.below⟩
   cases b2
   case false=>
    refine gL M.1 ?_;clear M C;intro W M;refine dx [0,1,2] M.1 ?_;iterate 3 (first|refine cc rfl ?_|refine ch rfl ?_|refine cj rfl ?_|refine cE rfl ?_)
    refine bN ?_;refine jn 3 rfl ?_;refine hQ (lP _ _ _) gM.1 ?_;refine ⟨_,rfl,M,hb ?_⟩;refine dx [4,5,6,7] M.1 ?_;iterate 4 (first|refine cc rfl ?_|refine ch rfl ?_|refine cj rfl ?_|refine cE rfl ?_)
    refine bN ?_;refine jn 8 rfl ?_;refine hQ (vz _ _) jA.1 ?_;refine ⟨_,rfl,M,hb ?_⟩;refine dx [9,10,11,12,13,14,15,16,17,18,19,20,21,22,23,24,25] M.1 ?_;iterate 17 (first|refine cc rfl ?_|refine ch rfl ?_|refine cj rfl ?_|refine cE rfl ?_)
    refine bN ?_;refine f' ?_;have C:=M.1.aw;simp only [ah] at C;go_wp2;go_ret;rw [show hJ xs n=false from hK aJ (by rw [<-h7.1,bn.1,Bool.and_false,Bool.false_and])];exact ⟨rfl,M.1.below⟩
   by_cases nv:k=0
   ·have ed:decide ((0:Int) < (k:Int))=false:=decide_eq_false (by omega)
    have yA:decide (0 < k)=false:=decide_eq_false (by omega);refine gL M.1 ?_;clear M C;intro W M;refine dx [0,1,2] M.1 ?_;iterate 3 (first|refine cc rfl ?_|refine ch rfl ?_|refine cj rfl ?_|refine cE rfl ?_)
    refine bN ?_;refine jn 3 rfl ?_;refine hQ (lP _ _ _) gM.1 ?_;refine ⟨_,rfl,M,hb ?_⟩;refine dx [4,5,6,7] M.1 ?_;iterate 4 (first|refine cc rfl ?_|refine ch rfl ?_|refine cj rfl ?_|refine cE rfl ?_)
    refine bN ?_;refine jn 8 rfl ?_;refine hQ (vz _ _) jA.1 ?_;refine ⟨_,rfl,M,hb ?_⟩;refine dx [9,10,11,12,13,14,15,16,17,18,19,20,21,22,23,24,25] M.1 ?_;iterate 17 (first|refine cc rfl ?_|refine ch rfl ?_|refine cj rfl ?_|refine cE rfl ?_)
    refine bN ?_;refine f' ?_;have C:=M.1.aw;simp only [ah] at C;go_wp2;go_roundw
    case rel=>exact ⟨k+1,by omega,by go_num,⟨fun i aa=>by rcases Nat.lt_or_ge i k with h | h;exact du.1 i h;obtain rfl:i=k:=(by omega);rw [<-h7.1,H1.1,bn.1,decide_eq_true nv,Bool.true_or];rfl⟩,⟨M.1.pop⟩⟩
    case measure=>simp [intOf];omega
   ·have ed:decide ((0:Int) < (k:Int))=true:=decide_eq_true (by omega)
    have yA:decide (0 < k)=true:=decide_eq_true (by omega);obtain ⟨zD,Ag⟩:∃ x,x=putAt xs (k - 1):=⟨_,rfl⟩;have eT:=(cl.1 (k - 1) (by omega)).1;rw [<-Ag] at eT;have Ef:=am Ag;have bU:(0:Int)<=(k:Int) - 1:=by omega
    have s1:(k:Int) - 1 < (xs.length:Int):=by omega
    have s2:((k:Int) - 1).toNat=k - 1:=by omega
    have ec:(1:Int)<=(k:Int):=by omega
    have gx:1<=k:=by omega
    have b':wrap64 ((k:Int) - 1)=(k:Int) - 1:=by unfold wrap64;omega
    replace M:=am (M.1.cB eT);clear C;have C:=M.1.aw;simp only [ah] at C;clear eT Ag;obtain ⟨b3,dh⟩:∃ b,decide (x.cell<=zD.cell)=b:=⟨_,rfl⟩;have kz:=am dh;cases b3
    ·refine gL M.1 ?_
     clear M C;intro W M;refine dx [0,1,2] M.1 ?_;iterate 3 (first|refine cc rfl ?_|refine ch rfl ?_|refine cj rfl ?_|refine cE rfl ?_)
     refine bN ?_;refine jn 3 rfl ?_;refine hQ (lP _ _ _) gM.1 ?_;refine ⟨_,rfl,M,hb ?_⟩;refine dx [4,5,6,7] M.1 ?_;iterate 4 (first|refine cc rfl ?_|refine ch rfl ?_|refine cj rfl ?_|refine cE rfl ?_)
     refine bN ?_;refine jn 8 rfl ?_;refine hQ (vz _ _) jA.1 ?_;refine ⟨_,rfl,M,hb ?_⟩;refine dx [9,10,11,12,13,14,15,16,17,18,19,20,21,22,23,24,25] M.1 ?_;iterate 17 (first|refine cc rfl ?_|refine ch rfl ?_|refine cj rfl ?_|refine cE rfl ?_)
     refine bN ?_;refine f' ?_;have C:=M.1.aw;simp only [ah] at C;go_wp2;go_roundw
     case rel=>exact ⟨k+1,by omega,by go_num,⟨fun i aa=>by rcases Nat.lt_or_ge i k with h | h;exact du.1 i h;obtain rfl:i=k:=(by omega);rw [<-h7.1,H1.1,bn.1,<-Ef.1,decide_eq_true (show zD.cell < x.cell from Int.not_le.1 (of_decide_eq_false kz.1)),Bool.or_true];rfl⟩,⟨M.1.pop.pop⟩⟩
     case measure=>simp [intOf];omega
    ·refine gL M.1 ?_
     clear M C;intro W M;refine dx [0,1,2] M.1 ?_;iterate 3 (first|refine cc rfl ?_|refine ch rfl ?_|refine cj rfl ?_|refine cE rfl ?_)
     refine bN ?_;refine jn 3 rfl ?_;refine hQ (lP _ _ _) gM.1 ?_;refine ⟨_,rfl,M,hb ?_⟩;refine dx [4,5,6,7] M.1 ?_;iterate 4 (first|refine cc rfl ?_|refine ch rfl ?_|refine cj rfl ?_|refine cE rfl ?_)
     refine bN ?_;refine jn 8 rfl ?_;refine hQ (vz _ _) jA.1 ?_;refine ⟨_,rfl,M,hb ?_⟩;refine dx [9,10,11,12,13,14,15,16,17,18,19,20,21,22,23,24,25] M.1 ?_;iterate 17 (first|refine cc rfl ?_|refine ch rfl ?_|refine cj rfl ?_|refine cE rfl ?_)
     refine bN ?_;refine f' ?_;have C:=M.1.aw;simp only [ah] at C;go_wp2;go_ret;rw [show hJ xs n=false from hK aJ (by rw [<-h7.1,<-Ef.1,decide_eq_false nv,decide_eq_false (show ¬ zD.cell < x.cell from Int.not_lt.2 (of_decide_eq_true kz.1)),Bool.false_or,Bool.and_false])];exact ⟨rfl,M.1.below⟩
  ·obtain rfl:k=xs.length:=by omega
   have b7:¬ (xs.length:Int) < (xs.length:Int):=by omega
   go_wp2;go_ret;rw [show hJ xs n=true from hv.2 du.1];exact ⟨rfl,M.1.below⟩
def xO (s:Sys):Bool:=hH s.cells.length fun i=>(bF (cellAt s.cells i).num 0 99 && bF (cellAt s.cells i).time 0 s.clock)
theorem S1 (s:Sys) (c6:List Value) (w:World) (hs:cS.K w s c6) (hm:s.cells.length<=1048576):
  Calls Tryz.prog 91 #[.agg c6.toArray] w fun e af=>e= .returned (.bool (xO s))/\Below w.heap.size w af:=by
 obtain ⟨cX,bL,dX,cu,cU,bO,rfl,-,fz,-,-,-⟩:=gX hs;have pt:=am fz;clear hs fz;go_enter Tryz.func91,Tryz.ntmps91
 go_wp2_with (first
 |((with_reducible refine aQ 1 ?_);refine b6 31 ?_;intro gs U b' ad I;have al:=am ad;have ab:=am I;have bg:=ae al;clear ad I U))
 go_loopw [8] (fun j af=>∃ k:Nat,k<=s.cells.length/\j= .int .i64 k/\av (∀ i,i < k->(bF (cellAt s.cells i).num 0 99 && bF (cellAt s.cells i).time 0 s.clock)=true)/\av (af.heap[gs]? = some (.cells #[.slice cX s.cells.length bL,.slice dX s.tasks.length cu,.int .i64 s.clock,.slice cU s.log.length bO] 31 (0,0)))/\av (Below w.heap.size w af)) (fun j _=>s.cells.length - (intOf j).toNat)
 case atStart=>exact ⟨0,Nat.zero_le _,rfl,⟨fun i aa=>by omega⟩,al,ab⟩
 case round=>
  clear al ab bg;obtain ⟨k,J,rfl,du,al,ab⟩:=hrel;have bg:=ae al;by_cases aJ:k < s.cells.length
  ·obtain ⟨gZ,tC,cs,rfl,bQ,au,aM,-⟩:=dd pt.1 lq k aJ (by decide)
   obtain ⟨c,oz⟩:∃ x,x=cellAt s.cells k:=⟨_,rfl⟩;rw [show s.cells.getD k lq=c from oz.symm] at au;have e:=x1 au;subst e;have cl:=am aM;have vH:=am oz;have bz:(0:Int)<=(k:Int):=by omega
   have b7:(k:Int) < (s.cells.length:Int):=by omega
   clear bQ au aM oz
   cases bZ:bF c.num 0 99 with
   | false=>
    have H1:av ((decide (0<=c.num) && decide (c.num < 100))=false):=⟨by rw [CN,bZ]⟩;have yI:=am bZ;clear bZ
    go_wp2_with (first
    |((with_reducible refine aQ 11 ?_);refine c4 gZ (tC+k*3) (fun j u hu=>dD ab.1 (cl.1 j u hu)) ?_)|((with_reducible refine aQ 4 ?_);refine hy 50 ?_;intro gc wt o1 qR dF)|((with_reducible refine bT 50 4 ?_);refine dG o1 ?_;intro wn ad U;have m6:=am ad;have bk:=fq dF qR U;replace al:=aV al bk;replace ab:=cf ab bk;clear bg o1 dF bk ad U;have bg:=ae al;have xm:=ae m6)
    |(go_at_call 125;refine (vz _ _).mono ?_;rw [H1.1];rintro e b9 ⟨rfl,rfl⟩))
    go_ret;have ao:xO s=false:=hK aJ (by rw [<-vH.1,yI.1,Bool.false_and]);rw [ao]
    exact ⟨rfl,ab.1⟩
   | true=>
    have H1:av ((decide (0<=c.num) && decide (c.num < 100))=true):=⟨by rw [CN,bZ]⟩;have yI:=am bZ;clear bZ;by_cases aq:c.time < 0
    ·have ed:decide (c.time < 0)=true:=decide_eq_true aq
     have bn:av (bF c.time 0 s.clock=false):=⟨by rw [Bool.eq_false_iff];intro h;have:=e0.1 h;omega⟩;clear aq
     go_wp2_with (first
     |((with_reducible refine aQ 11 ?_);refine c4 gZ (tC+k*3) (fun j u hu=>dD ab.1 (cl.1 j u hu)) ?_)|((with_reducible refine aQ 4 ?_);refine hy 50 ?_;intro gc wt o1 qR dF)|((with_reducible refine bT 50 4 ?_);refine dG o1 ?_;intro wn ad U;have m6:=am ad;have bk:=fq dF qR U;replace al:=aV al bk;replace ab:=cf ab bk;clear bg o1 dF bk ad U;have bg:=ae al;have xm:=ae m6)
     |(go_at_call 125;refine (vz _ _).mono ?_;rw [H1.1];rintro e b9 ⟨rfl,rfl⟩))
     go_ret;have ao:xO s=false:=hK aJ (by rw [<-vH.1,bn.1,Bool.and_false]);rw [ao];exact ⟨rfl,ab.1⟩
    ·have ed:decide (c.time < 0)=false:=decide_eq_false aq
     by_cases h1:s.clock < c.time
     ·have cg:decide (s.clock < c.time)=true:=decide_eq_true h1
      have bn:av (bF c.time 0 s.clock=false):=⟨by rw [Bool.eq_false_iff];intro h;have:=e0.1 h;omega⟩;clear aq h1
      go_wp2_with (first
      |((with_reducible refine aQ 11 ?_);refine c4 gZ (tC+k*3) (fun j u hu=>dD ab.1 (cl.1 j u hu)) ?_)|((with_reducible refine aQ 4 ?_);refine hy 50 ?_;intro gc wt o1 qR dF)|((with_reducible refine bT 50 4 ?_);refine dG o1 ?_;intro wn ad U;have m6:=am ad;have bk:=fq dF qR U;replace al:=aV al bk;replace ab:=cf ab bk;clear bg o1 dF bk ad U;have bg:=ae al;have xm:=ae m6)
      |(go_at_call 125;refine (vz _ _).mono ?_;rw [H1.1];rintro e b9 ⟨rfl,rfl⟩))
      go_ret;have ao:xO s=false:=hK aJ (by rw [<-vH.1,bn.1,Bool.and_false]);rw [ao];exact ⟨rfl,ab.1⟩
     ·have cg:decide (s.clock < c.time)=false:=decide_eq_false h1
      have bn:av (bF c.time 0 s.clock=true):=⟨e0.2 (by omega)⟩;clear aq h1
      go_wp2_with (first
      |((with_reducible refine aQ 11 ?_);refine c4 gZ (tC+k*3) (fun j u hu=>dD ab.1 (cl.1 j u hu)) ?_)|((with_reducible refine aQ 4 ?_);refine hy 50 ?_;intro gc wt o1 qR dF)|((with_reducible refine bT 50 4 ?_);refine dG o1 ?_;intro wn ad U;have m6:=am ad;have bk:=fq dF qR U;replace al:=aV al bk;replace ab:=cf ab bk;clear bg o1 dF bk ad U;have bg:=ae al;have xm:=ae m6)
      |(go_at_call 125;refine (vz _ _).mono ?_;rw [H1.1];rintro e b9 ⟨rfl,rfl⟩))
      go_roundw
      case rel=>exact ⟨k+1,by omega,by go_num,⟨fun i aa=>by rcases Nat.lt_or_ge i k with h | h;exact du.1 i h;obtain rfl:i=k:=(by omega);rw [<-vH.1,yI.1,bn.1];rfl⟩,al,ab⟩
      case measure=>simp [intOf];omega
  ·obtain rfl:k=s.cells.length:=by omega
   have b7:¬ (s.cells.length:Int) < (s.cells.length:Int):=by omega
   go_wp2;go_ret;have ao:xO s=true:=hv.2 du.1;rw [ao];exact ⟨rfl,ab.1⟩
theorem Mw (s:Sys) (c6:List Value) (i:Nat) (w:World) (hs:cS.K w s c6) (aa:i < s.tasks.length) (aS:s.tasks.length<=1048576):
  Calls Tryz.prog 94 #[.agg c6.toArray,.int .i64 i] w fun e af=>e= .returned (.bool (ka s i))/\Below w.heap.size w af:=by
 obtain ⟨cX,bL,dX,cu,cU,bO,rfl,-,-,-,db,-⟩:=gX hs;have iM:=am db;obtain ⟨b,o,cs,rfl,bQ,au,aM,-⟩:=dd db dS i aa (by decide);obtain ⟨t,a6⟩:∃ x,x=aD s.tasks i:=⟨_,rfl⟩;rw [show s.tasks.getD i dS=t from a6.symm] at au;have OZ:=au;obtain ⟨hB,d3,iZ,d8,gY,d9,gd,d10,rfl,-⟩:=gh au;have cJ:=am aM;have cT:=am OZ;have bz:(0:Int)<=(i:Int):=by omega
 have b7:(i:Int) < (s.tasks.length:Int):=by omega
 have bX:av (ka s i=if i=0 then decide (t.up= -1) else bF t.up 0 (i - 1) && (!isLive t || decide ((aD s.tasks t.up.toNat).a7=1))):=⟨by rw [a6];rfl⟩;clear hs db bQ au OZ aM a6;go_enter Tryz.func94,Tryz.ntmps94;by_cases aq:i=0
 ·have ed:((i:Int) == 0)=true:=by simp [aq]
  have yA:(i == 0)=true:=by simp [aq]
  have rJ:=am aq;clear aq
  go_wp2_with (first
  |((with_reducible refine aQ 2 ?_);refine b6 31 ?_;intro gs U b' ad I;have al:=am ad;have ab:=am I;have bg:=ae al;clear ad I U)
  |((with_reducible refine aQ 10 ?_);refine c4 b (o+i*13) (fun j u hu=>dD ab.1 (cJ.1 j u hu)) ?_)|((with_reducible refine aQ 5 ?_);refine hy 38 ?_;intro gt wt lg GT dF)|((with_reducible refine bT 38 5 ?_);refine dG lg ?_;intro wn ad U;have dA:=am ad;have bk:=fq dF GT U;replace al:=aV al bk;replace ab:=cf ab bk;clear bg lg dF bk ad U;have bg:=ae al;have gn:=ae dA))
  go_ret
  have ao:ka s i=(t.up == -1):=by
   rw [bX.1];rw [if_pos rJ.1,Bool.eq_iff_iff,decide_eq_true_eq,beq_iff_eq]
  rw [ao];exact ⟨rfl,ab.1⟩
 ·have ed:((i:Int) == 0)=false:=by simp [aq]
  have yA:(i == 0)=false:=by simp [aq]
  have rJ:=am aq;clear aq
  cases bZ:bF t.up 0 ((i:Int) - 1) with
  | false=>
   have H1:av ((decide (0<=t.up) && decide (t.up < (i:Int)))=false):=⟨by rw [Mb,bZ]⟩;have yI:=am bZ;clear bZ
   go_wp2_with (first
   |((with_reducible refine aQ 2 ?_);refine b6 31 ?_;intro gs U b' ad I;have al:=am ad;have ab:=am I;have bg:=ae al;clear ad I U)
   |((with_reducible refine aQ 10 ?_);refine c4 b (o+i*13) (fun j u hu=>dD ab.1 (cJ.1 j u hu)) ?_)|((with_reducible refine aQ 5 ?_);refine hy 38 ?_;intro gt wt lg GT dF)|((with_reducible refine bT 38 5 ?_);refine dG lg ?_;intro wn ad U;have dA:=am ad;have bk:=fq dF GT U;replace al:=aV al bk;replace ab:=cf ab bk;clear bg lg dF bk ad U;have bg:=ae al;have gn:=ae dA)
   |(go_at_call 101;refine (lP _ _ _).mono ?_;rw [H1.1];rintro e b9 ⟨rfl,rfl⟩))
   go_ret
   have ao:ka s i=false:=by
    rw [bX.1];rw [if_neg rJ.1,yI.1,Bool.false_and]
   rw [ao]
   exact ⟨rfl,ab.1⟩
  | true=>
   have H1:av ((decide (0<=t.up) && decide (t.up < (i:Int)))=true):=⟨by rw [Mb,bZ]⟩;have yI:=am bZ;have hu:=e0.1 bZ;clear bZ
   cases Ht:isLive t with
   | false=>
    have DF:=am Ht;clear Ht hu
    go_wp2_with (first
    |((with_reducible refine aQ 2 ?_);refine b6 31 ?_;intro gs U b' ad I;have al:=am ad;have ab:=am I;have bg:=ae al;clear ad I U)
    |((with_reducible refine aQ 10 ?_);refine c4 b (o+i*13) (fun j u hu=>dD ab.1 (cJ.1 j u hu)) ?_)|((with_reducible refine aQ 5 ?_);refine hy 38 ?_;intro gt wt lg GT dF)|((with_reducible refine bT 38 5 ?_);refine dG lg ?_;intro wn ad U;have dA:=am ad;have bk:=fq dF GT U;replace al:=aV al bk;replace ab:=cf ab bk;clear bg lg dF bk ad U;have bg:=ae al;have gn:=ae dA)
    |(go_at_call 101;refine (lP _ _ _).mono ?_;rw [H1.1];rintro e b9 ⟨rfl,rfl⟩)
    |((with_reducible refine aQ 21 ?_);refine c4 gt 0 (fR dA.1) ?_)
    |(go_at_call 45;refine (Gh t _ _ (eV.bH ab.1 cT.1)).mono ?_;rw [DF.1];rintro e b9 ⟨rfl,I⟩;replace al:=aV al I;replace dA:=aV dA I;replace ab:=cf ab I;clear bg gn I;have bg:=ae al;have gn:=ae dA))
    go_ret
    have ao:ka s i=true:=by
     rw [bX.1];rw [if_neg rJ.1,yI.1,DF.1];rfl
    rw [ao]
    exact ⟨rfl,ab.1⟩
   | true=>
    have DF:=am Ht;clear Ht;obtain ⟨u,Eg⟩:=Int.eq_ofNat_of_zero_le hu.1;have Cb:u < s.tasks.length:=by omega
    have dZ:(0:Int)<=t.up:=hu.1;have jL:t.up < (s.tasks.length:Int):=by omega
    have l4:t.up.toNat=u:=by omega
    obtain ⟨mB,tt,gN,he,bQ,au,aM,-⟩:=dd iM.1 dS u Cb (by decide);cases he;obtain ⟨nR,oX⟩:∃ x,x=(aD s.tasks u).a7:=⟨_,rfl⟩;rw [show s.tasks.getD u dS=aD s.tasks u from rfl] at au;obtain ⟨p3,f3,Ds,f8,zB,f9,yD,f10,rfl,-⟩:=gh au;have oR:=aM 4 _ rfl;simp only [show eV.bD=13 from rfl] at oR;rw [<-oX] at oR;have vG:=am oR;have Hb:=am oX;clear bQ au aM oR oX hu Eg
    go_wp2_with (first
    |((with_reducible refine aQ 2 ?_);refine b6 31 ?_;intro gs U b' ad I;have al:=am ad;have ab:=am I;have bg:=ae al;clear ad I U)
    |((with_reducible refine aQ 10 ?_);refine c4 b (o+i*13) (fun j u hu=>dD ab.1 (cJ.1 j u hu)) ?_)|((with_reducible refine aQ 5 ?_);refine hy 38 ?_;intro gt wt lg GT dF)|((with_reducible refine bT 38 5 ?_);refine dG lg ?_;intro wn ad U;have dA:=am ad;have bk:=fq dF GT U;replace al:=aV al bk;replace ab:=cf ab bk;clear bg lg dF bk ad U;have bg:=ae al;have gn:=ae dA)
    |(go_at_call 101;refine (lP _ _ _).mono ?_;rw [H1.1];rintro e b9 ⟨rfl,rfl⟩)
    |((with_reducible refine aQ 21 ?_);refine c4 gt 0 (fR dA.1) ?_)
    |(go_at_call 45;refine (Gh t _ _ (eV.bH ab.1 cT.1)).mono ?_;rw [DF.1];rintro e b9 ⟨rfl,I⟩;replace al:=aV al I;replace dA:=aV dA I;replace ab:=cf ab I;clear bg gn I;have bg:=ae al;have gn:=ae dA;have JU:=dD ab.1 vG.1))
    go_ret
    have ao:ka s i=(nR == 1):=by
     rw [bX.1];rw [if_neg rJ.1,yI.1,l4,<-Hb.1,DF.1];rw [Bool.true_and,Bool.not_true,Bool.false_or,Bool.eq_iff_iff,decide_eq_true_eq,beq_iff_eq]
    rw [ao];exact ⟨rfl,ab.1⟩
def Zb (p:Prog) (t:Task) (w:World) (e:Ending) (af:World):Prop:=∃ (a:Act) (gi:List Value),e= .returned (.tuple #[.agg gi.toArray,.bool (decide (t.aR < (bo p.an t.body.toNat).length))])/\kAct.K af a gi/\Below w.heap.size w af/\(t.aR < (bo p.an t.body.toNat).length->a=actAt (bo p.an t.body.toNat) t.aR.toNat)
theorem Sx (p:Prog) (bK:List Value) (t:Task) (dn:List Value) (w:World) (aB:cN.K w p bK) (a6:eV.K w t dn) (aX:jI p) (dE:0<=t.body) (bZ:t.body < p.an.length) (lD:0<=t.aR) (pD:t.aR<=(bo p.an t.body.toNat).length):
  Calls Tryz.prog 76 #[.agg bK.toArray,.agg dn.toArray] w fun e af=>Zb p t w e af:=by
 obtain ⟨ek,ey,g0,er,rfl,-,-,-,gb⟩:=jk aB;obtain ⟨hB,d3,iZ,d8,gY,d9,gd,d10,rfl,-⟩:=gh a6;obtain ⟨bl,pL⟩:=Int.eq_ofNat_of_zero_le dE;have eu:bl < p.an.length:=by omega
 have v4:t.body.toNat=bl:=by omega
 obtain ⟨gp,cV,nW,rfl,kt,hX,en,-⟩:=dd gb ([]:List Act) bl eu (by decide);obtain ⟨k5,kf,rfl,kL,jd⟩:=hX;rw [v4] at pD;obtain ⟨cq,ho⟩:∃ x,x=bo p.an bl:=⟨_,rfl⟩;rw [<-ho] at pD;have U1:cq.length<=1048576:=by rw [ho,zi eu];exact (aX.cq _ (List.getElem_mem eu)).1
 have c3:=en 0 _ rfl;simp only [show (Kd.slice 55 kAct).bD=1 from rfl,Nat.mul_one,Nat.add_zero] at c3;rw [show p.an.getD bl []=cq from ho.symm] at c3 jd;have ni:=am c3;have k6:=am jd;have rl:=am ho;have h3:=am v4;clear aB a6 gb pL kt en kL jd ho c3 aX;go_enter Tryz.func76,Tryz.ntmps76;by_cases he:t.aR=(cq.length:Int)
 ·have ed:(t.aR == (cq.length:Int))=true:=by simp [he]
  have ag:av (decide (t.aR < (bo p.an t.body.toNat).length)=false):=⟨decide_eq_false (by rw [h3.1,<-rl.1];omega)⟩;have bS:=am he;clear he
  go_wp2_with (first
  |((with_reducible refine aQ 2 ?_);refine b6 26 ?_;intro de U b' ad I;have aj:=am ad;clear ad U;have cF:=am I;clear I;have ab:=cF;clear cF;have a5:=ae aj)
  |((with_reducible refine aQ 3 ?_);refine b6 38 ?_;intro gt U eE ad I;have dA:=am ad;clear ad U;replace aj:=aV aj I;replace ab:=cf ab I;clear I a5;have a5:=ae aj;have gn:=ae dA)
  |((with_reducible refine aQ 4 ?_);refine b6 55 ?_;intro ga U dJ ad I;have k9:=am ad;have DE:=am (show w.heap.size<=ga from Nat.le_trans ab.1.size (Nat.le_of_eq U.symm));clear ad U;replace aj:=aV aj I;replace dA:=aV dA I;replace ab:=cf ab I;clear I a5 gn;have a5:=ae aj;have gn:=ae dA;have uk:=ae k9;have TI:=am (dK k9.1);have c3:=dD ab.1 ni.1)
  |((with_reducible refine bT 55 4 ?_);refine dG k9 ?_;intro wn ad U;have zK:=am ad;replace ab:=am (mA ab.1 _ ab.1.size U (fun z aX=>by cases aX;exact DE.1));clear k9 uk ad U))
  refine bodyPost_ret (nK Tryz.results76 _ wn ga 55 #[.int .i64 0,.slice none 0 0,.slice none 0 0,.int .i64 0] (0,0) _ rfl zK.1 Tryz.underlying55 rfl (by kernel_rfl)) rfl ?_;exact ⟨iK,_,by rw [ag.1];rfl,Q' iK (Nat.zero_le _) (vo _ _) (Nat.zero_le _) (vo _ _),ab.1,fun h=>absurd h (of_decide_eq_false ag.1)⟩
 ·have ed:(t.aR == (cq.length:Int))=false:=by simpa using he
  obtain ⟨dI,kV⟩:=Int.eq_ofNat_of_zero_le lD;have hl:dI < cq.length:=by omega
  have Dv:t.aR.toNat=dI:=by omega
  have ag:av (decide (t.aR < (bo p.an t.body.toNat).length)=true):=⟨decide_eq_true (by rw [h3.1,<-rl.1];omega)⟩;have uq:t.aR < (cq.length:Int):=by omega
  obtain ⟨iL,ly,cs,rfl,bQ,au,aM,-⟩:=dd k6.1 iK dI hl (by decide);obtain ⟨a,jS⟩:∃ x,x=actAt cq dI:=⟨_,rfl⟩;rw [show cq.getD dI iK=a from jS.symm] at au;have cT:=am au;obtain ⟨eR,ez,eF,eJ,rfl,-⟩:=m0 au;have vT:=am aM;have p2:=am jS;have oS:=am Dv;clear he kV bQ au aM jS
  go_wp2_with (first
  |((with_reducible refine aQ 2 ?_);refine b6 26 ?_;intro de U b' ad I;have aj:=am ad;clear ad U;have cF:=am I;clear I;have ab:=cF;clear cF;have a5:=ae aj)
  |((with_reducible refine aQ 3 ?_);refine b6 38 ?_;intro gt U eE ad I;have dA:=am ad;clear ad U;replace aj:=aV aj I;replace ab:=cf ab I;clear I a5;have a5:=ae aj;have gn:=ae dA)
  |((with_reducible refine aQ 4 ?_);refine b6 55 ?_;intro ga U dJ ad I;have k9:=am ad;have DE:=am (show w.heap.size<=ga from Nat.le_trans ab.1.size (Nat.le_of_eq U.symm));clear ad U;replace aj:=aV aj I;replace dA:=aV dA I;replace ab:=cf ab I;clear I a5 gn;have a5:=ae aj;have gn:=ae dA;have uk:=ae k9;have TI:=am (dK k9.1);have c3:=dD ab.1 ni.1)
  |((with_reducible refine aQ 23 ?_);refine c4 iL (ly+dI*4) (fun j u hu=>dD ab.1 (vT.1 j u hu)) ?_)
  |((with_reducible refine bT 55 4 ?_);refine dG k9 ?_;intro wn ad U;have zK:=am ad;replace ab:=am (mA ab.1 _ ab.1.size U (fun z aX=>by cases aX;exact DE.1));clear k9 uk ad U))
  refine bodyPost_ret (nK Tryz.results76 _ wn ga 55 #[.int .i64 a.kind,.slice eR a.bP.length ez,.slice eF a.kids.length eJ,.int .i64 a.eY] (0,0) _ rfl zK.1 Tryz.underlying55 rfl (by kernel_rfl)) rfl ?_;exact ⟨a,_,by rw [ag.1];rfl,kAct.bH ab.1 cT.1,ab.1,fun _=>by rw [p2.1,rl.1,oS.1,h3.1]⟩
def rr (x n:Int):Bool:=decide (0<=x) && decide (x < n)
def FL (s:Sys) (t:Task):Bool:=decide (t.since < t.bw) && decide (t.bw<=s.clock)
def pO (s:Sys) (t:Task) (bP:Int):Bool:=
 if t.aE=1 then decide (0<=t.at_) && decide (t.at_<=bP) && (t.bw == 0)
 else if t.aE=2 then rr t.at_ t.ai.length && (t.bw == 0)
 else if t.aE=3 then decide (0 < t.ai.length) && (t.at_ == 0) && (t.bw == 0)
 else if t.aE=4 then decide (0 < t.ai.length) && decide (0<=t.at_) && decide (t.at_<=(t.reads.length:Int)) && FL s t
 else if t.aE=5 then rr t.at_ t.ai.length && FL s t
 else false
def oG (p:Prog) (s:Sys) (t:Task):Bool:=
 if t.aE=0 then (t.at_ == 0) && ((t.reads.length:Int) == 0) && ((t.ai.length:Int) == 0) && decide (0<=t.bw) && decide (t.bw<=s.clock+1)
 else !(t.a7 != 0) && decide (t.aR < (bo p.an t.body.toNat).length) && !((actAt (bo p.an t.body.toNat) t.aR.toNat).kind != 1) && pO s t (actAt (bo p.an t.body.toNat) t.aR.toNat).bP.length
theorem FX {q:Prop} (h:q:=by
  go_wp2_with ((first|with_reducible refine gB ?_ | with_reducible refine gA ?_);refine cx rfl M.1 ?_;clear M C;intro g W M C;simp only [ah] at C)
  go_ret;rw [bX.1];exact ⟨rfl,M.1.below⟩):q:=h
theorem FY {q:Prop} (h:q:=by
  go_wp2;go_ret;rw [bX.1];exact ⟨rfl,M.1.below⟩):q:=h
theorem qD {q:Prop} (h:q:=by
  go_wp2_with (go_at_call 101;refine hQ (lP _ _ _) Nf.1 ?_)
  go_ret;rw [bX.1,BT.1];exact ⟨rfl,M.1.below⟩):q:=h
theorem S2 (p:Prog) (bK:List Value) (s:Sys) (c6:List Value) (t:Task) (dn:List Value) (w:World) (aB:cN.K w p bK) (hs:cS.K w s c6) (a6:eV.K w t dn) (aX:jI p) (J:0<=s.clock/\s.clock<=200) (q9:0<=t.body/\t.body < p.an.length) (mh:0<=t.aR/\t.aR<=(bo p.an t.body.toNat).length):
  Calls Tryz.prog 93 #[.agg bK.toArray,.agg c6.toArray,.agg dn.toArray] w fun e af=>e= .returned (.bool (oG p s t))/\Below w.heap.size w af:=by
 have cR:=am aB;have jf:=am a6;have ea:=am aX;have ld:=am q9;have EA:=am mh;obtain ⟨ek,ey,g0,er,rfl,-⟩:=jk aB;obtain ⟨cX,bL,dX,cu,cU,bO,rfl,-⟩:=gX hs;obtain ⟨hB,d3,iZ,d8,gY,d9,gd,d10,rfl,-⟩:=gh a6;have wc:wrap64 (s.clock+1)=s.clock+1:=Rd.wrap_in (by omega) (by omega);have M:=am (ba.nil w);have C:=M.1.aw;clear aB hs a6 aX q9 mh J;by_cases aq:t.aE=0
 ·have cH:(t.aE == 0)=true:=by simp [aq]
  obtain ⟨tv,ed⟩:∃ b,(t.at_ == 0)=b:=⟨_,rfl⟩;obtain ⟨ej,cg⟩:∃ b,((t.reads.length:Int) == 0)=b:=⟨_,rfl⟩;obtain ⟨b2,cO⟩:∃ b,((t.ai.length:Int) == 0)=b:=⟨_,rfl⟩;obtain ⟨b3,dh⟩:∃ b,decide (0<=t.bw)=b:=⟨_,rfl⟩;have bX:av (oG p s t=(tv && ej && b2 && b3 && decide (t.bw<=s.clock+1))):=⟨by unfold oG;rw [if_pos aq,ed,cg,cO,dh]⟩;clear aq;go_enter Tryz.func93,Tryz.ntmps93;cases tv;exact FX;cases ej;exact FX;cases b2;exact FX;cases b3;exact FX;exact FX
 ·have cH:(t.aE == 0)=false:=by simpa using aq
  obtain ⟨cZ,zP⟩:∃ b,decide (t.aR < (bo p.an t.body.toNat).length)=b:=⟨_,rfl⟩;have DG:=am zP;obtain ⟨a0,mi⟩:∃ x,x=actAt (bo p.an t.body.toNat) t.aR.toNat:=⟨_,rfl⟩;have Kj:=am mi;obtain ⟨b5,iH⟩:∃ b,decide (t.since < t.bw)=b:=⟨_,rfl⟩;obtain ⟨wU,Dw⟩:∃ b,(t.a7 != 0)=b:=⟨_,rfl⟩;obtain ⟨cr,l9⟩:∃ b,(a0.kind != 1)=b:=⟨_,rfl⟩;have bX:av (oG p s t=(!wU && cZ && !cr && pO s t a0.bP.length)):=⟨by unfold oG;rw [if_neg aq,Dw,zP,<-mi,l9]⟩;have DH:=am iH;clear aq zP mi;go_enter Tryz.func93,Tryz.ntmps93
  go_upto_region 4 with (first
  |((first|with_reducible refine gB ?_ | with_reducible refine gA ?_);refine cx rfl M.1 ?_;clear M C;intro g W M C;simp only [ah] at C)
  |((with_reducible refine cv ?_);refine dV rfl rfl M.1 ?_)
  |((with_reducible refine da ?_);refine dv rfl rfl rfl M.1 ?_;clear M C;intro W M C;simp only [ah] at C)
  |(go_at_call 76;refine (Sx p _ t _ _ (cN.bH M.1.below cR.1) (eV.bH M.1.below jf.1) ea.1 ld.1.1 ld.1.2 EA.1.1 EA.1.2).mono ?_;rintro e W ⟨a,gi,rfl,J,I,ha⟩;obtain ⟨eR,ez,eF,eJ,rfl,-⟩:=m0 J;rw [DG.1];replace M:=am (M.1.step I);have Kk:=am ha;clear C J I ha;have C:=M.1.aw;simp only [ah] at C))
  cases wU
  case true=>exact FY
  cases cZ
  case false=>exact FY
  obtain rfl:a=a0:=(by rw [Kj.1];exact Kk.1 (of_decide_eq_true DG.1));cases cr
  case true=>exact FY
  go_upto_region 6 with fail;cases b5
  all_goals
   refine gL M.1 ?_;clear M C;intro W M;refine dx [0,1,2,3,4,5,6,7,8,9,10,11,12,13,14,15,16] M.1 ?_;iterate 17 (first|refine cc rfl ?_ | refine ch rfl ?_ | refine cj rfl ?_)
   refine bN ?_;refine f' ?_;have C:=M.1.aw;simp only [ah] at C;by_cases h1:t.aE=1
   ·obtain ⟨kK,EB⟩:∃ b,decide (0<=t.at_)=b:=⟨_,rfl⟩
    obtain ⟨hq,EC⟩:∃ b,decide (t.at_<=(a.bP.length:Int))=b:=⟨_,rfl⟩;have BT:av (pO s t a.bP.length=(kK && hq && (t.bw == 0))):=⟨by unfold pO;rw [if_pos h1,EB,EC]⟩;have b1:(t.aE == 1)=true:=by simp [h1]
    clear h1;cases kK;exact qD;cases hq;exact qD;exact qD
   have b1:(t.aE == 1)=false:=by simpa using h1
   by_cases ar:t.aE=2
   ·obtain ⟨pl,At⟩:∃ b,rr t.at_ t.ai.length=b:=⟨_,rfl⟩
    have BT:av (pO s t a.bP.length=(pl && (t.bw == 0))):=⟨by unfold pO;rw [if_neg h1,if_pos ar,At]⟩;have eg:(t.aE == 2)=true:=by simp [ar]
    have Nf:=am At;clear At;clear ar;cases pl;exact qD;exact qD
   have eg:(t.aE == 2)=false:=by simpa using ar
   by_cases aA:t.aE=3
   ·obtain ⟨kK,EB⟩:∃ b,decide (0 < t.ai.length)=b:=⟨_,rfl⟩
    obtain ⟨hq,EC⟩:∃ b,(t.at_ == 0)=b:=⟨_,rfl⟩;have BT:av (pO s t a.bP.length=(kK && hq && (t.bw == 0))):=⟨by unfold pO;rw [if_neg h1,if_neg ar,if_pos aA,EB,EC]⟩;have eL:(t.aE == 3)=true:=by simp [aA]
    clear aA;cases kK;exact qD;cases hq;exact qD;exact qD
   have eL:(t.aE == 3)=false:=by simpa using aA
   by_cases bR:t.aE=4
   ·obtain ⟨kK,EB⟩:∃ b,decide (0 < t.ai.length)=b:=⟨_,rfl⟩
    obtain ⟨hq,EC⟩:∃ b,decide (0<=t.at_)=b:=⟨_,rfl⟩;obtain ⟨pZ,VF⟩:∃ b,decide (t.at_<=(t.reads.length:Int))=b:=⟨_,rfl⟩;have BT:av (pO s t a.bP.length=(kK && hq && pZ && (_ && decide (t.bw<=s.clock)))):=⟨by unfold pO;rw [if_neg h1,if_neg ar,if_neg aA,if_pos bR,EB,EC,VF];unfold FL;rw [DH.1]⟩;have oN:(t.aE == 4)=true:=by simp [bR]
    clear bR;cases kK;exact qD;cases hq;exact qD;cases pZ;exact qD;exact qD
   have oN:(t.aE == 4)=false:=by simpa using bR
   by_cases br:t.aE=5
   ·obtain ⟨pl,At⟩:∃ b,rr t.at_ t.ai.length=b:=⟨_,rfl⟩
    have BT:av (pO s t a.bP.length=(pl && (_ && decide (t.bw<=s.clock)))):=⟨by unfold pO;rw [if_neg h1,if_neg ar,if_neg aA,if_neg bR,if_pos br,At];unfold FL;rw [DH.1]⟩;have sL:(t.aE == 5)=true:=by simp [br]
    have Nf:=am At;clear At;clear br;cases pl;exact qD;exact qD
   have sL:(t.aE == 5)=false:=by simpa using br
   have BT:av (pO s t a.bP.length=false):=⟨by unfold pO;rw [if_neg h1,if_neg ar,if_neg aA,if_neg bR,if_neg br]⟩;clear h1 ar aA bR br;exact qD
def pf (p:Prog) (s:Sys) (t:Task):Bool:=
 rr t.body p.an.length && !decide (t.aR < 0) && !decide (((bo p.an t.body.toNat).length:Int) < t.aR) && !decide (t.a7 < 0) && !decide (4 < t.a7) && my t.aL 3 && my t.bE 3 &&
 !decide (t.since < 0) && !decide (s.clock < t.since) && !decide (t.from_ < 0) && !decide ((s.log.length:Int) < t.from_) && hJ t.reads s.cells.length && hJ t.ai s.cells.length
theorem MI (p:Prog) (bK:List Value) (s:Sys) (c6:List Value) (t:Task) (dn:List Value) (w:World) (aB:cN.K w p bK) (hs:cS.K w s c6) (a6:eV.K w t dn) (aX:t.aL.length<=1048576/\t.bE.length<=1048576/\t.reads.length<=1048576/\t.ai.length<=1048576):
  Calls Tryz.prog 92 #[.agg bK.toArray,.agg c6.toArray,.agg dn.toArray] w fun e af=>e= .returned (.bool (pf p s t))/\Below w.heap.size w af:=by
 obtain ⟨ek,ey,g0,er,rfl,-,-,-,gb⟩:=jk aB;obtain ⟨cX,bL,dX,cu,cU,bO,rfl,-⟩:=gX hs;obtain ⟨hB,d3,iZ,d8,gY,d9,gd,d10,rfl,-,dj,-,fy,-,hh,-,fi⟩:=gh a6;have G:=am (And.intro dj (And.intro fy (And.intro hh (And.intro fi aX))));obtain ⟨ej,cg⟩:∃ b,rr t.body p.an.length=b:=⟨_,rfl⟩;obtain ⟨b2,cO⟩:∃ b,decide (t.aR < 0)=b:=⟨_,rfl⟩;obtain ⟨b3,dh⟩:∃ b,decide (((bo p.an t.body.toNat).length:Int) < t.aR)=b:=⟨_,rfl⟩;obtain ⟨b4,fu⟩:∃ b,decide (t.a7 < 0)=b:=⟨_,rfl⟩;obtain ⟨b5,iH⟩:∃ b,decide (4 < t.a7)=b:=⟨_,rfl⟩;obtain ⟨sJ,p5⟩:∃ b,my t.aL 3=b:=⟨_,rfl⟩;obtain ⟨oU,sM⟩:∃ b,my t.bE 3=b:=⟨_,rfl⟩;obtain ⟨yi,oJ⟩:∃ b,decide (t.since < 0)=b:=⟨_,rfl⟩;obtain ⟨eW,nP⟩:∃ b,decide (s.clock < t.since)=b:=⟨_,rfl⟩;obtain ⟨O0,gq⟩:∃ b,decide (t.from_ < 0)=b:=⟨_,rfl⟩;obtain ⟨O1,jm⟩:∃ b,decide ((s.log.length:Int) < t.from_)=b:=⟨_,rfl⟩;obtain ⟨xu,z3⟩:∃ b,hJ t.reads s.cells.length=b:=⟨_,rfl⟩;have bX:av (pf p s t=(ej && !b2 && !b3 && !b4 && !b5 && sJ && oU && !yi && !eW && !O0 && !O1 && xu && hJ t.ai s.cells.length)):=⟨by unfold pf;rw [cg,cO,dh,fu,iH,p5,sM,oJ,nP,gq,jm,z3]⟩;have gM:=am cg;have I5:=am p5;have BU:=am sM;have x9:=am z3;have M:=am (ba.nil w);have C:=M.1.aw;have nk:=am gb;clear aB hs a6 dj fy hh fi aX cg p5 sM z3 gb
 cases ej with
 | false=>
  clear cO dh fu iH oJ nP gq jm;go_enter Tryz.func92,Tryz.ntmps92;go_wp2_with (refine cx rfl M.1 ?_;clear M C;intro g W M C;simp only [ah] at C)
  refine gL M.1 ?_;clear M C;intro W M;refine dx [0,1,2,3,4] M.1 ?_;iterate 5 refine cc rfl ?_
  refine bN ?_;refine jn 5 rfl ?_;refine hQ (lP _ _ _) gM.1 ?_;refine ⟨_,rfl,M,hb (dx [6,7,8,9,10,11,12,13,14,15,16,17,18,19,20,21,22,23] M.1 ?_)⟩;iterate 18 (first|refine cc rfl ?_ | refine ch rfl ?_ | refine cj rfl ?_)
  refine bN (f' ?_);have C:=M.1.aw;simp only [ah] at C
  go_wp2_with (first
  |(go_at_call 126;refine hQ (SP _ _ _ _ (by first|exact Kd.bW G.1.1 M.1.below | exact Kd.bW G.1.2.1 M.1.below) (by first|exact G.1.2.2.2.2.1 | exact G.1.2.2.2.2.2.1)) (by first|exact I5.1 | exact BU.1) ?_)
  |(go_at_call 127;refine hd M.1 (IF _ _ _ _ _ (by first|exact Kd.bW G.1.2.2.1 M.1.below | exact Kd.bW G.1.2.2.2.1 M.1.below) (by first|exact G.1.2.2.2.2.2.2.1 | exact G.1.2.2.2.2.2.2.2)) (by first|exact x9.1 | rfl) ?_;clear M C;intro W M C;simp only [ah] at C))
  go_ret;rw [bX.1]
  exact ⟨rfl,M.1.below⟩
 | true=>
  have I:=(Bool.and_eq_true_iff).1 (show (decide (0<=t.body) && decide (t.body < (p.an.length:Int)))=true from gM.1);have dE:0<=t.body:=of_decide_eq_true I.1;have bZ:t.body < p.an.length:=of_decide_eq_true I.2;obtain ⟨bl,pL⟩:=Int.eq_ofNat_of_zero_le dE;have eu:bl < p.an.length:=by omega
  have v4:t.body.toNat=bl:=by omega
  obtain ⟨gp,cV,nW,rfl,kt,hX,en,-⟩:=dd nk.1 ([]:List Act) bl eu (by decide);obtain ⟨k5,kf,rfl,kL,-⟩:=hX;have c3:=en 0 _ rfl;simp only [show (Kd.slice 55 kAct).bD=1 from rfl,Nat.mul_one,Nat.add_zero] at c3;rw [v4] at dh;rw [show (p.an.getD bl []).length=(bo p.an bl).length from rfl] at c3;generalize (bo p.an bl).length=nn at c3 dh;replace M:=am (M.1.cB c3);clear C kt en c3 kL pL I eu;have C:=M.1.aw;simp only [ah] at C;cases b2;cases b3;cases b4;cases b5;cases sJ;rotate_left;cases oU;rotate_left;cases yi;cases eW;cases O0;cases O1;cases xu;rotate_left
  all_goals
   go_enter Tryz.func92,Tryz.ntmps92;go_wp2_with (refine cx rfl M.1 ?_;clear M C;intro g W M C;simp only [ah] at C)
   refine gL M.1 ?_;clear M C;intro W M;refine dx [0,1,2,3,4] M.1 ?_;iterate 5 refine cc rfl ?_
   refine bN ?_;refine jn 5 rfl ?_;refine hQ (lP _ _ _) gM.1 ?_;refine ⟨_,rfl,M,hb (dx [6,7,8,9,10,11,12,13,14,15,16,17,18,19,20,21,22,23] M.1 ?_)⟩;iterate 18 (first|refine cc rfl ?_ | refine ch rfl ?_ | refine cj rfl ?_)
   refine bN (f' ?_);have C:=M.1.aw;simp only [ah] at C
   go_wp2_with (first
   |(go_at_call 126;refine hQ (SP _ _ _ _ (by first|exact Kd.bW G.1.1 M.1.below | exact Kd.bW G.1.2.1 M.1.below) (by first|exact G.1.2.2.2.2.1 | exact G.1.2.2.2.2.2.1)) (by first|exact I5.1 | exact BU.1) ?_)
   |(go_at_call 127;refine hd M.1 (IF _ _ _ _ _ (by first|exact Kd.bW G.1.2.2.1 M.1.below | exact Kd.bW G.1.2.2.2.1 M.1.below) (by first|exact G.1.2.2.2.2.2.2.1 | exact G.1.2.2.2.2.2.2.2)) (by first|exact x9.1 | rfl) ?_;clear M C;intro W M C;simp only [ah] at C))
   go_ret;rw [bX.1];exact ⟨rfl,M.1.below⟩
end Go.Proofs.YteajdhhmkjblnaaGreatDoor.Eq
namespace Go.Proofs.YteajdhhmkjblnaaGreatDoor.Eq
theorem aaW {p:Nat->Bool} {k:Nat} {x:Int}:x ∈ lO p k ↔ ∃ i:Nat,i < k/\p i=true/\x=(i:Int):=by
 simp only [lO,List.mem_map,List.mem_filter,List.mem_range];constructor
 ·rintro ⟨i,⟨h1,ar⟩,rfl⟩;exact ⟨i,h1,ar,rfl⟩
 ·rintro ⟨i,h1,ar,rfl⟩;exact ⟨i,⟨h1,ar⟩,rfl⟩
theorem CY {dn:List Task} {t x:Int}:x ∈ kids dn t ↔ ∃ i:Nat,i < dn.length/\0<=t/\(aD dn i).up=t/\t < (i:Int)/\x=(i:Int):=by
 simp only [kids,aaW,n9,Bool.and_eq_true,decide_eq_true_eq];constructor
 ·rintro ⟨i,h1,⟨⟨ar,aA⟩,bR⟩,rfl⟩;exact ⟨i,h1,ar,aA,bR,rfl⟩
 ·rintro ⟨i,h1,ar,aA,bR,rfl⟩;exact ⟨i,h1,⟨⟨ar,aA⟩,bR⟩,rfl⟩
theorem Sg {α:Type} {β:Type} {g:α->List β}:∀ {l:List α},(∀ x ∈ l,(g x).Nodup)->l.Pairwise (fun a b=>∀ x,x ∈ g a->x ∈ g b->False)->((l.map g).flatten).Nodup
 | [],_,_=>by simp
 | a :: l,h1,ar=>by
  rw [List.map_cons,List.flatten_cons,List.nodup_append];rw [List.pairwise_cons] at ar;refine ⟨h1 a List.mem_cons_self,Sg (fun x az=>h1 x (List.mem_cons_of_mem _ az)) ar.2,fun x az y aW he=> ?_⟩;subst he;obtain ⟨m,hm,VG⟩:=List.mem_flatten.1 aW;obtain ⟨b,I,rfl⟩:=List.mem_map.1 hm;exact ar.1 b I x az VG
end Go.Proofs.YteajdhhmkjblnaaGreatDoor.Eq
namespace Go.Proofs.YteajdhhmkjblnaaGreatDoor.Eq
open Go.RowKit Go.Proofs.YteajdhhmkjblnaaGreatDoorW.PrintWords Go.Proofs.YteajdhhmkjblnaaGreatDoorW.PrintLast Go.Proofs.YteajdhhmkjblnaaGreatDoorW.PrintMore
def wy (s:Sys) (aY:List Int) (n:Nat):Nat:=lr (fun j=> !decide ((aD s.tasks (rd aY j).toNat).a7=4)) n
def td (p:Prog) (s:Sys) (i:Nat):Bool:=
 let t:=aD s.tasks i
 let cq:=bo p.an t.body.toNat
 if t.a7=1 then decide (t.aR < cq.length) && ((actAt cq t.aR.toNat).kind == 2) && decide ((actAt cq t.aR.toNat).kids.length<=wy s (kids s.tasks i) (kids s.tasks i).length)
 else if t.a7=2 then !decide (t.aR < cq.length) else true
theorem QZ {aY:List Int} {k:Nat} (h:k < aY.length):rd aY (k:Int) ∈ aY:=by
 unfold rd;rw [Int.toNat_natCast,List.getD_eq_getElem?_getD,List.getElem?_eq_getElem h];exact List.getElem_mem h
theorem QF {q:Prop} (h:q:=by
  go_wp2;go_ret;rw [bX.1];exact ⟨rfl,M.1.below⟩):q:=h
theorem LF {q:Prop} (h:q:=by
  go_wp2;go_ret;rw [bX.1];exact ⟨rfl,fb lI.1 M.1.below⟩):q:=h
theorem Sy (p:Prog) (bK:List Value) (s:Sys) (c6:List Value) (i:Nat) (w:World) (aB:cN.K w p bK) (hs:cS.K w s c6) (aX:jI p) (aa:i < s.tasks.length) (aS:s.tasks.length<=1048576) (q9:0<=(aD s.tasks i).body/\(aD s.tasks i).body < p.an.length) (mh:0<=(aD s.tasks i).aR/\(aD s.tasks i).aR<=(bo p.an (aD s.tasks i).body.toNat).length):
  Calls Tryz.prog 95 #[.agg bK.toArray,.agg c6.toArray,.int .i64 i] w fun e af=>e= .returned (.bool (td p s i))/\Below w.heap.size w af:=by
 have cR:=am aB;have c8:=am hs;have ea:=am aX;have eD:=am aS;obtain ⟨ek,ey,g0,er,rfl,-⟩:=jk aB;obtain ⟨cX,bL,dX,cu,cU,bO,rfl,-,-,-,db,-⟩:=gX hs;obtain ⟨b,o,cs,rfl,bQ,au,aM,-⟩:=dd db dS i aa (by decide);obtain ⟨t,a6⟩:∃ x,x=aD s.tasks i:=⟨_,rfl⟩;rw [<-a6] at q9 mh;rw [show s.tasks.getD i dS=t from a6.symm] at au;have jf:=am au;obtain ⟨hB,d3,iZ,d8,gY,d9,gd,d10,rfl,-⟩:=gh au;have cl:=am aM;have iM:=am db;have ld:=am q9;have EA:=am mh;obtain ⟨cZ,zP⟩:∃ b,decide (t.aR < (bo p.an t.body.toNat).length)=b:=⟨_,rfl⟩;have DG:=am zP;obtain ⟨a0,mi⟩:∃ x,x=actAt (bo p.an t.body.toNat) t.aR.toNat:=⟨_,rfl⟩;have Kj:=am mi;obtain ⟨aY,mN⟩:∃ x,x=kids s.tasks i:=⟨_,rfl⟩;have lf:=am mN;have bX:av (td p s i=if t.a7=1 then cZ && (a0.kind == 2) && decide (a0.kids.length<=wy s aY aY.length) else if t.a7=2 then !cZ else true):=⟨by rw [mN,mi,<-zP,a6];rfl⟩;have bz:(0:Int)<=(i:Int):=by omega
 have b7:(i:Int) < (s.tasks.length:Int):=by omega
 have M:=am (ba.nil w);have C:=M.1.aw;clear aB hs aX au aM bQ zP mi mN db q9 mh aa aS a6;go_enter Tryz.func95,Tryz.ntmps95
 go_upto_region 3 with (first
 |((first|with_reducible refine gB ?_ | with_reducible refine gA ?_);refine cx rfl M.1 ?_;clear M C;intro g W M C;simp only [ah] at C)
 |((with_reducible refine cv ?_);refine fZ rfl rfl M.1 cl.1 ?_)
 |((with_reducible refine cv ?_);refine dV rfl rfl M.1 ?_)
 |((with_reducible refine da ?_);refine dv rfl rfl rfl M.1 ?_;clear M C;intro W M C;simp only [ah] at C)
 |(go_at_call 76;refine (Sx p _ t _ _ (cN.bH M.1.below cR.1) (eV.bH M.1.below jf.1) ea.1 ld.1.1 ld.1.2 EA.1.1 EA.1.2).mono ?_;rintro e W ⟨a,gi,rfl,J,I,ha⟩;obtain ⟨eR,ez,eF,eJ,rfl,-⟩:=m0 J;rw [DG.1];have Kk:=am ha;clear J ha;replace M:=am (M.1.step I);clear C;have C:=M.1.aw;simp only [ah] at C;clear I))
 by_cases h1:t.a7=1
 ·have cg:(t.a7 == 1)=true:=by simp [h1]
  replace bX:=am (bX.1.trans (if_pos h1));clear h1
  go_wp2_with (first
  |((first|with_reducible refine gB ?_ | with_reducible refine gA ?_);refine cx rfl M.1 ?_;clear M C;intro g W M C;simp only [ah] at C)
  |((with_reducible refine cv ?_);refine fZ rfl rfl M.1 cl.1 ?_)
  |((with_reducible refine cv ?_);refine dV rfl rfl M.1 ?_)
  |((with_reducible refine da ?_);refine dv rfl rfl rfl M.1 ?_;clear M C;intro W M C;simp only [ah] at C)
  |(go_at_call 111;refine (IH s _ _ _ (cS.bH M.1.below c8.1) eD.1).mono ?_;rintro e W1 ⟨v,rfl,bp,I⟩;obtain ⟨A,c,rfl,-,uv⟩:=Kd.fG bp;have lI:=am (fb M.1.below I);have zQ:=am uv;clear bp uv;have hj:=am (M.1.step I).Bj;simp only [List.map_cons,List.map_nil,kk.bE] at hj;clear M C I;have M:=hj;clear hj;have C:=M.1.aw;simp only [ah] at C))
  rw [<-lf.1] at zQ ⊢;obtain ⟨L,fg,fh⟩:=ba.named M;go_loopw [10,12,32] (fun bv _ j af=>∃ k:Nat,k<=aY.length/\bv= .int .i64 (wy s aY k:Nat)/\j= .int .i64 k/\av (ba W1 af L)) (fun _ _ j _=>aY.length - (intOf j).toNat)
  case atStart=>exact ⟨0,Nat.zero_le _,rfl,rfl,fh⟩
  case round=>
   obtain ⟨k,J,rfl,rfl,M2⟩:=hrel;have e:=fg.1;subst e;clear M C fh fg;have M:=M2;clear M2;have C:=M.1.aw;simp only [ah] at C;by_cases aJ:k < aY.length
   ·have bU:(0:Int)<=(k:Int):=by omega
    have s1:(k:Int) < (aY.length:Int):=by omega
    obtain ⟨cy,mb,az⟩:=Kd.kG zQ.1 (k:Int) bU s1;cases mb;simp only [Int.toNat_natCast] at az;obtain ⟨n,aS,-,-,-,r1⟩:=CY.1 (show rd aY (k:Int) ∈ kids s.tasks i by rw [<-lf.1];exact QZ aJ);rw [r1] at az;obtain ⟨mB,tt,gN,zu,Lb,w',CB,-⟩:=dd (Kd.bW iM.1 lI.1) dS n aS (by decide);cases zu;obtain ⟨VH,VI,VJ,VK,VL,VM,Xp,Xq,rfl,-⟩:=gh w';have pA:=CB 4 _ rfl;rw [show s.tasks.getD n dS=aD s.tasks n from rfl] at pA;simp only [show eV.bD=13 from rfl] at pA;have dq:aY.length<=1048576:=by rw [lf.1];exact Nat.le_trans (C' _ _) eD.1
    replace M:=am ((M.1.cB az).cB pA);clear C;have C:=M.1.aw;simp only [ah] at C;have kK:(0:Int)<=(n:Int):=by omega
    have hq:(n:Int) < (s.tasks.length:Int):=by omega
    have I:wy s aY (k+1)=wy s aY k+if (!decide ((aD s.tasks n).a7=4)) then 1 else 0:=by
     show wy s aY k+(if (!decide ((aD s.tasks (rd aY (k:Int)).toNat).a7=4)) then 1 else 0)=_;rw [r1,Int.toNat_natCast]
    have hle:wy s aY k<=k:=xX _ _;have ew:=am (And.intro I hle);clear az w' CB Lb pA r1 I hle;by_cases bR:(aD s.tasks n).a7=4
    ·have fu:((aD s.tasks n).a7 != 4)=false:=by simp [bR]
     go_wp2;go_roundw
     case rel=>exact ⟨k+1,by omega,by rw [ew.1.1,decide_eq_true bR];rfl,by go_num,⟨M.1.pop.pop⟩⟩
     case measure=>simp [intOf];omega
    ·have fu:((aD s.tasks n).a7 != 4)=true:=by simp [bR]
     go_wp2;go_roundw
     case rel=>exact ⟨k+1,by omega,by rw [ew.1.1,decide_eq_false bR,Rd.wrap_in (by omega) (by have:=ew.1.2;omega)];rfl,by go_num,⟨M.1.pop.pop⟩⟩
     case measure=>simp [intOf];omega
   ·obtain rfl:k=aY.length:=by omega
    have s1:¬ (aY.length:Int) < (aY.length:Int):=by omega
    cases cZ
    case false=>exact LF
    obtain rfl:a=a0:=(by rw [Kj.1];exact Kk.1 (of_decide_eq_true DG.1));obtain ⟨cr,l9⟩:∃ b,(a.kind == 2)=b:=⟨_,rfl⟩;rw [l9] at bX;cases cr
    case false=>exact LF
    exact LF
 ·have cg:(t.a7 == 1)=false:=by simpa using h1
  have qe:=am (bX.1.trans (if_neg h1));clear h1 bX;by_cases ar:t.a7=2
  ·have cO:(t.a7 == 2)=true:=by simp [ar]
   have bX:=am (qe.1.trans (if_pos ar));exact QF
  ·have cO:(t.a7 == 2)=false:=by simpa using ar
   have bX:=am (qe.1.trans (if_neg ar));exact QF
end Go.Proofs.YteajdhhmkjblnaaGreatDoor.Eq
namespace Go.Proofs.YteajdhhmkjblnaaGreatDoor.Eq
def hY (t:Task):List cI:=if t.aE=2 then t.ai.take t.at_.toNat else if t.aE=3\/t.aE=4 then t.ai else if t.aE=5 then t.ai.drop t.at_.toNat else []
theorem Zc {l:List cI} (h:l.Pairwise fun x y=>x.cell < y.cell) {i j:Nat} (aa:i < l.length) (aI:j < l.length) (he:l[i].cell=l[j].cell):i=j:=by
 rw [List.pairwise_iff_getElem] at h;rcases Nat.lt_trichotomy i j with h1 | h1 | h1
 ·have:=h i j aa aI h1
  omega
 ·exact h1
 ·have:=h j i aI aa h1
  omega
theorem ZS {l:List cI} {c:Int} (h:iD l c=none):∀ x ∈ l,x.cell ≠ c:=by
 unfold iD at h;rw [List.findIdx?_eq_none_iff] at h;intro x az;simpa using h x az
theorem aap {l:List cI} {c:Int} {i:Nat} (h:iD l c=some i):∃ aa:i < l.length,l[i].cell=c:=by
 unfold iD at h;rw [List.findIdx?_eq_some_iff_getElem] at h;exact ⟨h.1,by simpa using h.2.1⟩
theorem Iy {n:Nat} {t:Task} (h:k3 n t.ai) (aq:0<=t.at_) {c:Int}:holds t c=true ↔ ∃ x ∈ hY t,x.cell=c:=by
 unfold holds hY
 cases bb:iD t.ai c with
 | none=>
  have aS:=ZS bb;constructor
  ·intro c0
   cases c0
  ·rintro ⟨x,az,ay⟩
   exfalso;refine aS x ?_ ay;split at az
   ·exact List.mem_of_mem_take az
   ·split at az
    ·exact az
    ·split at az
     ·exact List.mem_of_mem_drop az
     ·simp at az
 | some i=>
  obtain ⟨aa,ay⟩:=aap bb;have Cv:∀ j (aI:j < t.ai.length),t.ai[j].cell=c->j=i:=fun j aI VN=>Zc h.vQ aI aa (VN.trans ay.symm)
  show (if t.aE=2 then decide ((i:Int) < t.at_) else if t.aE=3\/t.aE=4 then true else if t.aE=5 then decide (t.at_<=i) else false)=true ↔ _;by_cases ar:t.aE=2
  ·rw [if_pos ar,if_pos ar,decide_eq_true_eq]
   constructor
   ·intro aJ
    exact ⟨t.ai[i],by rw [List.mem_take_iff_getElem];exact ⟨i,by omega,rfl⟩,ay⟩
   ·rintro ⟨x,az,yJ⟩
    rw [List.mem_take_iff_getElem] at az;obtain ⟨j,aI,rfl⟩:=az;have:=Cv j (by omega) yJ;omega
  ·rw [if_neg ar,if_neg ar]
   by_cases aA:t.aE=3\/t.aE=4
   ·rw [if_pos aA,if_pos aA]
    exact ⟨fun _=>⟨_,List.getElem_mem aa,ay⟩,fun _=>rfl⟩
   ·rw [if_neg aA,if_neg aA]
    by_cases br:t.aE=5
    ·rw [if_pos br,if_pos br,decide_eq_true_eq]
     constructor
     ·intro hle
      refine ⟨t.ai[i], ?_,ay⟩;rw [List.mem_iff_getElem];exact ⟨i - t.at_.toNat,by rw [List.length_drop];omega,by rw [List.getElem_drop];congr 1;omega⟩
     ·rintro ⟨x,az,yJ⟩
      rw [List.mem_iff_getElem] at az;obtain ⟨j,aI,rfl⟩:=az;rw [List.length_drop] at aI;rw [List.getElem_drop] at yJ;have:=Cv _ (by omega) yJ;omega
    ·rw [if_neg br,if_neg br]
     constructor
     ·intro c0
      cases c0
     ·rintro ⟨x,az,_⟩
      simp at az
theorem CZ {n:Nat} {t:Task} (h:k3 n t.ai):(hY t).Pairwise (fun x y=>x.cell < y.cell)/\∀ x ∈ hY t,0<=x.cell/\x.cell < n:=by
 unfold hY;split
 ·exact ⟨h.vQ.take,fun x az=>h.cell x (List.mem_of_mem_take az)⟩
 ·split
  ·exact ⟨h.vQ,h.cell⟩
  ·split
   ·exact ⟨h.vQ.drop,fun x az=>h.cell x (List.mem_of_mem_drop az)⟩
   ·exact ⟨List.Pairwise.nil,fun x az=>by simp at az⟩
def place:List (Nat × Nat)->List Int->Option (List Int)
 | [],h=>some h
 | q :: l,h=>if cC h q.1= -1 then place l (h.set q.1 q.2) else none
theorem Sh:∀ {l:List (Nat × Nat)} {h ct:List Int},place l h=some ct->(∀ q ∈ l,q.1 < h.length)->∀ q ∈ l,cC h q.1= -1
 | [],h,ct,_,_=>fun q aF=>by simp at aF
 | a :: l,h,ct,aB,ak=>by
  unfold place at aB;split at aB
  ·rename_i ha
   intro q aF;rcases List.mem_cons.1 aF with rfl | aF
   ·exact ha
   ·have:=Sh aB (fun q aF=>by rw [List.length_set];exact ak q (by simp [aF])) q aF
    rw [Bw (ak a (by simp))] at this;split at this
    ·omega
    ·exact this
  ·cases aB
theorem Mx:∀ {l:List (Nat × Nat)} {h ct:List Int},place l h=some ct->(∀ q ∈ l,q.1 < h.length)->ct.length=h.length/\(∀ q ∈ l,cC ct q.1=q.2)/\∀ c,(∀ q ∈ l,q.1 ≠ c)->cC ct c=cC h c
 | [],h,ct,aB,_=>by
  unfold place at aB;cases aB
  exact ⟨rfl,fun q aF=>by simp at aF,fun _ _=>rfl⟩
 | a :: l,h,ct,aB,ak=>by
  unfold place at aB;split at aB
  ·rename_i ha
   have p8:∀ q ∈ l,q.1 < (h.set a.1 a.2).length:=fun q aF=>by rw [List.length_set];exact ak q (by simp [aF])
   obtain ⟨h1,ar,aA⟩:=Mx aB p8;have bR:=Sh aB p8;refine ⟨by rw [h1,List.length_set],fun q aF=> ?_,fun c ay=> ?_⟩
   ·rcases List.mem_cons.1 aF with rfl | aF
    ·rw [aA q.1 (fun r ao he=> ?_),Bw (ak q (by simp)),if_pos rfl]
     have:=bR r ao
     rw [he,Bw (ak q (by simp)),if_pos rfl] at this;omega
    ·exact ar q aF
   ·rw [aA c (fun q aF=>ay q (by simp [aF])),Bw (ak a (by simp)),if_neg (ay a (by simp))]
  ·cases aB
theorem RY:∀ {l:List (Nat × Nat)} {h:List Int},(∀ q ∈ l,q.1 < h.length/\cC h q.1= -1)->(l.map Prod.fst).Nodup->∃ ct,place l h=some ct
 | [],h,_,_=>⟨h,rfl⟩
 | a :: l,h,ak,aS=>by
  rw [List.map_cons,List.nodup_cons] at aS;unfold place;rw [if_pos (ak a (by simp)).2];refine RY (fun q aF=>⟨by rw [List.length_set];exact (ak q (by simp [aF])).1, ?_⟩) aS.2;rw [Bw (ak a (by simp)).1,if_neg]
  ·exact (ak q (by simp [aF])).2
  ·intro he
   exact aS.1 (he ▸ List.mem_map_of_mem aF)
def rp (s:Sys):List (Nat × Nat):=((List.range s.tasks.length).map fun k=>(hY (aD s.tasks k)).map fun x=>(x.cell.toNat,k)).flatten
def vv (s:Sys):Bool:=
 match place (rp s) (List.replicate s.cells.length (-1)) with
 | none=>false
 | some h=>hH s.cells.length fun i=>decide ((cellAt s.cells i).lock=cC h i)
theorem Mp {n i:Nat} (h:i < n):cC (List.replicate n (-1)) i= -1:=by simp [cC,h]
theorem Gd {s:Sys} {c k:Nat} (aB:∀ i,i < s.tasks.length->k3 s.cells.length (aD s.tasks i).ai) (aq:∀ i,i < s.tasks.length->0<=(aD s.tasks i).at_):(c,k) ∈ rp s ↔ k < s.tasks.length/\holds (aD s.tasks k) c=true:=by
 unfold rp;rw [List.mem_flatten];constructor
 ·rintro ⟨l,ak,aF⟩
  obtain ⟨j,aI,rfl⟩:=List.mem_map.1 ak;rw [List.mem_range] at aI;obtain ⟨x,az,he⟩:=List.mem_map.1 aF;injection he with dC kP;subst kP;refine ⟨aI,(Iy (aB j aI) (aq j aI)).2 ⟨x,az, ?_⟩⟩;have:=(CZ (aB j aI)).2 x az;omega
 ·rintro ⟨J,c0⟩
  obtain ⟨x,az,he⟩:=(Iy (aB k J) (aq k J)).1 c0;exact ⟨_,List.mem_map.2 ⟨k,List.mem_range.2 J,rfl⟩,List.mem_map.2 ⟨x,az,by rw [he];simp⟩⟩
theorem RG {s:Sys} (aB:∀ i,i < s.tasks.length->k3 s.cells.length (aD s.tasks i).ai):∀ q ∈ rp s,q.1 < s.cells.length:=by
 intro q aF;unfold rp at aF;obtain ⟨l,ak,aF⟩:=List.mem_flatten.1 aF;obtain ⟨j,aI,rfl⟩:=List.mem_map.1 ak;rw [List.mem_range] at aI;obtain ⟨x,az,rfl⟩:=List.mem_map.1 aF;have:=(CZ (aB j aI)).2 x az;show x.cell.toNat < _;omega
theorem aaq {s:Sys} (aB:∀ i,i < s.tasks.length->k3 s.cells.length (aD s.tasks i).ai) (aq:∀ i,i < s.tasks.length->0<=(aD s.tasks i).at_):
  vv s=true ↔ ∀ i,i < s.cells.length->(-1<=(cellAt s.cells i).lock/\(cellAt s.cells i).lock<=s.tasks.length - 1)/\∀ k,k < s.tasks.length->(holds (aD s.tasks k) i=true ↔ (cellAt s.cells i).lock=k):=by
 have aJ:∀ q ∈ rp s,q.1 < (List.replicate s.cells.length (-1:Int)).length:=fun q aF=>by rw [List.length_replicate];exact RG aB q aF
 unfold vv;constructor
 ·intro h
  cases uq:place (rp s) (List.replicate s.cells.length (-1)) with
  | none=>rw [uq] at h;cases h
  | some g=>
   rw [uq] at h;obtain ⟨_,GH,dj⟩:=Mx uq aJ;intro i aa
   have yK:(cellAt s.cells i).lock=cC g i:=by
    have:=hv.1 h i aa
    simpa using this
   by_cases hex:∃ k,(i,k) ∈ rp s
   ·obtain ⟨k,J⟩:=hex
    have Es:=GH _ J;have rS:=(Gd aB aq).1 J;rw [yK,show cC g i=(k:Int) from Es];refine ⟨by omega,fun j aI=>⟨fun c0=> ?_,fun he=> ?_⟩⟩
    ·have:=GH _ ((Gd aB aq).2 ⟨aI,c0⟩)
     rw [<-this];exact Es.symm
    ·have:k=j:=by omega
     rw [<-this];exact rS.2
   ·have U:cC g i= -1:=by
     rw [dj i (fun q aF he=>hex ⟨q.2,by rw [<-he];exact aF⟩),Mp aa]
    rw [yK,U];refine ⟨by omega,fun j aI=>⟨fun c0=>absurd ⟨j,(Gd aB aq).2 ⟨aI,c0⟩⟩ hex,fun he=>by omega⟩⟩
 ·intro h
  have mL:((rp s).map Prod.fst).Nodup:=by
   have he:(rp s).map Prod.fst=((List.range s.tasks.length).map fun k=>(hY (aD s.tasks k)).map fun x=>x.cell.toNat).flatten:=by
    unfold rp;rw [List.map_flatten,List.map_map];congr 1;refine List.map_congr_left fun k _=> ?_
    simp only [Function.comp,List.map_map];rfl
   rw [he];refine Sg (fun k J=> ?_) ?_
   ·rw [List.mem_range] at J
    obtain ⟨h1,ar⟩:=CZ (aB k J);rw [List.Nodup,List.pairwise_map];refine List.Pairwise.imp_of_mem (fun {a b} ha I ND=> ?_) h1;have:=ar a ha;have:=ar b I;omega
   ·refine List.Pairwise.imp_of_mem (fun {a b} ha I ND c G0 VO=> ?_) List.pairwise_lt_range
    rw [List.mem_range] at ha I;obtain ⟨x,az,rfl⟩:=List.mem_map.1 G0;obtain ⟨y,aW,adl⟩:=List.mem_map.1 VO;have sS:=(CZ (aB a ha)).2 x az;have adm:=(CZ (aB b I)).2 y aW;have ay:=(h x.cell.toNat (by omega)).2;have h1:=(ay a ha).1 ((Iy (aB a ha) (aq a ha)).2 ⟨x,az,by omega⟩);have ar:=(ay b I).1 ((Iy (aB b I) (aq b I)).2 ⟨y,aW,by omega⟩);omega
  obtain ⟨g,U⟩:=RY (h:=List.replicate s.cells.length (-1)) (fun q aF=>⟨aJ q aF,Mp (RG aB q aF)⟩) mL;obtain ⟨_,GH,dj⟩:=Mx U aJ;rw [U];show hH _ _=true;rw [hv];intro i aa;rw [decide_eq_true_eq];obtain ⟨h1,ar⟩:=h i aa;by_cases hex:∃ k,(i,k) ∈ rp s
  ·obtain ⟨k,J⟩:=hex
   have rS:=(Gd aB aq).1 J;rw [(ar k rS.1).1 rS.2];exact (GH _ J).symm
  ·have VP:cC g i= -1:=by
    rw [dj i (fun q aF he=>hex ⟨q.2,by rw [<-he];exact aF⟩),Mp aa]
   rw [VP];by_cases ak:(cellAt s.cells i).lock= -1
   ·exact ak
   ·exfalso
    have J:(cellAt s.cells i).lock.toNat < s.tasks.length:=by omega
    have:=(ar _ J).2 (by omega)
    exact hex ⟨_,(Gd aB aq).2 ⟨J,this⟩⟩
end Go.Proofs.YteajdhhmkjblnaaGreatDoor.Eq
namespace Go.Proofs.YteajdhhmkjblnaaGreatDoor.Eq
open Go.RowKit Go.Proofs.YteajdhhmkjblnaaGreatDoorW.PrintWords Go.Proofs.YteajdhhmkjblnaaGreatDoorW.PrintLast Go.Proofs.YteajdhhmkjblnaaGreatDoorW.PrintMore
def ZT (t:Task) (dn:List Value) (w:World) (e:Ending) (af:World):Prop:=∃ A c,e= .returned (.slice A (hY t).length c)/\(∀ V,eV.K V t dn->cn.C V A (hY t).length (hY t))/\Below w.heap.size w af
theorem Mq {V:World} {t:Task} {a0 jN a2 a3 a4 vF tK vE mG a9 Kl VQ:Value} {A:Option Addr} {n c:Nat} (h:eV.K V t [a0,jN,a2,a3,a4,vF,tK,vE,mG,a9,.slice A n c,Kl,VQ]):cn.C V A t.ai.length t.ai:=by
 obtain ⟨_,_,_,_,_,_,_,_,he,-,-,-,-,-,-,-,fi⟩:=gh h;simp only [List.cons.injEq,Value.slice.injEq,true_and] at he;obtain ⟨-,-,-,-,-,-,-,-,-,-,⟨rfl,-,-⟩,-⟩:=he;exact fi
theorem ab4 (t:Task) (dn:List Value) (w:World) (a6:eV.K w t dn) (aX:t.ai.length<=1048576) (Cj:t.aE=2\/t.aE=5->0<=t.at_/\t.at_<=t.ai.length):
  Calls Tryz.prog 128 #[.agg dn.toArray] w (ZT t dn w):=by
 obtain ⟨hB,d3,iZ,d8,gY,d9,gd,d10,rfl,-,-,-,-,-,-,ko,fi⟩:=gh a6;obtain ⟨i0,lh,_,cP,_⟩:=info_parts xZ;have G:=am fi;have M:=am (ba.nil w);have C:=M.1.aw;clear a6 fi;go_enter Tryz.func128,Tryz.ntmps128;by_cases ar:t.aE=2
 ·have cO:(t.aE == 2)=true:=by simp [ar]
  obtain ⟨eT,iq⟩:=Cj (Or.inl ar);have fo:av (hY t=t.ai.take t.at_.toNat):=⟨by unfold hY;rw [if_pos ar]⟩;have ak:(t.ai.take t.at_.toNat).length=t.at_.toNat:=by rw [List.length_take];omega
  have hcut:=QO (P:=Tryz.prog) 36 52 .i64 Tryz.underlying36 lh gd t.ai.length d10 t.at_ eT iq ko;have VR:t.at_.toNat<=t.ai.length:=by omega
  have dq:=am ak;have bz:(0<=t.at_)=True:=eq_true eT;have b7:(t.at_<=(t.ai.length:Int))=True:=eq_true iq;clear ar lh ak eT iq ko Cj
  go_wp2_with (first
  |((first|with_reducible refine gB ?_ | with_reducible refine gA ?_);refine cx rfl M.1 ?_;clear M C;intro g W M C;simp only [ah] at C))
  go_ret;exact ⟨gd,d10,by rw [fo.1,dq.1];rfl,by rw [fo.1];exact fun V dB=>Kd.Yi (Mq dB) (by omega),M.1.below⟩
 by_cases Ck:t.aE=3\/t.aE=4
 ·have fo:av (hY t=t.ai):=⟨by unfold hY;rw [if_neg ar,if_pos Ck]⟩
  have cO:(t.aE == 2)=false:=by simpa using ar
  clear ar lh ko Cj cP;rcases Ck with aA | aA
  all_goals
   obtain ⟨b3,dh⟩:∃ b,(t.aE == 3)=b:=⟨_,rfl⟩;obtain ⟨b4,fu⟩:∃ b,(t.aE == 4)=b:=⟨_,rfl⟩;rw [aA] at dh fu;cases dh;cases fu;have dh:(t.aE == 3)=_:=congrArg (· == (3:Int)) aA;have fu:(t.aE == 4)=_:=congrArg (· == (4:Int)) aA;simp only [Int.reduceBEq] at dh fu;clear aA
   go_wp2_with (first
   |((first|with_reducible refine gB ?_ | with_reducible refine gA ?_);refine cx rfl M.1 ?_;clear M C;intro g W M C;simp only [ah] at C))
   go_ret;exact ⟨gd,d10,by rw [fo.1];rfl,by rw [fo.1];exact fun V dB=>Mq dB,M.1.below⟩
 have cO:(t.aE == 2)=false:=by simpa using ar
 have dh:(t.aE == 3)=false:=by simp;omega
 have fu:(t.aE == 4)=false:=by simp;omega
 by_cases br:t.aE=5
 ·have iH:(t.aE == 5)=true:=by simp [br]
  obtain ⟨eT,iq⟩:=Cj (Or.inr br);have fo:av (hY t=t.ai.drop t.at_.toNat):=⟨by unfold hY;rw [if_neg ar,if_neg Ck,if_pos br]⟩;have ak:(t.ai.drop t.at_.toNat).length=t.ai.length - t.at_.toNat:=List.length_drop;have hcut:=Ro (P:=Tryz.prog) 36 52 .i64 Tryz.underlying36 lh 2 cP gd t.ai.length d10 t.at_ eT iq;have VR:t.at_.toNat<=t.ai.length:=by omega
  obtain ⟨A,jo⟩:∃ A,A=(if d10=t.at_.toNat then gd else gd.map (·.add (t.at_.toNat*2))):=⟨_,rfl⟩;rw [<-jo] at hcut;have fK:=am jo;clear jo;have dq:=am ak;have bz:(0<=t.at_)=True:=eq_true eT;have b7:(t.at_<=(t.ai.length:Int))=True:=eq_true iq;clear ar Ck br lh ak eT iq Cj
  go_wp2_with (first
  |((first|with_reducible refine gB ?_ | with_reducible refine gA ?_);refine cx rfl M.1 ?_;clear M C;intro g W M C;simp only [ah] at C))
  go_ret;exact ⟨A,d10 - t.at_.toNat,by rw [fo.1,dq.1];rfl,by rw [fo.1,fK.1];exact fun V dB=>Kd.QQ (Mq dB) (by omega) ko,M.1.below⟩
 have iH:(t.aE == 5)=false:=by simpa using br
 have fo:av (hY t= []):=⟨by unfold hY;rw [if_neg ar,if_neg Ck,if_neg br]⟩;clear ar Ck br lh ko Cj
 go_wp2_with (first
 |((first|with_reducible refine gB ?_ | with_reducible refine gA ?_);refine cx rfl M.1 ?_;clear M C;intro g W M C;simp only [ah] at C))
 go_ret;exact ⟨none,0,by rw [fo.1];rfl,by rw [fo.1];exact fun V _=>vo _ _,M.1.below⟩
def tm (s:Sys) (n:Nat):List (Nat × Nat):=((List.range n).map fun k=>(hY (aD s.tasks k)).map fun x=>(x.cell.toNat,k)).flatten
theorem MJ (s:Sys) (n:Nat):tm s (n+1)=tm s n ++ (hY (aD s.tasks n)).map fun x=>(x.cell.toNat,n):=by simp [tm,List.range_succ]
theorem Mr:∀ (a b:List (Nat × Nat)) (h:List Int),place (a ++ b) h=(place a h).bind (place b)
 | [],_,_=>rfl
 | q :: a,b,h=>by
  show (if cC h q.1= -1 then place (a ++ b) (h.set q.1 q.2) else none)=(if cC h q.1= -1 then place a (h.set q.1 q.2) else none).bind (place b);split
  ·exact Mr a b _
  ·rfl
theorem Sz {s:Sys}:∀ {n k:Nat},k < n->∃ b,tm s n=tm s k ++ ((hY (aD s.tasks k)).map fun x=>(x.cell.toNat,k)) ++ b
 | n+1,k,h=>by
  rcases Nat.lt_or_ge k n with J | J
  ·obtain ⟨b,I⟩:=Sz (s:=s) J
   exact ⟨b ++ _,by rw [MJ,I,List.append_assoc]⟩
  ·obtain rfl:k=n:=by omega
   exact ⟨[],by rw [MJ,List.append_nil]⟩
theorem ZU {s:Sys} {k j:Nat} {hs:List Int} (J:k < s.tasks.length) (aI:j < (hY (aD s.tasks k)).length)
  (aB:place (tm s k ++ ((hY (aD s.tasks k)).take j).map fun x=>(x.cell.toNat,k)) (List.replicate s.cells.length (-1))=some hs) (az:cC hs (putAt (hY (aD s.tasks k)) j).cell.toNat ≠ -1):vv s=false:=by
 obtain ⟨b,I⟩:=Sz (s:=s) J
 have aS:place (rp s) (List.replicate s.cells.length (-1))=none:=by
  show place (tm s s.tasks.length) _=none;obtain ⟨m,hm⟩:∃ m,m=hY (aD s.tasks k):=⟨_,rfl⟩;rw [<-hm] at aB aI az I
  have aO:m.map (fun x=>(x.cell.toNat,k))=(m.take j).map (fun x=>(x.cell.toNat,k)) ++ ((putAt m j).cell.toNat,k) :: (m.drop (j+1)).map (fun x=>(x.cell.toNat,k)):=by
   have aq:m=m.take j ++ putAt m j :: m.drop (j+1):=by
    conv=>(lhs;rw [<-List.take_append_drop j m,List.drop_eq_getElem_cons aI])
    simp [putAt,aI]
   conv=>(lhs;rw [aq])
   simp
  rw [I,aO,<-List.append_assoc,List.append_assoc (tm s k ++ _),Mr,aB];show place (_ :: _) hs=none;unfold place;rw [if_neg az]
 unfold vv;rw [aS]
theorem aar {s:Sys} {hs:List Int} (aB:place (tm s s.tasks.length) (List.replicate s.cells.length (-1))=some hs):vv s=hH s.cells.length fun i=>decide ((cellAt s.cells i).lock=cC hs i):=by
 unfold vv;rw [show place (rp s) (List.replicate s.cells.length (-1))=some hs from aB]
theorem ZV (t:Task):(hY t).length<=t.ai.length:=by
 unfold hY;repeat' split
 all_goals simp
 omega
def minus (n k:Nat):List Int:=List.replicate k (-1) ++ List.replicate (n - k) 0
theorem RZ {n k:Nat} (h:k<=n):(minus n k).length=n:=by simp [minus];omega
theorem aas {n k:Nat} (h:k < n):(minus n k).set k (-1)=minus n (k+1):=by
 apply List.ext_getElem?;intro i;unfold minus;simp only [List.getElem?_set,List.getElem?_append,List.length_append,List.length_replicate,List.getElem?_replicate];repeat' split
 all_goals first | rfl|(exfalso;omega)
theorem abX (s:Sys) (c6:List Value) (w:World) (hs:cS.K w s c6) (aS:s.tasks.length<=1048576) (hm:s.cells.length<=1048576)
  (bb:∀ i,i < s.tasks.length->k3 s.cells.length (aD s.tasks i).ai/\(aD s.tasks i).ai.length<=1048576/\0<=(aD s.tasks i).at_/\((aD s.tasks i).aE=2\/(aD s.tasks i).aE=5->(aD s.tasks i).at_<=(aD s.tasks i).ai.length)):
  Calls Tryz.prog 96 #[.agg c6.toArray] w fun e af=>e= .returned (.bool (vv s))/\Below w.heap.size w af:=by
 obtain ⟨cX,bL,dX,cu,cU,bO,rfl,-,fz,-,db,-⟩:=gX hs;have pt:=am fz;have iM:=am db;have e3:=am bb;have VS:=am hm;have M:=am (ba.nil w);have C:=M.1.aw;clear hs fz db bb;go_enter Tryz.func96,Tryz.ntmps96
 go_wp2_with (first
 |((first|with_reducible refine gB ?_ | with_reducible refine gA ?_);refine cx rfl M.1 ?_;clear M C;intro g W M C;simp only [ah] at C)
 |(refine Dq rfl rfl rfl Tryz.underlying23 od M.1 VS.1 ?_;clear M C;intro GI W M C;simp only [ah] at C))
 obtain ⟨L,fg,fh⟩:=ba.H2 M;go_loopw [4,17] (fun _ j af=>∃ k:Nat,k<=s.cells.length/\j= .int .i64 k/\av (ba w af (.b GI (nums .i64 (minus s.cells.length k)).toArray 3 :: L))) (fun _ j _=>s.cells.length - (intOf j).toNat)
 case atStart=>exact ⟨0,Nat.zero_le _,rfl,fh⟩
 case round=>
  obtain ⟨k,J,rfl,M2⟩:=hrel;have lT:=fg.1;subst lT;clear M C fh fg;have M:=M2;clear M2;have C:=M.1.aw;simp only [ah] at C;by_cases aJ:k < s.cells.length
  ·have bz:(0:Int)<=(k:Int):=by omega
   have b7:(k:Int) < (s.cells.length:Int):=by omega
   have dq:=am (show k < (minus s.cells.length k).length by rw [RZ J];exact aJ)
   go_wp2_with (first
   |((with_reducible refine da ?_);refine M0 (j:=k) rfl rfl rfl M.1 (hs:=minus s.cells.length k) .here dq.1 ?_;clear M C;intro W M C;simp only [ah] at C))
   go_roundw
   case rel=>exact ⟨k+1,by omega,by go_num,by rw [<-aas aJ];exact M⟩
   case measure=>simp [intOf];omega
  ·obtain rfl:k=s.cells.length:=by omega
   have b7:¬ (s.cells.length:Int) < (s.cells.length:Int):=by omega
   go_wp2_with fail
   clear b7 J;obtain ⟨L,fg,fh⟩:=ba.H2 M;go_loopw [5,6,8,27,33,34,35] (fun _ _ _ j _ _ _ af=>∃ (k:Nat) (hs:List Int),k<=s.tasks.length/\j= .int .i64 k/\av (hs.length=s.cells.length/\place (tm s k) (List.replicate s.cells.length (-1))=some hs)/\av (ba w af (.b GI (nums .i64 hs).toArray 3 :: L))) (fun _ _ _ j _ _ _ _=>s.tasks.length - (intOf j).toNat)
   case atStart=>exact ⟨0,_,Nat.zero_le _,rfl,⟨RZ (Nat.le_refl _),by simp [tm,place,minus]⟩,fh⟩
   case round=>
    obtain ⟨k,hs,J,rfl,kd,M2⟩:=hrel;have lT:=fg.1;subst lT;clear M C fh fg;have M:=M2;clear M2;have C:=M.1.aw;simp only [ah] at C;by_cases aJ:k < s.tasks.length
    ·have bz:(0:Int)<=(k:Int):=by omega
     have b7:(k:Int) < (s.tasks.length:Int):=by omega
     obtain ⟨b,o,cs,rfl,bQ,au,aM,-⟩:=dd iM.1 dS k aJ (by decide);obtain ⟨t,a6⟩:∃ x,x=aD s.tasks k:=⟨_,rfl⟩;rw [show s.tasks.getD k dS=t from a6.symm] at au;have jf:=am au;obtain ⟨hB,d3,iZ,d8,gY,d9,gd,d10,rfl,-⟩:=gh au;have cl:=am aM;have hO:=am a6;have ED:=am (a6 ▸ e3.1 k aJ);clear bQ au aM a6
     go_wp2_with (first
     |((first|with_reducible refine gB ?_ | with_reducible refine gA ?_);refine cx rfl M.1 ?_;clear M C;intro g W M C;simp only [ah] at C)
     |((with_reducible refine cv ?_);refine fZ rfl rfl M.1 cl.1 ?_)
     |((with_reducible refine cv ?_);refine dV rfl rfl M.1 ?_)
     |((with_reducible refine da ?_);refine dv rfl rfl rfl M.1 ?_;clear M C;intro W M C;simp only [ah] at C)
     |(go_at_call 128;refine (ab4 t _ _ (eV.bH M.1.below jf.1) ED.1.2.1 (fun h=>⟨ED.1.2.2.1,ED.1.2.2.2 h⟩)).mono ?_;rintro e W ⟨acC,acD,rfl,jw,I⟩;have zQ:=am (jw w jf.1);clear jw;replace M:=am (M.1.step I);clear C;have C:=M.1.aw;simp only [ah] at C;clear I))
     clear bz b7;obtain ⟨E,L,Ng,fg,fh⟩:=ba.Yq M;go_loopw [8,35] (fun _ i af=>∃ (j:Nat) (fB:List Int),j<=(hY t).length/\i= .int .i64 j/\av (fB.length=s.cells.length/\place (tm s k ++ ((hY t).take j).map fun x=>(x.cell.toNat,k)) (List.replicate s.cells.length (-1))=some fB)/\av (ba w af (E :: .b GI (nums .i64 fB).toArray 3 :: L))) (fun _ i _=>(hY t).length - (intOf i).toNat)
     case atStart=>exact ⟨0,hs,Nat.zero_le _,rfl,⟨kd.1.1,by rw [List.take_zero,List.map_nil,List.append_nil];exact kd.1.2⟩,fh⟩
     case round=>
      obtain ⟨j,fB,aI,rfl,Au,M2⟩:=hrel;have TJ:=Ng.1;subst TJ;clear Ng;have lT:=fg.1;subst lT;clear M C fh fg;have M:=M2;clear M2;have C:=M.1.aw;simp only [ah] at C;have adn:(hY t).length<=1048576:=Nat.le_trans (ZV t) ED.1.2.1;by_cases Cl:j < (hY t).length
      ·have bU:(0:Int)<=(j:Int):=by omega
       have s1:(j:Int) < ((hY t).length:Int):=by omega
       obtain ⟨b2,zo,nW,rfl,kt,hX,en,-⟩:=dd zQ.1 gU j Cl (by decide);obtain ⟨x,az⟩:∃ x,x=putAt (hY t) j:=⟨_,rfl⟩;rw [show (hY t).getD j gU=x from az.symm] at hX;have eg:=mZ hX;subst eg;have Km:=am en;have iQ:0<=x.cell/\x.cell < s.cells.length:=(CZ ED.1.1).2 x (by rw [az];unfold putAt;rw [List.getD_eq_getElem?_getD,List.getElem?_eq_getElem Cl];exact List.getElem_mem Cl);obtain ⟨c,ay⟩:=Int.eq_ofNat_of_zero_le iQ.1;have bQ:c < fB.length:=by rw [Au.1.1];omega
       have Xr:(nums .i64 fB)[c]? = some (.int .i64 (cC fB c)):=by rw [<-List.getElem?_toArray];exact RC bQ
       have ew:=am az;have cJ:=am ay;have Av:=am bQ;have O2:x.cell.toNat=c:=by omega
       have Hu:=am O2;rw [ay] at Km;have dZ:(0:Int)<=(c:Int):=by omega
       have jL:(c:Int) < (s.cells.length:Int):=by have:=Au.1.1;omega
       clear kt hX en az ay iQ bQ O2;by_cases bp:cC fB c= -1
       ·have cg:(cC fB c != -1)=false:=by simp [bp]
        have h3:=am bp;clear bp
        go_wp2_with (first
        |((first|with_reducible refine gB ?_ | with_reducible refine gA ?_);refine cx rfl M.1 ?_;clear M C;intro g W M C;simp only [ah] at C)
        |((with_reducible refine cv ?_);refine fZ rfl rfl M.1 Km.1 ?_)
        |((with_reducible refine da ?_);refine dv rfl rfl rfl M.1 ?_;clear M C;intro W M C;simp only [ah] at C)
        |((with_reducible refine da ?_);refine M0 (j:=c) rfl rfl rfl M.1 (.there (.there .here)) Av.1 ?_;clear M C;intro W M C;simp only [ah] at C))
        go_roundw
        case rel=>exact ⟨j+1,fB.set c k,by omega,by go_num,⟨by rw [List.length_set];exact Au.1.1,by
         rw [List.take_succ_eq_append_getElem Cl,List.map_append,<-List.append_assoc,Mr,Au.1.2,show (hY t)[j]=x by rw [ew.1];simp [putAt,Cl]];show (if cC fB x.cell.toNat= -1 then place [] (fB.set x.cell.toNat (k:Int)) else none)=_;rw [Hu.1,if_pos h3.1];rfl⟩,⟨M.1.pop⟩⟩
        case measure=>simp [intOf];omega
       ·have cg:(cC fB c != -1)=true:=by simp [bp]
        have h3:=am bp;clear bp
        go_wp2_with (first
        |((first|with_reducible refine gB ?_ | with_reducible refine gA ?_);refine cx rfl M.1 ?_;clear M C;intro g W M C;simp only [ah] at C)
        |((with_reducible refine cv ?_);refine fZ rfl rfl M.1 Km.1 ?_)
        |((with_reducible refine da ?_);refine dv rfl rfl rfl M.1 ?_;clear M C;intro W M C;simp only [ah] at C))
        go_ret;rw [ZU aJ (by rw [<-hO.1];exact Cl) (by rw [<-hO.1];exact Au.1.2) (by rw [<-hO.1,<-ew.1,Hu.1];exact h3.1)];exact ⟨rfl,M.1.below⟩
      ·obtain rfl:j=(hY t).length:=by omega
       have s1:¬ ((hY t).length:Int) < ((hY t).length:Int):=by omega
       go_wp2;go_roundw
       case rel=>exact ⟨k+1,fB,by omega,by go_num,⟨Au.1.1,by rw [MJ,<-hO.1];have:=Au.1.2;rwa [List.take_length] at this⟩,⟨M.1.pop⟩⟩
       case measure=>simp [intOf];omega
    ·obtain rfl:k=s.tasks.length:=by omega
     have b7:¬ (s.tasks.length:Int) < (s.tasks.length:Int):=by omega
     have fJ:=am (aar kd.1.2);go_wp2_with fail
     clear b7;obtain ⟨L,fg,fh⟩:=ba.H2 M;go_loopw [9,10,55] (fun _ _ j af=>∃ k:Nat,k<=s.cells.length/\j= .int .i64 k/\av (∀ i,i < k->(cellAt s.cells i).lock=cC hs i)/\av (ba w af (.b GI (nums .i64 hs).toArray 3 :: L))) (fun _ _ j _=>s.cells.length - (intOf j).toNat)
     case atStart=>exact ⟨0,Nat.zero_le _,rfl,⟨fun i aa=>by omega⟩,fh⟩
     case round=>
      obtain ⟨k,J,rfl,du,M2⟩:=hrel;have lT:=fg.1;subst lT;clear M C fh fg;have M:=M2;clear M2;have C:=M.1.aw;simp only [ah] at C;by_cases aJ:k < s.cells.length
      ·have bz:(0:Int)<=(k:Int):=by omega
       have b7:(k:Int) < (s.cells.length:Int):=by omega
       obtain ⟨b,o,cs,rfl,bQ,au,aM,-⟩:=dd pt.1 lq k aJ (by decide);obtain ⟨ey,oz⟩:∃ x,x=cellAt s.cells k:=⟨_,rfl⟩;rw [show s.cells.getD k lq=ey from oz.symm] at au;have eg:=x1 au;subst eg;have cl:=am aM;have Cm:=am oz;have Xr:(nums .i64 hs)[k]? = some (.int .i64 (cC hs k)):=by rw [<-List.getElem?_toArray];exact RC (by rw [kd.1.1];exact aJ)
       have iJ:=am kd.1.1;clear bQ au aM oz;by_cases bp:ey.lock=cC hs k
       ·have cg:(ey.lock != cC hs k)=false:=by simp [bp]
        have h3:=am bp;clear bp
        go_wp2_with (first
        |((first|with_reducible refine gB ?_ | with_reducible refine gA ?_);refine cx rfl M.1 ?_;clear M C;intro g W M C;simp only [ah] at C)
        |((with_reducible refine cv ?_);refine fZ rfl rfl M.1 cl.1 ?_)
        |((with_reducible refine da ?_);refine dv rfl rfl rfl M.1 ?_;clear M C;intro W M C;simp only [ah] at C))
        refine gL M.1 ?_;clear M C;intro W M;refine dx [0,1,2,3,4,5,6] M.1 ?_;iterate 7 (first|refine cc rfl ?_ | refine ch rfl ?_ | refine cj rfl ?_)
        refine bN ?_;refine f' ?_;have C:=M.1.aw;simp only [ah] at C;go_wp2;go_roundw
        case rel=>exact ⟨k+1,by omega,by go_num,⟨fun i aa=>by rcases Nat.lt_or_ge i k with h | h;exact du.1 i h;obtain rfl:i=k:=(by omega);rw [<-Cm.1];exact h3.1⟩,⟨M.1.pop⟩⟩
        case measure=>simp [intOf];omega
       ·have cg:(ey.lock != cC hs k)=true:=by simp [bp]
        have h3:=am bp;clear bp
        go_wp2_with (first
        |((first|with_reducible refine gB ?_ | with_reducible refine gA ?_);refine cx rfl M.1 ?_;clear M C;intro g W M C;simp only [ah] at C)
        |((with_reducible refine cv ?_);refine fZ rfl rfl M.1 cl.1 ?_)
        |((with_reducible refine da ?_);refine dv rfl rfl rfl M.1 ?_;clear M C;intro W M C;simp only [ah] at C))
        refine gL M.1 ?_;clear M C;intro W M;refine dx [0,1,2,3,4,5,6] M.1 ?_;iterate 7 (first|refine cc rfl ?_ | refine ch rfl ?_ | refine cj rfl ?_)
        refine bN ?_;refine f' ?_;have C:=M.1.aw;simp only [ah] at C;go_wp2;go_ret;rw [fJ.1,show (hH s.cells.length fun i=>decide ((cellAt s.cells i).lock=cC hs i))=false from hK aJ (decide_eq_false (by rw [<-Cm.1];exact h3.1))];exact ⟨rfl,M.1.below⟩
      ·obtain rfl:k=s.cells.length:=by omega
       have b7:¬ (s.cells.length:Int) < (s.cells.length:Int):=by omega
       go_wp2;go_ret;rw [fJ.1,show (hH s.cells.length fun i=>decide ((cellAt s.cells i).lock=cC hs i))=true from hv.2 (fun i aa=>decide_eq_true (du.1 i aa))];exact ⟨rfl,M.1.below⟩
def logAt (p:Prog) (s:Sys) (i:Nat):Bool:=
 let e:=eh s.log i
 rr e.task s.tasks.length && rr e.act (bo p.an (aD s.tasks e.task.toNat).body.toNat).length && !decide (e.bw < 0) && !decide (s.clock < e.bw) && !decide (e.from_ < 0) && !decide ((i:Int) < e.from_) && hJ e.reads s.cells.length && hJ e.ai s.cells.length
def A3 (p:Prog) (s:Sys):Bool:=hH s.log.length (logAt p s)
theorem y6 {q:Prop} (h:q:=by
  go_wp2_with (go_at_call 127;refine hd M.1 (IF _ _ _ _ _ (by first|exact Kd.bW lz.1 M.1.below | exact Kd.bW Dt.1 M.1.below) (by first|exact fY.1.1 | exact fY.1.2)) (by first|exact BU.1 | exact Nh.1) ?_;clear M C;intro W M C;simp only [ah] at C)
  go_ret;rw [show A3 p s=false from hK aJ (by rw [bX.1];try rfl)];exact ⟨rfl,M.1.below⟩):q:=h
theorem abj (p:Prog) (bK:List Value) (s:Sys) (c6:List Value) (w:World) (aB:cN.K w p bK) (hs:cS.K w s c6) (ak:s.log.length<=1048576)
  (bb:∀ i,i < s.tasks.length->0<=(aD s.tasks i).body/\(aD s.tasks i).body < p.an.length) (aX:∀ i,i < s.log.length->(eh s.log i).reads.length<=1048576/\(eh s.log i).ai.length<=1048576):
  Calls Tryz.prog 97 #[.agg bK.toArray,.agg c6.toArray] w fun e af=>e= .returned (.bool (A3 p s))/\Below w.heap.size w af:=by
 obtain ⟨ek,ey,g0,er,rfl,-,-,-,gb⟩:=jk aB;obtain ⟨cX,bL,dX,cu,cU,bO,rfl,-,-,-,db,-,dj⟩:=gX hs;have nk:=am gb;have iM:=am db;have tx:=am dj;have e3:=am bb;have VT:=am aX;have M:=am (ba.nil w);have C:=M.1.aw;clear aB hs gb db dj bb aX;go_enter Tryz.func97,Tryz.ntmps97
 go_wp2_with (first
 |((first|with_reducible refine gB ?_ | with_reducible refine gA ?_);refine cx rfl M.1 ?_;clear M C;intro g W M C;simp only [ah] at C))
 obtain ⟨L,fg,fh⟩:=ba.named M;go_loopw [5,6,10] (fun _ _ j af=>∃ k:Nat,k<=s.log.length/\j= .int .i64 k/\av (∀ i,i < k->logAt p s i=true)/\av (ba w af L)) (fun _ _ j _=>s.log.length - (intOf j).toNat)
 case atStart=>exact ⟨0,Nat.zero_le _,rfl,⟨fun i aa=>by omega⟩,fh⟩
 case round=>
  obtain ⟨k,J,rfl,du,M2⟩:=hrel;have lT:=fg.1;subst lT;clear M C fh fg;have M:=M2;clear M2;have C:=M.1.aw;simp only [ah] at C;by_cases aJ:k < s.log.length
  ·have bz:(0:Int)<=(k:Int):=by omega
   have b7:(k:Int) < (s.log.length:Int):=by omega
   obtain ⟨b,o,cs,rfl,bQ,au,aM,-⟩:=dd tx.1 sl k aJ (by decide);obtain ⟨e,he⟩:∃ x,x=eh s.log k:=⟨_,rfl⟩;rw [show s.log.getD k sl=e from he.symm] at au;obtain ⟨p3,f3,zF,f4,rfl,-,gr,-,de⟩:=Bz au;have cl:=am aM;have lz:=am gr;have Dt:=am de;have fY:=am (he ▸ VT.1 k aJ);obtain ⟨ej,cg⟩:∃ b,rr e.task s.tasks.length=b:=⟨_,rfl⟩;obtain ⟨b2,cO⟩:∃ b,rr e.act (bo p.an (aD s.tasks e.task.toNat).body.toNat).length=b:=⟨_,rfl⟩;obtain ⟨b3,dh⟩:∃ b,decide (e.bw < 0)=b:=⟨_,rfl⟩;obtain ⟨b4,fu⟩:∃ b,decide (s.clock < e.bw)=b:=⟨_,rfl⟩;obtain ⟨b5,iH⟩:∃ b,decide (e.from_ < 0)=b:=⟨_,rfl⟩;obtain ⟨sJ,p5⟩:∃ b,decide ((k:Int) < e.from_)=b:=⟨_,rfl⟩;obtain ⟨oU,sM⟩:∃ b,hJ e.reads s.cells.length=b:=⟨_,rfl⟩;obtain ⟨yi,oJ⟩:∃ b,hJ e.ai s.cells.length=b:=⟨_,rfl⟩;have bX:av (logAt p s k=(ej && b2 && !b3 && !b4 && !b5 && !sJ && oU && yi)):=⟨by rw [<-cg,<-cO,<-dh,<-fu,<-iH,<-p5,<-sM,<-oJ,he];rfl⟩;have gM:=am cg;have jA:=am cO;have BU:=am sM;have Nh:=am oJ;clear bQ au aM gr de he cg cO sM oJ
   go_wp2_with (first
   |((first|with_reducible refine gB ?_ | with_reducible refine gA ?_);refine cx rfl M.1 ?_;clear M C;intro g W M C;simp only [ah] at C)
   |((with_reducible refine cv ?_);refine fZ rfl rfl M.1 cl.1 ?_)
   |((with_reducible refine da ?_);refine dv rfl rfl rfl M.1 ?_;clear M C;intro W M C;simp only [ah] at C))
   cases ej
   case false=>
    clear jA;refine gL M.1 ?_;clear M C;intro W M;refine dx [0,1,2,3,4] M.1 ?_;iterate 5 (first|refine cc rfl ?_ | refine ch rfl ?_ | refine cj rfl ?_)
    refine bN ?_;refine jn 5 rfl ?_;refine hQ (lP _ _ _) gM.1 ?_;refine ⟨_,rfl,M,hb ?_⟩;refine dx [6,7,8,9,10,11,12,13,14,15,16,17,18,19,20,21] M.1 ?_;iterate 16 (first|refine cc rfl ?_ | refine ch rfl ?_ | refine cj rfl ?_)
    refine bN ?_;refine sF 22 rfl rfl M.1 (hb ?_);refine dx [23,24] M.1 ?_;iterate 2 (first|refine cc rfl ?_ | refine ch rfl ?_ | refine cj rfl ?_)
    refine bN ?_;refine f' ?_;have C:=M.1.aw;simp only [ah] at C;exact y6
   have I:=(Bool.and_eq_true_iff).1 (show (decide (0<=e.task) && decide (e.task < (s.tasks.length:Int)))=true from gM.1);have dE:0<=e.task:=of_decide_eq_true I.1;have bZ:e.task < s.tasks.length:=of_decide_eq_true I.2;obtain ⟨n,aS⟩:=Int.eq_ofNat_of_zero_le dE;have Ek:n < s.tasks.length:=by omega
   have v4:e.task.toNat=n:=by omega
   obtain ⟨eW,oh,sT,rfl,bQ,au,aM,-⟩:=dd iM.1 dS n Ek (by decide);obtain ⟨hB,d3,iZ,d8,gY,d9,gd,d10,rfl,-⟩:=gh au;have eT:=aM 0 _ rfl;rw [show s.tasks.getD n dS=aD s.tasks n from rfl] at eT;simp only [show eV.bD=13 from rfl,Nat.add_zero] at eT;clear bQ au aM I;obtain ⟨Qe,Xs⟩:=e3.1 n Ek;obtain ⟨bl,pL⟩:=Int.eq_ofNat_of_zero_le Qe;have eu:bl < p.an.length:=by omega
   obtain ⟨gp,cV,nW,rfl,kt,hX,en,-⟩:=dd nk.1 ([]:List Act) bl eu (by decide);obtain ⟨k5,kf,rfl,kL,-⟩:=hX;have c3:=en 0 _ rfl;simp only [show (Kd.slice 55 kAct).bD=1 from rfl,Nat.mul_one,Nat.add_zero] at c3;rw [pL] at eT;have eg:(bo p.an (aD s.tasks e.task.toNat).body.toNat).length=(p.an.getD bl []).length:=by rw [v4,pL,Int.toNat_natCast];rfl
   rw [eg] at jA;rw [aS] at gM;replace M:=am ((M.1.cB c3).cB eT);have kK:(0:Int)<=(n:Int):=by omega
   have hq:(n:Int) < (s.tasks.length:Int):=by omega
   have ep:(0:Int)<=(bl:Int):=by omega
   have aU:(bl:Int) < (p.an.length:Int):=by omega
   clear C kt en c3 eT kL pL eu eg Qe Xs;have C:=M.1.aw;simp only [ah] at C;refine gL M.1 ?_;clear M C;intro W M;refine dx [0,1,2,3,4] M.1 ?_;iterate 5 (first|refine cc rfl ?_ | refine ch rfl ?_ | refine cj rfl ?_)
   refine bN ?_;refine jn 5 rfl ?_;refine hQ (lP _ _ _) gM.1 ?_;refine ⟨_,rfl,M,hb ?_⟩;refine dx [6,7,8,9,10,11,12,13,14,15,16,17,18,19,20,21] M.1 ?_;iterate 16 (first|refine cc rfl ?_ | refine ch rfl ?_ | refine cj rfl ?_)
   refine bN ?_;cases b2
   case false=>
    refine jn 22 rfl ?_;refine hQ (lP _ _ _) jA.1 ?_;refine ⟨_,rfl,M,hb ?_⟩;refine dx [23,24] M.1 ?_;iterate 2 (first|refine cc rfl ?_ | refine ch rfl ?_ | refine cj rfl ?_)
    refine bN ?_;refine f' ?_;have C:=M.1.aw;simp only [ah] at C;exact y6
   refine jn 22 rfl ?_;refine hQ (lP _ _ _) jA.1 ?_;refine ⟨_,rfl,M,hb ?_⟩;refine dx [23,24] M.1 ?_;iterate 2 (first|refine cc rfl ?_ | refine ch rfl ?_ | refine cj rfl ?_)
   refine bN ?_;refine f' ?_;have C:=M.1.aw;simp only [ah] at C;cases b3
   case true=>exact y6
   cases b4
   case true=>exact y6
   cases b5
   case true=>exact y6
   cases sJ
   case true=>exact y6
   cases oU
   case false=>exact y6
   cases yi
   case false=>exact y6
   go_wp2_with (first
   |(go_at_call 127;refine hd M.1 (IF _ _ _ _ _ (by first|exact Kd.bW lz.1 M.1.below | exact Kd.bW Dt.1 M.1.below) (by first|exact fY.1.1 | exact fY.1.2)) (by first|exact BU.1 | exact Nh.1) ?_;clear M C;intro W M C;simp only [ah] at C))
   go_roundw
   case rel=>exact ⟨k+1,by omega,by go_num,⟨fun i aa=>by rcases Nat.lt_or_ge i k with h | h;exact du.1 i h;obtain rfl:i=k:=(by omega);rw [bX.1];rfl⟩,⟨M.1.pop.pop.pop⟩⟩
   case measure=>simp [intOf];omega
  ·obtain rfl:k=s.log.length:=by omega
   have b7:¬ (s.log.length:Int) < (s.log.length:Int):=by omega
   go_wp2;go_ret;rw [show A3 p s=true from hv.2 du.1];exact ⟨rfl,M.1.below⟩
def kb (d:Deed):Value:=
 if d.kind=1 then .iface 178 (.agg #[.int .i64 d.a,.int .i64 d.b])
 else if d.kind=2 then .iface 180 (.agg #[.int .i64 d.a,.int .i64 d.b])
 else if d.kind=3 then .iface 182 (.agg #[.int .i64 d.a,.int .i64 d.b])
 else if d.kind=4 then .iface 184 (.agg #[.int .i64 d.a,.int .i64 d.b])
 else if d.kind=5 then (if d.b=0 then .iface 185 (.agg #[.int .i64 d.a]) else .nilIface)
 else .nilIface
theorem Bf {q:Prop} (h:q:=by
  go_wp2_with ((first|with_reducible refine gB ?_ | with_reducible refine gA ?_);refine cx rfl M.1 ?_;clear M C;intro g W M C;simp only [ah] at C)
  go_ret;rw [bX.1];exact ⟨rfl,M.1.below⟩):q:=h
theorem acg (d:Deed) (ds:List Value) (w:World) (aO:kDeed.K w d ds):
  Calls Tryz.prog 154 #[.agg ds.toArray] w fun e af=>e= .returned (kb d)/\Below w.heap.size w af:=by
 obtain rfl:=C5 aO;have M:=am (ba.nil w);have C:=M.1.aw;clear aO;go_enter Tryz.func154,Tryz.ntmps154;by_cases h1:d.kind=1
 ·have cg:(d.kind == 1)=true:=by simp [h1]
  have bX:av (kb d=_):=⟨by unfold kb;rw [if_pos h1]⟩;exact Bf
 have cg:(d.kind == 1)=false:=by simpa using h1
 by_cases ar:d.kind=2
 ·have cO:(d.kind == 2)=true:=by simp [ar]
  have bX:av (kb d=_):=⟨by unfold kb;rw [if_neg h1,if_pos ar]⟩;exact Bf
 have cO:(d.kind == 2)=false:=by simpa using ar
 by_cases aA:d.kind=3
 ·have dh:(d.kind == 3)=true:=by simp [aA]
  have bX:av (kb d=_):=⟨by unfold kb;rw [if_neg h1,if_neg ar,if_pos aA]⟩;exact Bf
 have dh:(d.kind == 3)=false:=by simpa using aA
 by_cases bR:d.kind=4
 ·have fu:(d.kind == 4)=true:=by simp [bR]
  have bX:av (kb d=_):=⟨by unfold kb;rw [if_neg h1,if_neg ar,if_neg aA,if_pos bR]⟩;exact Bf
 have fu:(d.kind == 4)=false:=by simpa using bR
 by_cases br:d.kind=5
 ·have iH:(d.kind == 5)=true:=by simp [br]
  by_cases I:d.b=0
  ·have GJ:(d.b == 0)=true:=by simp [I]
   have bX:av (kb d=_):=⟨by unfold kb;rw [if_neg h1,if_neg ar,if_neg aA,if_neg bR,if_pos br,if_pos I]⟩;exact Bf
  ·have GJ:(d.b == 0)=false:=by simpa using I
   have bX:av (kb d=_):=⟨by unfold kb;rw [if_neg h1,if_neg ar,if_neg aA,if_neg bR,if_pos br,if_neg I]⟩;exact Bf
 have iH:(d.kind == 5)=false:=by simpa using br
 have bX:av (kb d=_):=⟨by unfold kb;rw [if_neg h1,if_neg ar,if_neg aA,if_neg bR,if_neg br]⟩;exact Bf
theorem xP {P:Program} (T tJ:TypeId) (z:Value) (dt:(match P.underlying T with | some (.interface _)=>false | some _=>true | none=>false)=true) (aX:((P.info? T).bind (·.zero))=some z):
  (∀ (t:TypeId) (v:Value) (W:World),(Instr.typeAssert (.iface t v) tJ T true).run P W= .ok (if t=T then .tuple #[v,.bool true] else .tuple #[z,.bool false]) W)/\∀ W:World,(Instr.typeAssert .nilIface tJ T true).run P W= .ok (.tuple #[z,.bool false]) W:=by
 obtain ⟨j,aI,O3⟩:=Option.bind_eq_some_iff.1 aX
 cases hu:P.underlying T with
 | none=>rw [hu] at dt;cases dt
 | some d=>
  rw [hu] at dt;constructor
  ·intro t v W
   unfold Instr.typeAssert;simp only [Sem.run_bind,run_underlying hu,Result.andThen_ok];by_cases h:t=T
   ·cases d <;> first|(cases dt;done)|(dsimp only;simp [h,Result.andThen_ok])
   ·cases d <;> first|(cases dt;done)|(dsimp only;simp [h,zeroValue,typeInfo,aI,O3,Result.andThen_ok])
  ·intro W
   unfold Instr.typeAssert;simp only [Sem.run_bind,run_underlying hu,Result.andThen_ok];cases d <;> first|(cases dt;done)|(dsimp only;simp [zeroValue,typeInfo,aI,O3,Result.andThen_ok])
theorem Bq (x:Int):(decide (0<=x) && decide (x < 3))=bF x 0 2:=by rw [Bool.eq_iff_iff,e0];simp;omega
theorem R0 (x n:Int):(decide (0<=x) && decide (x < n))=bF x 0 (n - 1):=by rw [Bool.eq_iff_iff,e0];simp;omega
theorem y7 {q:Prop} (h:q:=by
  go_wp2_with (first
  |((first|with_reducible refine gB ?_ | with_reducible refine gA ?_);refine cx rfl M.1 ?_;clear M C;intro g W M C;simp only [ah] at C)
  |((with_reducible refine da ?_);refine dv rfl rfl rfl M.1 ?_;clear M C;intro W M C;simp only [ah] at C)
  |(go_at_call 144;refine hQ (ME _ _) (by first|exact gM.1 | exact jA.1) ?_)
  |(go_at_call 125;refine hQ (vz _ _) jA.1 ?_)
  |(go_at_call 101;refine hQ (lP _ _ _) (by first|exact gM.1 | exact jA.1) ?_))
  go_ret;rw [bX.1];exact ⟨rfl,M.1.below⟩):q:=h
theorem abI (d:Deed) (n:Int) (w:World):
  Calls Tryz.prog 153 #[kb d,.int .i64 n] w fun e af=>e= .returned (.bool (ff d n))/\Below w.heap.size w af:=by
 have M:=am (ba.nil w);have C:=M.1.aw;have aeo:=xP (P:=Tryz.prog) 178 149 (.agg #[.int .i64 0,.int .i64 0]) (by kernel_rfl) (by kernel_rfl);have aeq:=xP (P:=Tryz.prog) 180 149 (.agg #[.int .i64 0,.int .i64 0]) (by kernel_rfl) (by kernel_rfl);have aej:=xP (P:=Tryz.prog) 182 149 (.agg #[.int .i64 0,.int .i64 0]) (by kernel_rfl) (by kernel_rfl);have aek:=xP (P:=Tryz.prog) 184 149 (.agg #[.int .i64 0,.int .i64 0]) (by kernel_rfl) (by kernel_rfl);have aep:=xP (P:=Tryz.prog) 185 149 (.agg #[.int .i64 0]) (by kernel_rfl) (by kernel_rfl);by_cases h1:d.kind=1
 ·have cg:(d.kind == 1)=true:=by simp [h1]
  obtain ⟨ej,cg⟩:∃ b,(decide (0<=d.a) && decide (d.a < 3))=b:=⟨_,rfl⟩;obtain ⟨b2,cO⟩:∃ b,(decide (0<=d.b) && decide (d.b < n))=b:=⟨_,rfl⟩;have bX:av (ff d n=(ej && b2)):=⟨by unfold ff;rw [if_pos h1,<-cg,<-cO,Bq d.a,R0 d.b n]⟩;rw [show kb d=_ from by unfold kb;rw [if_pos h1]];have gM:=am cg;have jA:=am cO;clear cg cO;go_enter Tryz.func153,Tryz.ntmps153;cases ej;exact y7;exact y7
 have cg:(d.kind == 1)=false:=by simpa using h1
 by_cases ar:d.kind=2
 ·have cO:(d.kind == 2)=true:=by simp [ar]
  obtain ⟨ej,cg⟩:∃ b,(decide (0<=d.a) && decide (d.a < n))=b:=⟨_,rfl⟩;obtain ⟨b2,cO⟩:∃ b,(decide (0<=d.b) && decide (d.b < 3))=b:=⟨_,rfl⟩;have bX:av (ff d n=(ej && b2)):=⟨by unfold ff;rw [if_neg h1,if_pos ar,<-cg,<-cO,R0 d.a n,Bq d.b]⟩;rw [show kb d=_ from by unfold kb;rw [if_neg h1,if_pos ar]];have gM:=am cg;have jA:=am cO;clear cg cO;go_enter Tryz.func153,Tryz.ntmps153;cases ej;exact y7;exact y7
 have cO:(d.kind == 2)=false:=by simpa using ar
 by_cases aA:d.kind=3
 ·have dh:(d.kind == 3)=true:=by simp [aA]
  obtain ⟨ej,cg⟩:∃ b,(decide (0<=d.a) && decide (d.a < 3))=b:=⟨_,rfl⟩;obtain ⟨b2,cO⟩:∃ b,(decide (0<=d.b) && decide (d.b < 100))=b:=⟨_,rfl⟩;have bX:av (ff d n=(ej && b2)):=⟨by unfold ff;rw [if_neg h1,if_neg ar,if_pos aA,<-cg,<-cO,Bq d.a,CN d.b]⟩;rw [show kb d=_ from by unfold kb;rw [if_neg h1,if_neg ar,if_pos aA]];have gM:=am cg;have jA:=am cO;clear cg cO;go_enter Tryz.func153,Tryz.ntmps153;cases ej;exact y7;exact y7
 have dh:(d.kind == 3)=false:=by simpa using aA
 by_cases bR:d.kind=4
 ·have fu:(d.kind == 4)=true:=by simp [bR]
  obtain ⟨ej,cg⟩:∃ b,(decide (0<=d.a) && decide (d.a < 3))=b:=⟨_,rfl⟩;obtain ⟨b2,cO⟩:∃ b,(decide (0<=d.b) && decide (d.b < 3))=b:=⟨_,rfl⟩;have bX:av (ff d n=(ej && b2)):=⟨by unfold ff;rw [if_neg h1,if_neg ar,if_neg aA,if_pos bR,<-cg,<-cO,Bq d.a,Bq d.b]⟩;rw [show kb d=_ from by unfold kb;rw [if_neg h1,if_neg ar,if_neg aA,if_pos bR]];have gM:=am cg;have jA:=am cO;clear cg cO;go_enter Tryz.func153,Tryz.ntmps153;cases ej;exact y7;exact y7
 have fu:(d.kind == 4)=false:=by simpa using bR
 by_cases br:d.kind=5
 ·have iH:(d.kind == 5)=true:=by simp [br]
  by_cases I:d.b=0
  ·rw [show kb d=_ from by unfold kb;rw [if_neg h1,if_neg ar,if_neg aA,if_neg bR,if_pos br,if_pos I]]
   have bX:av (ff d n=(decide (0<=d.a) && decide (d.a < 3))):=⟨by unfold ff;rw [if_neg h1,if_neg ar,if_neg aA,if_neg bR,if_pos br,decide_eq_true I,Bool.and_true,Bq]⟩;have gM:av (True):=⟨trivial⟩;go_enter Tryz.func153,Tryz.ntmps153
   go_wp2_with (first
   |((first|with_reducible refine gB ?_ | with_reducible refine gA ?_);refine cx rfl M.1 ?_;clear M C;intro g W M C;simp only [ah] at C)
   |((with_reducible refine da ?_);refine dv rfl rfl rfl M.1 ?_;clear M C;intro W M C;simp only [ah] at C)
   |(go_at_call 144;refine hQ (ME _ _) rfl ?_))
   go_ret;rw [bX.1];exact ⟨rfl,M.1.below⟩
  ·rw [show kb d=_ from by unfold kb;rw [if_neg h1,if_neg ar,if_neg aA,if_neg bR,if_pos br,if_neg I]]
   have bX:av (ff d n=false):=⟨by unfold ff;rw [if_neg h1,if_neg ar,if_neg aA,if_neg bR,if_pos br,decide_eq_false I,Bool.and_false]⟩;go_enter Tryz.func153,Tryz.ntmps153;exact FY
 have iH:(d.kind == 5)=false:=by simpa using br
 rw [show kb d=_ from by unfold kb;rw [if_neg h1,if_neg ar,if_neg aA,if_neg bR,if_neg br]];have bX:av (ff d n=false):=⟨by unfold ff;rw [if_neg h1,if_neg ar,if_neg aA,if_neg bR,if_neg br]⟩;go_enter Tryz.func153,Tryz.ntmps153;exact FY
def Ib (ds:List Deed) (n:Int):Bool:= !decide (n < 0) && !decide (3 < n) && !decide ((5:Int) < ds.length) && za ds n
theorem LG {q:Prop} (h:q:=by
  go_wp2;go_ret;rw [bX.1];exact ⟨rfl,M.1.below⟩):q:=h
theorem ab5 (A:Option Addr) (c:Nat) (ds:List Deed) (n:Int) (w:World) (aO:kDeed.C w A ds.length ds) (aX:ds.length<=1048576):
  Calls Tryz.prog 143 #[.slice A ds.length c,.int .i64 n] w fun e af=>e= .returned (.bool (Ib ds n))/\Below w.heap.size w af:=by
 have ag:=am aO;obtain ⟨ej,cg⟩:∃ b,decide (n < 0)=b:=⟨_,rfl⟩;obtain ⟨b2,cO⟩:∃ b,decide (3 < n)=b:=⟨_,rfl⟩;obtain ⟨b3,dh⟩:∃ b,decide ((5:Int) < (ds.length:Int))=b:=⟨_,rfl⟩;have bX:av (Ib ds n=(!ej && !b2 && !b3 && za ds n)):=⟨by rw [<-cg,<-cO,<-dh];rfl⟩;have M:=am (ba.nil w);have C:=M.1.aw;clear aO;go_enter Tryz.func143,Tryz.ntmps143;cases ej
 case true=>exact LG
 cases b2
 case true=>exact LG
 cases b3
 case true=>exact LG
 go_wp2_with fail
 go_loopw [6,20] (fun _ j af=>∃ k:Nat,k<=ds.length/\j= .int .i64 k/\av (∀ i,i < k->ff (mX ds i) n=true)/\av (ba w af [])) (fun _ j _=>ds.length - (intOf j).toNat)
 case atStart=>exact ⟨0,Nat.zero_le _,rfl,⟨fun i aa=>by omega⟩,M⟩
 case round=>
  obtain ⟨k,J,rfl,du,M2⟩:=hrel;clear M C;have M:=M2;clear M2;have C:=M.1.aw;simp only [ah] at C;by_cases aJ:k < ds.length
  ·have bz:(0:Int)<=(k:Int):=by omega
   have b7:(k:Int) < (ds.length:Int):=by omega
   obtain ⟨b,o,cs,rfl,bQ,au,aM,-⟩:=dd ag.1 vn k aJ (by decide);obtain ⟨d,Kn⟩:∃ x,x=mX ds k:=⟨_,rfl⟩;rw [show ds.getD k vn=d from Kn.symm] at au;have g4:=am au;obtain rfl:=C5 au;have cl:=am aM;have O4:=am Kn;obtain ⟨BO,DI⟩:∃ b,ff d n=b:=⟨_,rfl⟩;have zR:=am DI;clear bQ au aM Kn DI
   go_upto_if 28 with (first
   |((first|with_reducible refine gB ?_ | with_reducible refine gA ?_);refine cx rfl M.1 ?_;clear M C;intro g W M C;simp only [ah] at C)
   |((with_reducible refine cv ?_);refine fZ rfl rfl M.1 cl.1 ?_)
   |((with_reducible refine da ?_);refine dv rfl rfl rfl M.1 ?_;clear M C;intro W M C;simp only [ah] at C)
   |((with_reducible refine cv ?_);refine dV rfl rfl M.1 ?_)
   |(go_at_call 154;refine Dr M.1 (acg d _ _ (kDeed.bH M.1.below g4.1)) ?_;clear M C;intro W M C;simp only [ah] at C)
   |(go_at_call 153;refine hd M.1 (abI d n _) zR.1 ?_;clear M C;intro W M C;simp only [ah] at C))
   cases BO
   ·go_wp2
    go_ret;rw [bX.1,show za ds n=false from hK aJ (by rw [<-O4.1];exact zR.1)];exact ⟨rfl,M.1.below⟩
   ·go_wp2
    go_roundw
    case rel=>exact ⟨k+1,by omega,by go_num,⟨fun i aa=>by rcases Nat.lt_or_ge i k with h | h;exact du.1 i h;obtain rfl:i=k:=(by omega);rw [<-O4.1];exact zR.1⟩,⟨M.1.pop⟩⟩
    case measure=>simp [intOf];omega
  ·obtain rfl:k=ds.length:=by omega
   have b7:¬ (ds.length:Int) < (ds.length:Int):=by omega
   go_wp2;go_ret;rw [bX.1,show za ds n=true from hv.2 du.1];exact ⟨rfl,M.1.below⟩
def hT (a:Act) (GD TK:Value):Value:=
 if a.kind=1 then (if ((a.kids.length:Int) == 0) && (a.eY == 0) then .iface 162 (.agg #[GD]) else .nilIface)
 else if a.kind=2 then (if ((a.bP.length:Int) == 0) && (a.eY == 0) then .iface 165 (.agg #[TK]) else .nilIface)
 else if a.kind=3 then (if ((a.bP.length:Int) == 0) && ((a.kids.length:Int) == 0) && (a.eY == 0) then .iface 167 (.agg #[]) else .nilIface)
 else if a.kind=4 then (if ((a.bP.length:Int) == 0) && ((a.kids.length:Int) == 0) then .iface 169 (.agg #[.int .i64 a.eY]) else .nilIface)
 else .nilIface
theorem ra {q:Prop} (h:q:=by
  go_wp2;go_ret;rw [bX.1];exact ⟨rfl,M.1.below⟩):q:=h
theorem acb (a:Act) (eR:Option Addr) (ez:Nat) (eF:Option Addr) (eJ:Nat) (w:World):
  Calls Tryz.prog 123 #[.agg #[.int .i64 a.kind,.slice eR a.bP.length ez,.slice eF a.kids.length eJ,.int .i64 a.eY]] w fun e af=>e= .returned (hT a (.slice eR a.bP.length ez) (.slice eF a.kids.length eJ))/\Below w.heap.size w af:=by
 have M:=am (ba.nil w);have C:=M.1.aw;obtain ⟨nj,ou⟩:∃ b,((a.bP.length:Int) == 0)=b:=⟨_,rfl⟩;obtain ⟨sI,l9⟩:∃ b,((a.kids.length:Int) == 0)=b:=⟨_,rfl⟩;obtain ⟨I6,qW⟩:∃ b,(a.eY == 0)=b:=⟨_,rfl⟩;have wY:=am (And.intro ou (And.intro l9 qW));go_enter Tryz.func123,Tryz.ntmps123
 go_wp2_with (first
 |((first|with_reducible refine gB ?_ | with_reducible refine gA ?_);refine cx rfl M.1 ?_;clear M C;intro g W M C;simp only [ah] at C))
 refine gL M.1 ?_;clear M C;intro W M;refine dx [0,1,2,3,4,5,6,7,8,9,10,11,12,13] M.1 ?_;iterate 14 (first|refine cc rfl ?_ | refine ch rfl ?_ | refine cj rfl ?_)
 refine bN ?_;refine f' ?_;have C:=M.1.aw;simp only [ah] at C;by_cases h1:a.kind=1
 ·have cg:(a.kind == 1)=true:=by simp [h1]
  have cO:(a.kind == 2)=false:=by simp [h1]
  have dh:(a.kind == 3)=false:=by simp [h1]
  have fu:(a.kind == 4)=false:=by simp [h1]
  have bX:=am (show hT a (.slice eR a.bP.length ez) (.slice eF a.kids.length eJ)=_ from by unfold hT;rw [if_pos h1,wY.1.2.1,wY.1.2.2]);cases sI;exact ra;cases I6;exact ra;exact ra
 have cg:(a.kind == 1)=false:=by simpa using h1
 by_cases ar:a.kind=2
 ·have cO:(a.kind == 2)=true:=by simp [ar]
  have dh:(a.kind == 3)=false:=by simp [ar]
  have fu:(a.kind == 4)=false:=by simp [ar]
  have bX:=am (show hT a (.slice eR a.bP.length ez) (.slice eF a.kids.length eJ)=_ from by unfold hT;rw [if_neg h1,if_pos ar,wY.1.1,wY.1.2.2]);cases nj;exact ra;cases I6;exact ra;exact ra
 have cO:(a.kind == 2)=false:=by simpa using ar
 by_cases aA:a.kind=3
 ·have dh:(a.kind == 3)=true:=by simp [aA]
  have fu:(a.kind == 4)=false:=by simp [aA]
  have bX:=am (show hT a (.slice eR a.bP.length ez) (.slice eF a.kids.length eJ)=_ from by unfold hT;rw [if_neg h1,if_neg ar,if_pos aA,wY.1.1,wY.1.2.1,wY.1.2.2]);cases nj;exact ra;cases sI;exact ra;cases I6;exact ra;exact ra
 have dh:(a.kind == 3)=false:=by simpa using aA
 by_cases bR:a.kind=4
 ·have fu:(a.kind == 4)=true:=by simp [bR]
  have bX:=am (show hT a (.slice eR a.bP.length ez) (.slice eF a.kids.length eJ)=_ from by unfold hT;rw [if_neg h1,if_neg ar,if_neg aA,if_pos bR,wY.1.1,wY.1.2.1]);cases nj;exact ra;cases sI;exact ra;exact ra
 have fu:(a.kind == 4)=false:=by simpa using bR
 have bX:av (hT a (.slice eR a.bP.length ez) (.slice eF a.kids.length eJ)=_):=⟨by unfold hT;rw [if_neg h1,if_neg ar,if_neg aA,if_neg bR]⟩;exact ra
theorem wg {q:Prop} (h:q:=by
  go_enter Tryz.func122,Tryz.ntmps122;go_wp2;go_ret;rw [bX.1];exact ⟨rfl,M.1.below⟩):q:=h
theorem abk (a:Act) (eR:Option Addr) (ez:Nat) (eF:Option Addr) (eJ:Nat) (n body an:Int) (w:World) (aO:kDeed.C w eR a.bP.length a.bP) (J:(Kd.int .i64).C w eF a.kids.length a.kids) (aX:a.bP.length<=1048576/\a.kids.length<=1048576) (aS:0<=n/\n<=3):
  Calls Tryz.prog 122 #[hT a (.slice eR a.bP.length ez) (.slice eF a.kids.length eJ),.int .i64 n,.int .i64 body,.int .i64 an] w fun e af=>e= .returned (.bool (dT n an body a))/\Below w.heap.size w af:=by
 have ag:=am aO;have cT:=am J;have fY:=am aX;have M:=am (ba.nil w);have C:=M.1.aw;have aei:=xP (P:=Tryz.prog) 162 149 (.agg #[.slice none 0 0]) (by kernel_rfl) (by kernel_rfl);have ael:=xP (P:=Tryz.prog) 165 149 (.agg #[.slice none 0 0]) (by kernel_rfl) (by kernel_rfl);have aem:=xP (P:=Tryz.prog) 167 149 (.agg #[]) (by kernel_rfl) (by kernel_rfl);have aer:=xP (P:=Tryz.prog) 169 149 (.agg #[.int .i64 0]) (by kernel_rfl) (by kernel_rfl);clear aO J aX;by_cases h1:a.kind=1
 ·have cg:(a.kind == 1)=true:=by simp [h1]
  by_cases ep:a.kids= []
  ·have l9:((a.kids.length:Int) == 0)=true:=by simp [ep]
   by_cases dZ:a.eY=0
   ·have qW:(a.eY == 0)=true:=by simp [dZ]
    rw [show hT a (.slice eR a.bP.length ez) (.slice eF a.kids.length eJ)= .iface 162 (.agg #[.slice eR a.bP.length ez]) from by unfold hT;rw [if_pos h1,l9,qW];try rfl];have bX:av (dT n an body a=Ib a.bP n):=⟨by unfold dT Ib;rw [if_neg (by simp [h1,ep,dZ]),if_pos h1,decide_eq_false (show ¬ n < 0 by omega),decide_eq_false (show ¬ 3 < n by omega),show decide ((5:Int) < (a.bP.length:Int))= !decide (a.bP.length<=5) from by rw [Bool.eq_iff_iff];simp;omega];cases decide (a.bP.length<=5) <;> simp⟩;clear h1 ep dZ;go_enter Tryz.func122,Tryz.ntmps122
    go_wp2_with (first
    |((first|with_reducible refine gB ?_ | with_reducible refine gA ?_);refine cx rfl M.1 ?_;clear M C;intro g W M C;simp only [ah] at C)
    |((with_reducible refine da ?_);refine dv rfl rfl rfl M.1 ?_;clear M C;intro W M C;simp only [ah] at C)
    |(go_at_call 143;refine hd M.1 (ab5 _ _ _ n _ (Kd.bW ag.1 M.1.below) fY.1.1) rfl ?_;clear M C;intro W M C;simp only [ah] at C))
    go_ret;rw [bX.1];exact ⟨rfl,M.1.below⟩
   ·have qW:(a.eY == 0)=false:=by simpa using dZ
    rw [show hT a (.slice eR a.bP.length ez) (.slice eF a.kids.length eJ)= .nilIface from by unfold hT;rw [if_pos h1,l9,qW];try rfl];have bX:av (dT n an body a=false):=⟨by unfold dT;simp [h1,dZ]⟩;exact wg
  ·have l9:((a.kids.length:Int) == 0)=false:=by simpa using ep
   rw [show hT a (.slice eR a.bP.length ez) (.slice eF a.kids.length eJ)= .nilIface from by unfold hT;rw [if_pos h1,l9,Bool.false_and];try rfl];have bX:av (dT n an body a=false):=⟨by unfold dT;simp [h1,ep]⟩;exact wg
 by_cases ar:a.kind=2
 ·have cg:(a.kind == 1)=false:=by simpa using h1
  have cO:(a.kind == 2)=true:=by simp [ar]
  by_cases d0:a.bP= []
  ·have ou:((a.bP.length:Int) == 0)=true:=by simp [d0]
   by_cases dZ:a.eY=0
   ·have qW:(a.eY == 0)=true:=by simp [dZ]
    rw [show hT a (.slice eR a.bP.length ez) (.slice eF a.kids.length eJ)= .iface 165 (.agg #[.slice eF a.kids.length eJ]) from by unfold hT;rw [if_neg h1,if_pos ar,ou,qW];try rfl];have bX:av (dT n an body a=qs a.kids body an):=⟨by unfold dT;rw [if_neg (by simp [ar,d0,dZ]),if_neg (by simp [ar]),if_pos ar]⟩;clear h1 ar d0 dZ ou qW cg cO;go_enter Tryz.func122,Tryz.ntmps122
    go_wp2_with (first
    |((first|with_reducible refine gB ?_ | with_reducible refine gA ?_);refine cx rfl M.1 ?_;clear M C;intro g W M C;simp only [ah] at C)
    |((with_reducible refine da ?_);refine dv rfl rfl rfl M.1 ?_;clear M C;intro W M C;simp only [ah] at C))
    obtain ⟨L,fg,fh⟩:=ba.named M;go_loopw [12,29] (fun _ j af=>∃ k:Nat,k<=a.kids.length/\j= .int .i64 k/\av (∀ i,i < k->bF (cC a.kids i) (body+1) (an - 1)=true)/\av (ba w af L)) (fun _ j _=>a.kids.length - (intOf j).toNat)
    case atStart=>exact ⟨0,Nat.zero_le _,rfl,⟨fun i aa=>by omega⟩,fh⟩
    obtain ⟨k,J,rfl,du,M2⟩:=hrel;have lT:=fg.1;subst lT;clear M C fh fg;have M:=M2;clear M2;have C:=M.1.aw;simp only [ah] at C;by_cases aJ:k < a.kids.length
    ·have bz:(0:Int)<=(k:Int):=by omega
     have b7:(k:Int) < (a.kids.length:Int):=by omega
     have bY:=fY.1.2;obtain ⟨cy,mb,az⟩:=Kd.kG cT.1 (k:Int) bz b7;cases mb;simp only [Int.toNat_natCast] at az;obtain ⟨x,hG⟩:∃ x,x=cC a.kids k:=⟨_,rfl⟩;rw [show rd a.kids (k:Int)=x by rw [hG];rfl] at az;replace M:=am (M.1.cB az);clear C;have C:=M.1.aw;simp only [ah] at C;have h7:=am hG;obtain ⟨ej,gq⟩:∃ b,decide (x<=body)=b:=⟨_,rfl⟩;obtain ⟨b2,jm⟩:∃ b,decide (an<=x)=b:=⟨_,rfl⟩;have eS:av (bF x (body+1) (an - 1)=(!ej && !b2)):=⟨by rw [<-gq,<-jm,Bool.eq_iff_iff,e0];simp;omega⟩;clear az hG;cases ej
     ·cases b2
      ·go_wp2
       go_roundw
       case rel=>exact ⟨k+1,by omega,by go_num,⟨fun i aa=>by rcases Nat.lt_or_ge i k with h | h;exact du.1 i h;obtain rfl:i=k:=(by omega);rw [<-h7.1,eS.1];rfl⟩,⟨M.1.pop⟩⟩
       case measure=>simp [intOf];omega
      ·go_wp2
       go_ret;rw [bX.1,show qs a.kids body an=false from by unfold qs;rw [hK aJ (by rw [<-h7.1,eS.1];rfl)];rfl];exact ⟨rfl,M.1.below⟩
     ·go_wp2
      go_ret;rw [bX.1,show qs a.kids body an=false from by unfold qs;rw [hK aJ (by rw [<-h7.1,eS.1];rfl)];rfl];exact ⟨rfl,M.1.below⟩
    ·obtain rfl:k=a.kids.length:=by omega
     have b7:¬ (a.kids.length:Int) < (a.kids.length:Int):=by omega
     have h3:=am (show qs a.kids body an=bF a.kids.length 1 2 from by unfold qs;rw [hv.2 du.1];rfl);obtain ⟨ej,gq⟩:∃ b,decide ((1:Int)<=(a.kids.length:Int))=b:=⟨_,rfl⟩;have VU:av (bF a.kids.length 1 2=(ej && decide ((a.kids.length:Int)<=2))):=⟨by rw [<-gq];rfl⟩;cases ej
     all_goals go_wp2
     all_goals go_ret
     all_goals rw [bX.1,h3.1,VU.1]
     all_goals exact ⟨rfl,M.1.below⟩
   ·have qW:(a.eY == 0)=false:=by simpa using dZ
    rw [show hT a (.slice eR a.bP.length ez) (.slice eF a.kids.length eJ)= .nilIface from by unfold hT;rw [if_neg h1,if_pos ar,ou,qW];try rfl];have bX:av (dT n an body a=false):=⟨by unfold dT;simp [ar,dZ]⟩;exact wg
  ·have ou:((a.bP.length:Int) == 0)=false:=by simpa using d0
   rw [show hT a (.slice eR a.bP.length ez) (.slice eF a.kids.length eJ)= .nilIface from by unfold hT;rw [if_neg h1,if_pos ar,ou,Bool.false_and];try rfl];have bX:av (dT n an body a=false):=⟨by unfold dT;simp [ar,d0]⟩;exact wg
 by_cases aA:a.kind=3
 ·by_cases d0:a.bP= []
  ·have ou:((a.bP.length:Int) == 0)=true:=by simp [d0]
   by_cases ep:a.kids= []
   ·have l9:((a.kids.length:Int) == 0)=true:=by simp [ep]
    by_cases dZ:a.eY=0
    ·have qW:(a.eY == 0)=true:=by simp [dZ]
     rw [show hT a (.slice eR a.bP.length ez) (.slice eF a.kids.length eJ)= .iface 167 (.agg #[]) from by unfold hT;rw [if_neg h1,if_neg ar,if_pos aA,ou,l9,qW];try rfl];have bX:av (dT n an body a=true):=⟨by unfold dT;simp [aA,d0,ep,dZ]⟩;go_enter Tryz.func122,Tryz.ntmps122
     go_wp2_with (first
     |((first|with_reducible refine gB ?_ | with_reducible refine gA ?_);refine cx rfl M.1 ?_;clear M C;intro g W M C;simp only [ah] at C)
     |((with_reducible refine da ?_);refine dv rfl rfl rfl M.1 ?_;clear M C;intro W M C;simp only [ah] at C))
     go_ret;rw [bX.1];exact ⟨rfl,M.1.below⟩
    ·have qW:(a.eY == 0)=false:=by simpa using dZ
     rw [show hT a (.slice eR a.bP.length ez) (.slice eF a.kids.length eJ)= .nilIface from by unfold hT;rw [if_neg h1,if_neg ar,if_pos aA,ou,l9,qW];try rfl];have bX:av (dT n an body a=false):=⟨by unfold dT;simp [aA,dZ]⟩;exact wg
   ·have l9:((a.kids.length:Int) == 0)=false:=by simpa using ep
    rw [show hT a (.slice eR a.bP.length ez) (.slice eF a.kids.length eJ)= .nilIface from by unfold hT;rw [if_neg h1,if_neg ar,if_pos aA,ou,l9,Bool.and_false,Bool.false_and];try rfl];have bX:av (dT n an body a=false):=⟨by unfold dT;simp [aA,ep]⟩;exact wg
  ·have ou:((a.bP.length:Int) == 0)=false:=by simpa using d0
   rw [show hT a (.slice eR a.bP.length ez) (.slice eF a.kids.length eJ)= .nilIface from by unfold hT;rw [if_neg h1,if_neg ar,if_pos aA,ou,Bool.false_and,Bool.false_and];try rfl];have bX:av (dT n an body a=false):=⟨by unfold dT;simp [aA,d0]⟩;exact wg
 by_cases bR:a.kind=4
 ·by_cases d0:a.bP= []
  ·have ou:((a.bP.length:Int) == 0)=true:=by simp [d0]
   by_cases ep:a.kids= []
   ·have l9:((a.kids.length:Int) == 0)=true:=by simp [ep]
    rw [show hT a (.slice eR a.bP.length ez) (.slice eF a.kids.length eJ)= .iface 169 (.agg #[.int .i64 a.eY]) from by unfold hT;rw [if_neg h1,if_neg ar,if_neg aA,if_pos bR,ou,l9];try rfl];have bX:av (dT n an body a=(decide (0<=a.eY) && decide (a.eY < 3))):=⟨by rw [Bq];unfold dT;simp [bR,d0,ep]⟩;go_enter Tryz.func122,Tryz.ntmps122
    go_wp2_with (first
    |((first|with_reducible refine gB ?_ | with_reducible refine gA ?_);refine cx rfl M.1 ?_;clear M C;intro g W M C;simp only [ah] at C)
    |((with_reducible refine da ?_);refine dv rfl rfl rfl M.1 ?_;clear M C;intro W M C;simp only [ah] at C)
    |(go_at_call 144;refine hQ (ME _ _) rfl ?_))
    go_ret;rw [bX.1];exact ⟨rfl,M.1.below⟩
   ·have l9:((a.kids.length:Int) == 0)=false:=by simpa using ep
    rw [show hT a (.slice eR a.bP.length ez) (.slice eF a.kids.length eJ)= .nilIface from by unfold hT;rw [if_neg h1,if_neg ar,if_neg aA,if_pos bR,ou,l9];try rfl];have bX:av (dT n an body a=false):=⟨by unfold dT;simp [bR,ep]⟩;exact wg
  ·have ou:((a.bP.length:Int) == 0)=false:=by simpa using d0
   rw [show hT a (.slice eR a.bP.length ez) (.slice eF a.kids.length eJ)= .nilIface from by unfold hT;rw [if_neg h1,if_neg ar,if_neg aA,if_pos bR,ou,Bool.false_and];try rfl];have bX:av (dT n an body a=false):=⟨by unfold dT;simp [bR,d0]⟩;exact wg
 rw [show hT a (.slice eR a.bP.length ez) (.slice eF a.kids.length eJ)= .nilIface from by unfold hT;rw [if_neg h1,if_neg ar,if_neg aA,if_neg bR]];have bX:av (dT n an body a=false):=⟨by unfold dT;simp [h1,ar,aA,bR]⟩;exact wg
theorem abJ (p:Prog) (ju:List Value) (bb:ia p=true):∀ (n:Nat) (b:Int) (w:World),cN.K w p ju->0<=b->b < p.an.length->(p.an.length:Int) - b<=n->
  Calls Tryz.prog 124 #[.agg ju.toArray,.int .i64 b] w fun e af=>e= .returned (.int .i64 (hz p b))/\Below w.heap.size w af:=by
 intro n
 induction n with
 | zero=>intro b w _ aq h1 aS;omega
 | succ n fI=>
 intro b w aB aq h1 aS;have zw:=am fI;clear fI;obtain ⟨bl,rfl⟩:=Int.eq_ofNat_of_zero_le aq;have eu:bl < p.an.length:=by omega
 have vT:av (∀ k,eP (fun a:Act=>eP (hz p) a.kids) ((bo p.an bl).take k)<=37448):=⟨fun k=>QT bb aq h1 k⟩;have JR:av (hz p (bl:Int)=1+eP (fun a:Act=>eP (hz p) a.kids) (bo p.an bl)):=⟨treeOf_eq bb aq h1⟩;have cR:=am aB;have e3:=am bb;have z1:=(wE bb).2.2;have US:(bo p.an bl).length<=4:=Ga bb ⟨aq,h1⟩;obtain ⟨ek,ey,g0,er,rfl,-,-,-,gb⟩:=jk aB;have nk:=am gb;obtain ⟨gp,cV,nW,rfl,kt,hX,en,-⟩:=dd nk.1 ([]:List Act) bl eu (by decide);obtain ⟨k5,kf,rfl,kL,jd⟩:=hX;have c3:=en 0 _ rfl;simp only [show (Kd.slice 55 kAct).bD=1 from rfl,Nat.mul_one,Nat.add_zero] at c3;have sW:=am (show kAct.C w k5 (bo p.an bl).length (bo p.an bl) from jd);rw [show (p.an.getD bl []).length=(bo p.an bl).length from rfl] at c3;clear kt en kL jd;have bz:(0:Int)<=(bl:Int):=by omega
 have b7:(bl:Int) < (p.an.length:Int):=by omega
 have M:=am (ba.nil w);have C:=M.1.aw;replace M:=am (M.1.cB c3);clear C;have C:=M.1.aw;simp only [ah] at C;clear aB bb gb c3 aq h1;go_enter Tryz.func124,Tryz.ntmps124
 go_wp2_with (first
 |((first|with_reducible refine gB ?_ | with_reducible refine gA ?_);refine cx rfl M.1 ?_;clear M C;intro g W M C;simp only [ah] at C))
 obtain ⟨L,fg,fh⟩:=ba.named M;go_loopw [5,16] (fun v j af=>∃ k:Nat,k<=(bo p.an bl).length/\j= .int .i64 k/\v= .int .i64 (1+eP (fun a:Act=>eP (hz p) a.kids) ((bo p.an bl).take k):Nat)/\av (ba w af L)) (fun _ j _=>(bo p.an bl).length - (intOf j).toNat)
 case atStart=>exact ⟨0,Nat.zero_le _,rfl,by simp [eP],fh⟩
 case round=>
  obtain ⟨k,J,rfl,rfl,M2⟩:=hrel;have tL:=fg.1;subst tL;clear M C fh fg;have M:=M2;clear M2;have C:=M.1.aw;simp only [ah] at C;obtain ⟨acc,AZ⟩:∃ x:Nat,x=(1+eP (fun a:Act=>eP (hz p) a.kids) ((bo p.an bl).take k):Nat):=⟨_,rfl⟩;have Xc:acc<=37449:=by have:=vT.1 k;omega
  simp only [<-AZ];have Fc:=am AZ;clear AZ;by_cases aJ:k < (bo p.an bl).length
  ·have VV:=e3.1
   obtain ⟨iL,ly,yw,rfl,sc,ix,j8,-⟩:=dd sW.1 iK k aJ (by decide);obtain ⟨a,jS⟩:∃ x,x=actAt (bo p.an bl) k:=⟨_,rfl⟩;rw [show (bo p.an bl).getD k iK=a from jS.symm] at ix
   have se:a ∈ bo p.an bl:=by
    rw [jS,show actAt (bo p.an bl) k=(bo p.an bl)[k] by simp [actAt,aJ]];exact List.getElem_mem aJ
   have p2:=am jS;obtain ⟨eR,ez,eF,eJ,rfl,-,cQ,-,gk⟩:=m0 ix;have lf:=am gk;have s0:=am cQ;have cl:=am j8;have dZ:(0:Int)<=(k:Int):=by omega
   have jL:(k:Int) < ((bo p.an bl).length:Int):=by omega
   clear sc ix j8 jS gk cQ;have Dp:=am (kid_behind e3.1 (b:=(bl:Int)) ⟨bz,b7⟩ se);have IU:av (∀ m,eP (hz p) (a.kids.take m)<=9362):=⟨fun m=>QU e3.1 (b:=(bl:Int)) bz b7 se m⟩;have iI:a.kids.length<=2:=Dp.1.1;clear VV se
   go_wp2_with (first
   |((first|with_reducible refine gB ?_ | with_reducible refine gA ?_);refine cx rfl M.1 ?_;clear M C;intro g W M C;simp only [ah] at C)
   |((with_reducible refine cv ?_);refine fZ rfl rfl M.1 cl.1 ?_)
   |((with_reducible refine da ?_);refine dv rfl rfl rfl M.1 ?_;clear M C;intro W M C;simp only [ah] at C))
   obtain ⟨L,fg,fh⟩:=ba.named M;go_loopw [5,23] (fun v j af=>∃ m:Nat,m<=a.kids.length/\j= .int .i64 m/\v= .int .i64 ((acc+eP (hz p) (a.kids.take m):Nat):Int)/\av (ba w af L)) (fun _ j _=>a.kids.length - (intOf j).toNat)
   case atStart=>exact ⟨0,Nat.zero_le _,rfl,by simp [eP],fh⟩
   case round=>
    obtain ⟨m,hm,rfl,rfl,M2⟩:=hrel;have tL:=fg.1;subst tL;clear M C fh fg;have M:=M2;clear M2;have C:=M.1.aw;simp only [ah] at C;obtain ⟨xl,A0⟩:∃ x:Nat,x=acc+eP (hz p) (a.kids.take m):=⟨_,rfl⟩;have XR:xl<=50000:=by have:=IU.1 m;omega
    simp only [<-A0];have Fe:=am A0;clear A0;by_cases n6:m < a.kids.length
    ·have bU:(0:Int)<=(m:Int):=by omega
     have s1:(m:Int) < (a.kids.length:Int):=by omega
     obtain ⟨kS,pM⟩:∃ x,x=cC a.kids m:=⟨_,rfl⟩;have r2:=Dp.1.2 kS (by rw [pM,show cC a.kids m=a.kids[m] by simp [cC,n6]];exact List.getElem_mem n6);have zC:=am r2;obtain ⟨mQ,n1⟩:∃ x,x=hz p kS:=⟨_,rfl⟩;have mj:mQ<=4681:=by rw [n1];exact treeOf_le e3.1 (by omega) r2.2
     have jf:=am n1.symm;have g4:=am pM;obtain ⟨cy,JS,cL⟩:=Kd.kG lf.1 (m:Int) bU s1;subst JS;simp only [Int.toNat_natCast] at cL;rw [show rd a.kids (m:Int)=kS from pM.symm] at cL;replace M:=am (M.1.cB cL);clear C;have C:=M.1.aw;simp only [ah] at C;clear pM n1 r2 cL
     go_wp2_with (first
     |((with_reducible refine cv ?_);refine dV rfl rfl M.1 ?_)
     |(go_at_call 124;refine Dr M.1 (zw.1 kS _ (cN.bH M.1.below cR.1) (by have:=zC.1;omega) zC.1.2 (by have:=zC.1;omega)) ?_;rw [jf.1];clear M C;intro W M C;simp only [ah] at C))
     go_roundw
     case rel=>exact ⟨m+1,by omega,by go_num,by rw [show ((acc+eP (hz p) (a.kids.take (m+1)):Nat):Int)=(xl:Int)+(mQ:Int) by rw [sumL_take (hz p) 0 a.kids n6,show a.kids.getD m 0=kS from g4.1.symm,jf.1,Fe.1];omega],⟨M.1.pop⟩⟩
     case measure=>simp [intOf];omega
    ·obtain rfl:m=a.kids.length:=by omega
     have pK:xl=(1+eP (fun a:Act=>eP (hz p) a.kids) ((bo p.an bl).take (k+1)):Nat):=by
      rw [Fe.1,List.take_length,Fc.1,sumL_take (fun a:Act=>eP (hz p) a.kids) iK (bo p.an bl) aJ,show (bo p.an bl).getD k iK=a from p2.1.symm];omega
     have K6:=am pK;clear pK;have s1:¬ (a.kids.length:Int) < (a.kids.length:Int):=by omega
     go_wp2;go_roundw
     case rel=>exact ⟨k+1,by omega,by go_num,by rw [K6.1],⟨M.1.pop⟩⟩
     case measure=>simp [intOf];omega
  ·obtain rfl:k=(bo p.an bl).length:=by omega
   have s1:¬ ((bo p.an bl).length:Int) < ((bo p.an bl).length:Int):=by omega
   have pK:acc=hz p (bl:Int):=by rw [Fc.1,JR.1,List.take_length]
   go_wp2;go_ret;rw [<-pK];exact ⟨rfl,M.1.below⟩
theorem HQ {q:Prop} (h:q:=by
  go_wp2_with (go_at_call 121;refine hQ (MN _ _ _ _ (Kd.bW qR.1 M.1.below) fY.1.cells) jA.1 ?_)
  go_ret;rw [bX.1];exact ⟨by simp,M.1.below⟩):q:=h
theorem S3 (p:Prog) (bK:List Value) (w:World) (aB:cN.K w p bK) (aX:jI p):
  Calls Tryz.prog 90 #[.agg bK.toArray] w fun e af=>e= .returned (.bool (k2 p))/\Below w.heap.size w af:=by
 have cR:=am aB;have fY:=am aX;obtain ⟨ek,ey,g0,er,rfl,-,gc,-,gb⟩:=jk aB;have qR:=am gc;have nk:=am gb;have M:=am (ba.nil w);have C:=M.1.aw;obtain ⟨ej,cg⟩:∃ b,decide ((3:Int) < (p.cells.length:Int))=b:=⟨_,rfl⟩;obtain ⟨b2,cO⟩:∃ b,Be p.cells=b:=⟨_,rfl⟩;obtain ⟨b3,dh⟩:∃ b,decide ((p.an.length:Int) < 1)=b:=⟨_,rfl⟩;obtain ⟨b4,fu⟩:∃ b,decide ((4:Int) < (p.an.length:Int))=b:=⟨_,rfl⟩
 have bX:av (k2 p=(!ej && b2 && !b3 && !b4 && (hH p.an.length fun i=>qt p.cells.length p.an.length i (bo p.an i)) && decide (hz p 0<=7))):=⟨by
  rw [<-cg,<-cO,<-dh,<-fu,show decide ((3:Int) < (p.cells.length:Int))= !decide (p.cells.length<=3) from by rw [Bool.eq_iff_iff];simp <;> omega];rw [show (!decide ((p.an.length:Int) < 1))=decide (1<=(p.an.length:Int)) from by rw [Bool.eq_iff_iff];simp <;> omega,show (!decide ((4:Int) < (p.an.length:Int)))=decide ((p.an.length:Int)<=4) from by rw [Bool.eq_iff_iff];simp];unfold k2 ia Be bF;cases decide (p.cells.length<=3) <;> cases decide (1<=(p.an.length:Int)) <;> cases decide ((p.an.length:Int)<=4) <;> simp⟩
 have gM:=am cg;have jA:=am cO;have kz:=am dh;have rK:=am fu;clear aB gc gb cO;go_enter Tryz.func90,Tryz.ntmps90
 go_upto_region 1 with (first
 |((first|with_reducible refine gB ?_ | with_reducible refine gA ?_);refine cx rfl M.1 ?_;clear M C;intro g W M C;simp only [ah] at C))
 cases ej
 case true=>exact HQ
 cases b2
 case false=>exact HQ
 cases b3
 case true=>exact HQ
 cases b4
 case true=>exact HQ
 have Aw:p.cells.length<=3:=by have:=of_decide_eq_false gM.1;omega
 have z1:p.an.length<=4:=by have:=of_decide_eq_false rK.1;omega
 have bZ:1<=p.an.length:=by have:=of_decide_eq_false kz.1;omega
 go_wp2_with (first
 |(go_at_call 121;refine hQ (MN _ _ _ _ (Kd.bW qR.1 M.1.below) fY.1.cells) jA.1 ?_))
 obtain ⟨L,fg,fh⟩:=ba.named M;go_loopw [3,4,30] (fun _ _ j af=>∃ bl:Nat,bl<=p.an.length/\j= .int .i64 bl/\av (∀ i,i < bl->qt p.cells.length p.an.length i (bo p.an i)=true)/\av (ba w af L)) (fun _ _ j _=>p.an.length - (intOf j).toNat)
 case atStart=>exact ⟨0,Nat.zero_le _,rfl,⟨fun i aa=>by omega⟩,fh⟩
 case round=>
  obtain ⟨bl,pL,rfl,du,M2⟩:=hrel;have tL:=fg.1;subst tL;clear M C fh fg;have M:=M2;clear M2;have C:=M.1.aw;simp only [ah] at C;by_cases eu:bl < p.an.length
  ·have bz:(0:Int)<=(bl:Int):=by omega
   have b7:(bl:Int) < (p.an.length:Int):=by omega
   have lC:=fY.1.cq _ (List.getElem_mem eu);rw [<-zi eu] at lC;have Ai:=am lC.2;have Cg:=lC.1;clear lC;obtain ⟨gp,cV,nW,rfl,kt,hX,en,-⟩:=dd nk.1 ([]:List Act) bl eu (by decide);obtain ⟨k5,kf,rfl,kL,jd⟩:=hX;have c3:=en 0 _ rfl;simp only [show (Kd.slice 55 kAct).bD=1 from rfl,Nat.mul_one,Nat.add_zero] at c3;have sW:=am (show kAct.C w k5 (bo p.an bl).length (bo p.an bl) from jd);rw [show (p.an.getD bl []).length=(bo p.an bl).length from rfl] at c3;clear kt en kL jd;replace M:=am (M.1.cB c3);clear C c3;have C:=M.1.aw;simp only [ah] at C;obtain ⟨b5,iH⟩:∃ b,decide ((4:Int) < ((bo p.an bl).length:Int))=b:=⟨_,rfl⟩;have jR:av (decide ((bo p.an bl).length<=4)= !b5):=⟨by rw [<-iH,Bool.eq_iff_iff];simp;omega⟩;cases b5;rotate_left
   ·go_wp2
    go_ret;rw [bX.1,show (hH p.an.length fun i=>qt p.cells.length p.an.length i (bo p.an i))=false from hK eu (by unfold qt;rw [jR.1];rfl)];exact ⟨by simp,M.1.below⟩
   go_wp2_with fail
   obtain ⟨L,fg,fh⟩:=ba.named M;go_loopw [6,40] (fun _ j af=>∃ k:Nat,k<=(bo p.an bl).length/\j= .int .i64 k/\av (∀ i,i < k->dT p.cells.length p.an.length bl (actAt (bo p.an bl) i)=true)/\av (ba w af L)) (fun _ j _=>(bo p.an bl).length - (intOf j).toNat)
   case atStart=>exact ⟨0,Nat.zero_le _,rfl,⟨fun i aa=>by omega⟩,fh⟩
   case round=>
    obtain ⟨k,J,rfl,cT,M2⟩:=hrel;have tL:=fg.1;subst tL;clear M C fh fg;have M:=M2;clear M2;have C:=M.1.aw;simp only [ah] at C;by_cases aJ:k < (bo p.an bl).length
    ·have O5:=Ai.1
     obtain ⟨iL,ly,yw,rfl,sc,ix,j8,-⟩:=dd sW.1 iK k aJ (by decide);obtain ⟨a,jS⟩:∃ x,x=actAt (bo p.an bl) k:=⟨_,rfl⟩;rw [show (bo p.an bl).getD k iK=a from jS.symm] at ix
     have se:a ∈ bo p.an bl:=by
      rw [jS,show actAt (bo p.an bl) k=(bo p.an bl)[k] by simp [actAt,aJ]];exact List.getElem_mem aJ
     have p2:=am jS;obtain ⟨eR,ez,eF,eJ,rfl,-,cQ,-,gk⟩:=m0 ix;have lf:=am gk;have s0:=am cQ;have cl:=am j8;have dZ:(0:Int)<=(k:Int):=by omega
     have jL:(k:Int) < ((bo p.an bl).length:Int):=by omega
     clear sc ix j8 jS gk cQ;have Hv:=am (O5 a se);obtain ⟨BO,DI⟩:∃ b,dT p.cells.length p.an.length bl a=b:=⟨_,rfl⟩;have zR:=am DI;clear O5 se DI
     go_wp2_with (first
     |((first|with_reducible refine gB ?_ | with_reducible refine gA ?_);refine cx rfl M.1 ?_;clear M C;intro g W M C;simp only [ah] at C)
     |((with_reducible refine cv ?_);refine fZ rfl rfl M.1 cl.1 ?_)
     |((with_reducible refine da ?_);refine dv rfl rfl rfl M.1 ?_;clear M C;intro W M C;simp only [ah] at C))
     refine gL M.1 ?_;clear M C;intro W M;refine dx [0,2,3,4,5,6,7,8] M.1 ?_;refine sE rfl rfl ?_;iterate 7 (first|refine cc rfl ?_ | refine ch rfl ?_ | refine cj rfl ?_)
     refine bN ?_;refine jn 1 rfl ?_;refine Dr M.1 (acb a _ _ _ _ _) ?_;intro W M C;refine ⟨_,rfl,M,hb ?_⟩;refine jn 9 rfl ?_;refine hd M.1 (abk a _ _ _ _ _ _ _ _ (Kd.bW s0.1 M.1.below) (Kd.bW lf.1 M.1.below) Hv.1 ⟨by omega,by omega⟩) zR.1 ?_;intro W M C;refine ⟨_,rfl,M,hb ?_⟩;refine dx [10] M.1 ?_;iterate 1 (first|refine cc rfl ?_ | refine ch rfl ?_ | refine cj rfl ?_)
     refine bN ?_;refine f' ?_;clear C;have C:=M.1.aw;simp only [ah] at C;cases BO
     ·go_wp2
      go_ret;rw [bX.1,show (hH p.an.length fun i=>qt p.cells.length p.an.length i (bo p.an i))=false from hK eu (by unfold qt;rw [hK aJ (by rw [<-p2.1];exact zR.1),Bool.and_false])];exact ⟨by simp,M.1.below⟩
     ·go_wp2
      go_roundw
      case rel=>exact ⟨k+1,by omega,by go_num,⟨fun i aa=>by rcases Nat.lt_or_ge i k with h | h;exact cT.1 i h;obtain rfl:i=k:=(by omega);rw [<-p2.1];exact zR.1⟩,⟨M.1.pop⟩⟩
      case measure=>simp [intOf];omega
    ·obtain rfl:k=(bo p.an bl).length:=by omega
     have s1:¬ ((bo p.an bl).length:Int) < ((bo p.an bl).length:Int):=by omega
     go_wp2;go_roundw
     case rel=>exact ⟨bl+1,by omega,by go_num,⟨fun i aa=>by rcases Nat.lt_or_ge i bl with h | h;exact du.1 i h;obtain rfl:i=bl:=(by omega);unfold qt;rw [jR.1,hv.2 cT.1];rfl⟩,⟨M.1.pop⟩⟩
     case measure=>simp [intOf];omega
  ·obtain rfl:bl=p.an.length:=by omega
   have s1:¬ (p.an.length:Int) < (p.an.length:Int):=by omega
   have O6:av ((hH p.an.length fun i=>qt p.cells.length p.an.length i (bo p.an i))=true):=⟨hv.2 du.1⟩;have O7:av (ia p=true):=⟨by unfold ia;rw [O6.1,decide_eq_true Aw,show (hH p.cells.length fun i=>bF (cC p.cells i) 0 99)=true from jA.1,show bF p.an.length 1 4=true from e0.2 ⟨by omega,by omega⟩];rfl⟩;have a6:(hz p 0:Int)<=1000000:=by have:=treeOf_le O7.1 (b:=0) (by omega) (by omega);omega
   go_wp2_with (first
   |((with_reducible refine cv ?_);refine dV rfl rfl M.1 ?_)
   |(go_at_call 124;refine Dr M.1 (abJ p _ O7.1 p.an.length 0 _ (cN.bH M.1.below cR.1) (by omega) (by omega) (by omega)) ?_;clear M C;intro W M C;simp only [ah] at C))
   go_ret;rw [bX.1,O6.1,show decide (hz p 0<=7)=decide ((hz p 0:Int)<=7) from by rw [Bool.eq_iff_iff];simp <;> omega];exact ⟨by simp,M.1.below⟩
def HW (p:Prog) (s:Sys):Bool:=
 k2 p && ((s.cells.length:Int) == (p.cells.length:Int)) && !decide (s.clock < 0) && !decide (200 < s.clock) && xO s && !decide ((s.tasks.length:Int) < 1) && !decide (7 < (s.tasks.length:Int)) &&
 hH s.tasks.length (fun i=>pf p s (aD s.tasks i) && oG p s (aD s.tasks i)) && hH s.tasks.length (fun i=>ka s i && td p s i) && vv s && A3 p s
structure Xt (p:Prog) (s:Sys) (t:Task):Prop where
 body:0<=t.body/\t.body < p.an.length
 aR:0<=t.aR/\t.aR<=(bo p.an t.body.toNat).length
 ai:k3 s.cells.length t.ai
theorem zb {p:Prog} {s:Sys} {t:Task} (h:pf p s t=true):Xt p s t:=by
 simp only [pf,rr,Bool.and_eq_true,Bool.not_eq_true',decide_eq_true_eq,decide_eq_false_iff_not] at h;obtain ⟨⟨⟨⟨⟨⟨⟨⟨⟨⟨⟨⟨h1,ar⟩,aA⟩,-⟩,-⟩,-⟩,-⟩,-⟩,-⟩,-⟩,-⟩,-⟩,OJ⟩:=h;exact ⟨h1,⟨by omega,by omega⟩,Gc OJ⟩
theorem Mc {p:Prog} {s:Sys} {t:Task} (h:oG p s t=true):0<=t.at_/\(t.aE=2\/t.aE=5->t.at_<=t.ai.length):=by
 unfold oG at h;split at h
 ·simp only [Bool.and_eq_true,beq_iff_eq] at h
  omega
 ·simp only [Bool.and_eq_true] at h
  have h:=h.2;unfold pO rr at h;repeat' split at h
  all_goals try simp only [Bool.and_eq_true,beq_iff_eq,decide_eq_true_eq] at h
  all_goals first | omega|(cases h)
theorem A4 {q:Prop} (h:q:=by
  go_wp2_with (first
  |((with_reducible refine cv ?_);refine dV rfl rfl M.1 ?_)
  |(go_at_call 90;refine hd M.1 (S3 p _ _ (cN.bH M.1.below cR.1) ea.1) gM.1 ?_;clear M C;intro W M C;simp only [ah] at C)
  |(go_at_call 91;refine hd M.1 (S1 s _ _ (cS.bH M.1.below c8.1) cK.1.cells) DH.1 ?_;clear M C;intro W M C;simp only [ah] at C))
  go_ret;rw [bX.1];exact ⟨by simp,M.1.below⟩):q:=h
theorem SQ (p:Prog) (bK:List Value) (s:Sys) (c6:List Value) (w:World) (aB:cN.K w p bK) (hs:cS.K w s c6) (iz:jI p) (cP:oC s):
  Calls Tryz.prog 61 #[.agg bK.toArray,.agg c6.toArray] w fun e af=>e= .returned (.bool (HW p s))/\Below w.heap.size w af:=by
 have cR:=am aB;have c8:=am hs;have ea:=am iz;have cK:=am cP;obtain ⟨ek,ey,g0,er,rfl,-⟩:=jk aB;obtain ⟨cX,bL,dX,cu,cU,bO,rfl,-,-,-,db,-⟩:=gX hs;have iM:=am db;have eD:=cK.1.tasks;have M:=am (ba.nil w);have C:=M.1.aw;obtain ⟨ej,cg⟩:∃ b,k2 p=b:=⟨_,rfl⟩;obtain ⟨b2,cO⟩:∃ b,((s.cells.length:Int) == (p.cells.length:Int))=b:=⟨_,rfl⟩;obtain ⟨b3,dh⟩:∃ b,decide (s.clock < 0)=b:=⟨_,rfl⟩;obtain ⟨b4,fu⟩:∃ b,decide (200 < s.clock)=b:=⟨_,rfl⟩;obtain ⟨b5,iH⟩:∃ b,xO s=b:=⟨_,rfl⟩;obtain ⟨sJ,p5⟩:∃ b,decide ((s.tasks.length:Int) < 1)=b:=⟨_,rfl⟩;obtain ⟨oU,sM⟩:∃ b,decide (7 < (s.tasks.length:Int))=b:=⟨_,rfl⟩;have bX:av (HW p s=(ej && b2 && !b3 && !b4 && b5 && !sJ && !oU && hH s.tasks.length (fun i=>pf p s (aD s.tasks i) && oG p s (aD s.tasks i)) && hH s.tasks.length (fun i=>ka s i && td p s i) && vv s && A3 p s)):=⟨by rw [<-cg,<-cO,<-dh,<-fu,<-iH,<-p5,<-sM];rfl⟩;have ado:((s.cells.length:Int) != (p.cells.length:Int))= !b2:=by rw [<-cO];rfl
 have gM:=am cg;have jA:=am cO;have kz:=am dh;have rK:=am fu;have DH:=am iH;have I5:=am p5;have BU:=am sM;clear aB hs iz cP db cg iH cO;go_enter Tryz.func61,Tryz.ntmps61
 go_upto_region 1 with (first
 |((first|with_reducible refine gB ?_ | with_reducible refine gA ?_);refine cx rfl M.1 ?_;clear M C;intro g W M C;simp only [ah] at C))
 cases ej
 case false=>exact A4
 cases b2
 case false=>exact A4
 cases b3
 case true=>exact A4
 cases b4
 case true=>exact A4
 cases b5
 case false=>exact A4
 cases sJ
 case true=>exact A4
 cases oU
 case true=>exact A4
 have J:0<=s.clock/\s.clock<=200:=⟨by have:=of_decide_eq_false kz.1;omega,by have:=of_decide_eq_false rK.1;omega⟩
 go_wp2_with (first
 |((with_reducible refine cv ?_);refine dV rfl rfl M.1 ?_)
 |(go_at_call 90;refine hd M.1 (S3 p _ _ (cN.bH M.1.below cR.1) ea.1) gM.1 ?_;clear M C;intro W M C;simp only [ah] at C)
 |(go_at_call 91;refine hd M.1 (S1 s _ _ (cS.bH M.1.below c8.1) cK.1.cells) DH.1 ?_;clear M C;intro W M C;simp only [ah] at C))
 obtain ⟨L,fg,fh⟩:=ba.named M;go_loopw [6,48] (fun _ j af=>∃ k:Nat,k<=s.tasks.length/\j= .int .i64 k/\av (∀ i,i < k->pf p s (aD s.tasks i)=true/\oG p s (aD s.tasks i)=true)/\av (ba w af L)) (fun _ j _=>s.tasks.length - (intOf j).toNat)
 case atStart=>exact ⟨0,Nat.zero_le _,rfl,⟨fun i aa=>by omega⟩,fh⟩
 case round=>
  obtain ⟨k,nv,rfl,du,M2⟩:=hrel;have tL:=fg.1;subst tL;clear M C fh fg;have M:=M2;clear M2;have C:=M.1.aw;simp only [ah] at C;by_cases aJ:k < s.tasks.length
  ·have bz:(0:Int)<=(k:Int):=by omega
   have b7:(k:Int) < (s.tasks.length:Int):=by omega
   obtain ⟨b,o,cs,rfl,bQ,au,aM,-⟩:=dd iM.1 dS k aJ (by decide);obtain ⟨t,a6⟩:∃ x,x=aD s.tasks k:=⟨_,rfl⟩;rw [show s.tasks.getD k dS=t from a6.symm] at au;have jf:=am au;obtain ⟨hB,d3,iZ,d8,gY,d9,gd,d10,rfl,-⟩:=gh au;have cl:=am aM;have hO:=am a6;have vU:=am (a6 ▸ cK.1.task k aJ);obtain ⟨f1,gq⟩:∃ b,pf p s t=b:=⟨_,rfl⟩;obtain ⟨f2,jm⟩:∃ b,oG p s t=b:=⟨_,rfl⟩;have lS:=am gq;have wZ:=am jm;have cT:=am J;clear bQ au aM a6 gq jm J;cases f1
   ·go_wp2_with (first
    |((first|with_reducible refine gB ?_ | with_reducible refine gA ?_);refine cx rfl M.1 ?_;clear M C;intro g W M C;simp only [ah] at C)
    |((with_reducible refine cv ?_);refine fZ rfl rfl M.1 cl.1 ?_)
    |((with_reducible refine da ?_);refine dv rfl rfl rfl M.1 ?_;clear M C;intro W M C;simp only [ah] at C)
    |((with_reducible refine cv ?_);refine dV rfl rfl M.1 ?_)
    |(go_at_call 92;refine hd M.1 (MI p _ s _ t _ _ (cN.bH M.1.below cR.1) (cS.bH M.1.below c8.1) (eV.bH M.1.below jf.1) vU.1) lS.1 ?_;clear M C;intro W M C;simp only [ah] at C))
    go_ret;rw [bX.1,show (hH s.tasks.length (fun i=>pf p s (aD s.tasks i) && oG p s (aD s.tasks i)))=false from hK aJ (by rw [<-hO.1,lS.1,Bool.false_and])];exact ⟨by simp,M.1.below⟩
   cases f2
   ·go_wp2_with (first
    |((first|with_reducible refine gB ?_ | with_reducible refine gA ?_);refine cx rfl M.1 ?_;clear M C;intro g W M C;simp only [ah] at C)
    |((with_reducible refine cv ?_);refine fZ rfl rfl M.1 cl.1 ?_)
    |((with_reducible refine da ?_);refine dv rfl rfl rfl M.1 ?_;clear M C;intro W M C;simp only [ah] at C)
    |((with_reducible refine cv ?_);refine dV rfl rfl M.1 ?_)
    |(go_at_call 92;refine hd M.1 (MI p _ s _ t _ _ (cN.bH M.1.below cR.1) (cS.bH M.1.below c8.1) (eV.bH M.1.below jf.1) vU.1) lS.1 ?_;clear M C;intro W M C;simp only [ah] at C)
    |(go_at_call 93;refine hd M.1 (S2 p _ s _ t _ _ (cN.bH M.1.below cR.1) (cS.bH M.1.below c8.1) (eV.bH M.1.below jf.1) ea.1 cT.1 (zb lS.1).body (zb lS.1).aR) wZ.1 ?_;clear M C;intro W M C;simp only [ah] at C))
    go_ret;rw [bX.1,show (hH s.tasks.length (fun i=>pf p s (aD s.tasks i) && oG p s (aD s.tasks i)))=false from hK aJ (by rw [<-hO.1,wZ.1,Bool.and_false])];exact ⟨by simp,M.1.below⟩
   go_wp2_with (first
   |((first|with_reducible refine gB ?_ | with_reducible refine gA ?_);refine cx rfl M.1 ?_;clear M C;intro g W M C;simp only [ah] at C)
   |((with_reducible refine cv ?_);refine fZ rfl rfl M.1 cl.1 ?_)
   |((with_reducible refine da ?_);refine dv rfl rfl rfl M.1 ?_;clear M C;intro W M C;simp only [ah] at C)
   |((with_reducible refine cv ?_);refine dV rfl rfl M.1 ?_)
   |(go_at_call 92;refine hd M.1 (MI p _ s _ t _ _ (cN.bH M.1.below cR.1) (cS.bH M.1.below c8.1) (eV.bH M.1.below jf.1) vU.1) lS.1 ?_;clear M C;intro W M C;simp only [ah] at C)
   |(go_at_call 93;refine hd M.1 (S2 p _ s _ t _ _ (cN.bH M.1.below cR.1) (cS.bH M.1.below c8.1) (eV.bH M.1.below jf.1) ea.1 cT.1 (zb lS.1).body (zb lS.1).aR) wZ.1 ?_;clear M C;intro W M C;simp only [ah] at C))
   go_roundw
   case rel=>exact ⟨k+1,by omega,by go_num,⟨fun i aa=>by rcases Nat.lt_or_ge i k with h | h;exact du.1 i h;obtain rfl:i=k:=(by omega);rw [<-hO.1];exact ⟨lS.1,wZ.1⟩⟩,⟨M.1.pop⟩⟩
   case measure=>simp [intOf];omega
  ·obtain rfl:k=s.tasks.length:=by omega
   have VW:av (hH s.tasks.length (fun i=>pf p s (aD s.tasks i) && oG p s (aD s.tasks i))=true):=⟨hv.2 fun i aa=>by rw [(du.1 i aa).1,(du.1 i aa).2];rfl⟩;have s1:¬ (s.tasks.length:Int) < (s.tasks.length:Int):=by omega
   go_wp2_with fail
   clear s1 nv aJ;obtain ⟨L,fg,fh⟩:=ba.named M;go_loopw [7,68] (fun _ j af=>∃ k:Nat,k<=s.tasks.length/\j= .int .i64 k/\av (∀ i,i < k->ka s i=true/\td p s i=true)/\av (ba w af L)) (fun _ j _=>s.tasks.length - (intOf j).toNat)
   case atStart=>exact ⟨0,Nat.zero_le _,rfl,⟨fun i aa=>by omega⟩,fh⟩
   case round=>
    obtain ⟨k,nv,rfl,BS,M2⟩:=hrel;have tL:=fg.1;subst tL;clear M C fh fg;have M:=M2;clear M2;have C:=M.1.aw;simp only [ah] at C;by_cases aJ:k < s.tasks.length
    ·have bz:(0:Int)<=(k:Int):=by omega
     have b7:(k:Int) < (s.tasks.length:Int):=by omega
     have Hw:=am (zb (du.1 k aJ).1);obtain ⟨f1,gq⟩:∃ b,ka s k=b:=⟨_,rfl⟩;obtain ⟨f2,jm⟩:∃ b,td p s k=b:=⟨_,rfl⟩;have lS:=am gq;have wZ:=am jm;clear gq jm;cases f1
     ·go_wp2_with (first
      |((with_reducible refine cv ?_);refine dV rfl rfl M.1 ?_)
      |(go_at_call 94;refine hd M.1 (Mw s _ k _ (cS.bH M.1.below c8.1) aJ eD) lS.1 ?_;clear M C;intro W M C;simp only [ah] at C))
      go_ret;rw [bX.1,show (hH s.tasks.length (fun i=>ka s i && td p s i))=false from hK aJ (by rw [lS.1,Bool.false_and])];exact ⟨by simp,M.1.below⟩
     cases f2
     ·go_wp2_with (first
      |((with_reducible refine cv ?_);refine dV rfl rfl M.1 ?_)
      |(go_at_call 94;refine hd M.1 (Mw s _ k _ (cS.bH M.1.below c8.1) aJ eD) lS.1 ?_;clear M C;intro W M C;simp only [ah] at C)
      |(go_at_call 95;refine hd M.1 (Sy p _ s _ k _ (cN.bH M.1.below cR.1) (cS.bH M.1.below c8.1) ea.1 aJ eD Hw.1.body Hw.1.aR) wZ.1 ?_;clear M C;intro W M C;simp only [ah] at C))
      go_ret;rw [bX.1,show (hH s.tasks.length (fun i=>ka s i && td p s i))=false from hK aJ (by rw [wZ.1,Bool.and_false])];exact ⟨by simp,M.1.below⟩
     go_wp2_with (first
     |((with_reducible refine cv ?_);refine dV rfl rfl M.1 ?_)
     |(go_at_call 94;refine hd M.1 (Mw s _ k _ (cS.bH M.1.below c8.1) aJ eD) lS.1 ?_;clear M C;intro W M C;simp only [ah] at C)
     |(go_at_call 95;refine hd M.1 (Sy p _ s _ k _ (cN.bH M.1.below cR.1) (cS.bH M.1.below c8.1) ea.1 aJ eD Hw.1.body Hw.1.aR) wZ.1 ?_;clear M C;intro W M C;simp only [ah] at C))
     go_roundw
     case rel=>exact ⟨k+1,by omega,by go_num,⟨fun i aa=>by rcases Nat.lt_or_ge i k with h | h;exact BS.1 i h;obtain rfl:i=k:=(by omega);exact ⟨lS.1,wZ.1⟩⟩,M⟩
     case measure=>simp [intOf];omega
    ·obtain rfl:k=s.tasks.length:=by omega
     have Ko:av (hH s.tasks.length (fun i=>ka s i && td p s i)=true):=⟨hv.2 fun i aa=>by rw [(BS.1 i aa).1,(BS.1 i aa).2];rfl⟩;have s1:¬ (s.tasks.length:Int) < (s.tasks.length:Int):=by omega
     obtain ⟨f1,gq⟩:∃ b,vv s=b:=⟨_,rfl⟩;have lS:=am gq;clear gq;cases f1
     all_goals
      go_wp2_with (first
      |((with_reducible refine cv ?_);refine dV rfl rfl M.1 ?_)
      |(go_at_call 96;refine hd M.1 (abX s _ _ (cS.bH M.1.below c8.1) eD cK.1.cells (fun i aa=>⟨(zb (du.1 i aa).1).ai,(cK.1.task i aa).2.2.2,(Mc (du.1 i aa).2).1,(Mc (du.1 i aa).2).2⟩)) lS.1 ?_;clear M C;intro W M C;simp only [ah] at C)
      |(go_at_call 97;refine hd M.1 (abj p _ s _ _ (cN.bH M.1.below cR.1) (cS.bH M.1.below c8.1) cK.1.log (fun i aa=>(zb (du.1 i aa).1).body) cK.1.kX) rfl ?_;clear M C;intro W M C;simp only [ah] at C))
      go_ret;rw [bX.1,VW.1,Ko.1,lS.1];exact ⟨by simp,M.1.below⟩
theorem Md {p:Prog} {s:Sys} {i:Nat} (I:wy s (kids s.tasks i) (kids s.tasks i).length=gu s.tasks i 0+gu s.tasks i 1+gu s.tasks i 2+gu s.tasks i 3):
  (pf p s (aD s.tasks i)=true/\oG p s (aD s.tasks i)=true/\ka s i=true/\td p s i=true) ↔ qu p s i=true:=by
 unfold qu td we;simp only [I];generalize gu s.tasks i 0+gu s.tasks i 1+gu s.tasks i 2+gu s.tasks i 3=lB;generalize ka s i=u;generalize aD s.tasks i=t;unfold pf oG oc;generalize bo p.an t.body.toNat=cq;generalize actAt cq t.aR.toNat=a;generalize my t.aL 3=hq;generalize my t.bE 3=pZ;generalize hJ t.reads s.cells.length=fU;generalize hJ t.ai s.cells.length=qV;unfold pO FL ln rr bF;by_cases aq:t.aE=0
 ·simp only [aq,if_true,if_false,Bool.and_eq_true,Bool.or_eq_true,Bool.not_eq_true',decide_eq_true_eq,decide_eq_false_iff_not,beq_iff_eq]
  by_cases w0:t.a7=0
  ·simp [w0];grind
  ·by_cases w1:t.a7=1
   ·simp [w1];grind
   ·by_cases b':t.a7=2
    ·simp [b'];grind
    ·simp [w0,w1,b'];grind
 ·by_cases w0:t.a7=0
  ·by_cases h1:t.aE=1
   ·simp [h1,w0];grind
   ·by_cases ar:t.aE=2
    ·simp [ar,w0];grind
    ·by_cases aA:t.aE=3
     ·simp [aA,w0];grind
     ·by_cases bR:t.aE=4
      ·simp [bR,w0];grind
      ·by_cases br:t.aE=5
       ·simp [br,w0];grind
       ·simp [aq,h1,ar,aA,bR,br,w0];grind
  ·simp [aq,w0]
theorem SA {f g:Nat->Bool}:∀ {n:Nat},(∀ i,i < n->f i=g i)->lr f n=lr g n
 | 0,_=>rfl
 | n+1,h=>by
  unfold lr;rw [SA (fun i aa=>h i (by omega)),h n (by omega)]
theorem X2 {xs cH:List Int} {j:Nat} (h:j < xs.length):rd (xs ++ cH) (j:Int)=rd xs (j:Int):=by
 simp [rd,List.getD_eq_getElem?_getD,List.getElem?_append_left h]
theorem RH (p:Nat->Bool) (f:Int->Bool):∀ n:Nat,lr (fun j=>f (rd (lO p n) (j:Int))) (lO p n).length=lr (fun k=>p k && f (k:Int)) n
 | 0=>rfl
 | n+1=>by
  have fI:=RH p f n
  cases aB:p n with
  | false=>
   rw [F' aB,fI];show _=lr _ n+_
   simp [aB]
  | true=>
   rw [Iw aB,List.length_append];show lr _ (lO p n).length+(if _ then 1 else 0)=lr _ n+(if _ then 1 else 0);rw [SA (g:=fun j=>f (rd (lO p n) (j:Int))) (fun j aI=>by rw [X2 aI]),fI];have:rd (lO p n ++ [(n:Int)]) ((lO p n).length:Int)=(n:Int):=by simp [rd]
   simp [this,aB]
theorem Me {s:Sys} (hu:∀ k,k < s.tasks.length->ka s k=true) (hw:∀ k,k < s.tasks.length->0<=(aD s.tasks k).a7/\(aD s.tasks k).a7<=4) (i:Nat):
  wy s (kids s.tasks i) (kids s.tasks i).length=gu s.tasks i 0+gu s.tasks i 1+gu s.tasks i 2+gu s.tasks i 3:=by
 unfold wy kids;rw [RH (n9 s.tasks i) (fun x=> !decide ((aD s.tasks x.toNat).a7=4))];unfold gu
 have key:∀ n,n<=s.tasks.length->lr (fun k=>n9 s.tasks i k && !decide ((aD s.tasks (k:Int).toNat).a7=4)) n=
   lr (fun k=>decide ((aD s.tasks k).up=i) && decide ((aD s.tasks k).a7=0)) n+lr (fun k=>decide ((aD s.tasks k).up=i) && decide ((aD s.tasks k).a7=1)) n+
   lr (fun k=>decide ((aD s.tasks k).up=i) && decide ((aD s.tasks k).a7=2)) n+lr (fun k=>decide ((aD s.tasks k).up=i) && decide ((aD s.tasks k).a7=3)) n:=by
  intro n
  induction n with
  | zero=>intro _;rfl
  | succ n fI=>
   intro aS;unfold lr;rw [fI (by omega)];have h1:=hu n (by omega);have ar:=hw n (by omega);unfold ka at h1;unfold n9;simp only [Int.toNat_natCast];by_cases ow:(aD s.tasks n).up=(i:Int)
   ·have aJ:(i:Int) < (n:Int):=by
     simp only [ow] at h1;split at h1
     ·simp at h1
     ·simp only [Bool.and_eq_true,e0] at h1;omega
    simp only [ow,aJ,decide_true,Bool.and_true,Bool.true_and,show (0:Int)<=(i:Int) by omega];rcases (show (aD s.tasks n).a7=0\/(aD s.tasks n).a7=1\/(aD s.tasks n).a7=2\/(aD s.tasks n).a7=3\/(aD s.tasks n).a7=4 by omega) with h | h | h | h | h <;> simp [h] <;> omega
   ·simp [ow]
 exact key _ (Nat.le_refl _)
theorem Ri (p:Prog) (s:Sys):HW p s=jh p s:=by
 rw [Bool.eq_iff_iff]
 have BK:(∀ i,i < s.tasks.length->pf p s (aD s.tasks i)=true/\oG p s (aD s.tasks i)=true)/\(∀ i,i < s.tasks.length->ka s i=true/\td p s i=true) ↔ ∀ i,i < s.tasks.length->qu p s i=true:=by
  constructor
  ·rintro ⟨h1,ar⟩ i aa
   refine (Md (Me (fun k J=>(ar k J).1) (fun k J=> ?_) i)).1 ⟨(h1 i aa).1,(h1 i aa).2,(ar i aa).1,(ar i aa).2⟩
   have:=(h1 k J).1
   unfold pf at this;simp only [Bool.and_eq_true,Bool.not_eq_true',decide_eq_false_iff_not] at this;omega
  ·intro h
   have hu:∀ k,k < s.tasks.length->ka s k=true/\(0<=(aD s.tasks k).a7/\(aD s.tasks k).a7<=4):=fun k J=>by
    have:=h k J
    unfold qu at this;simp only [Bool.and_eq_true,e0] at this;grind
   exact ⟨fun i aa=>have:=(Md (Me (fun k J=>(hu k J).1) (fun k J=>(hu k J).2) i)).2 (h i aa);⟨this.1,this.2.1⟩,fun i aa=>have:=(Md (Me (fun k J=>(hu k J).1) (fun k J=>(hu k J).2) i)).2 (h i aa);this.2.2⟩
 have gw:(∀ i,i < s.tasks.length->pf p s (aD s.tasks i)=true/\oG p s (aD s.tasks i)=true)->(xO s=true/\vv s=true ↔ nI s=true):=by
  intro h;rw [aaq (fun i aa=>(zb (h i aa).1).ai) (fun i aa=>(Mc (h i aa).2).1)];unfold xO nI;simp only [hv,Bool.and_eq_true,e0,decide_eq_true_eq];constructor
  ·rintro ⟨h1,ar⟩ i aa
   refine ⟨⟨⟨(h1 i aa).1,(h1 i aa).2⟩,(ar i aa).1⟩,fun k J=> ?_⟩;rw [Bool.eq_iff_iff,(ar i aa).2 k J,decide_eq_true_eq]
  ·intro ar
   refine ⟨fun i aa=>(ar i aa).1.1,fun i aa=>⟨(ar i aa).1.2,fun k J=> ?_⟩⟩;rw [(ar i aa).2 k J,decide_eq_true_eq]
 have ke:A3 p s=mU p s:=by
  unfold A3 mU logAt rr bF
  congr 1
  funext i
  rw [Bool.eq_iff_iff];simp only [Bool.and_eq_true,Bool.not_eq_true',decide_eq_true_eq,decide_eq_false_iff_not];grind
 unfold HW jh;simp only [ke,Bool.and_eq_true,Bool.not_eq_true',decide_eq_true_eq,decide_eq_false_iff_not,beq_iff_eq,hv,e0];constructor
 ·rintro ⟨⟨⟨⟨⟨⟨⟨⟨⟨⟨a,b⟩,c⟩,d⟩,e⟩,f⟩,g⟩,h⟩,i⟩,j⟩,k⟩
  exact ⟨⟨⟨⟨⟨⟨a,by omega⟩,by omega⟩,by omega⟩,BK.1 ⟨h,i⟩⟩,(gw h).1 ⟨e,j⟩⟩,k⟩
 ·rintro ⟨⟨⟨⟨⟨⟨a,b⟩,c⟩,d⟩,e⟩,f⟩,g⟩
  obtain ⟨h,i⟩:=BK.2 e;obtain ⟨x,y⟩:=(gw h).2 f;exact ⟨⟨⟨⟨⟨⟨⟨⟨⟨⟨a,by omega⟩,by omega⟩,by omega⟩,x⟩,by omega⟩,by omega⟩,h⟩,i⟩,y⟩,g⟩
theorem ba.copied {w W W1:World} {l:eM} {own:Nat->Nat} {s:Sys} {aG aZ aP:Value} (M:ba w W l) (I:Below W.heap.size W W1) (dm:b8 W.heap.size own s aG aZ aP W1):ba w W1 (.r (wo own) (fL w.heap.size own s aG aZ aP) :: l):=
 M.row I (fun k J=>⟨Nat.le_of_not_lt fun aJ=>J (dm.low k aJ),Nat.lt_of_not_le fun hle=>J (dm.dk k hle)⟩) FW (dm.lower M.below.size)
theorem ba.YA {w W:World} {b1 eg:kk} {l:eM} (h:ba w W (b1 :: eg :: l)):ba w W [b1,eg]:=by
 have ha:=h.apart;rw [List.pairwise_cons] at ha;refine ⟨h.below, ?_,fun e he=>h.fresh e (by simp at he;rcases he with rfl|rfl <;> simp),by simpa using ha.1 eg (by simp)⟩;have ak:=h.eU;cases b1 <;> cases eg <;> exact ⟨ak.1,ak.2.1,trivial⟩
def Lc (w:World) (p:Prog) (s:Sys) (g:Nat) (af:World):Prop:=∃ own bh a8 aG aZ aP,cN.K w p [bh,a8]/\ba w af [.b g #[bh,a8,aG,aZ,.int .i64 s.clock,aP] 81,.r (wo own) (fL w.heap.size own s aG aZ aP)]
theorem SB (p:Prog) (bK:List Value) (s:Sys) (c6:List Value) (a:Addr) (w:World) (aB:cN.K w p bK) (hs:cS.K w s c6) (iz:jI p) (cP:oC s) (he:w.cell? ⟨0,0,none⟩=some (.iface 187 (.pointer (some a)))) (aT:jh p s=true):
  Calls Tryz.prog 43 #[.agg bK.toArray,.agg c6.toArray] w fun e af=>∃ g,e= .returned (.tuple #[.pointer (some ⟨g,0,none⟩),.nilIface])/\Lc w p s g af:=by
 have cR:=am aB;have c8:=am hs;obtain ⟨ek,ey,g0,er,rfl,-⟩:=jk aB;obtain ⟨cX,bL,dX,cu,cU,bO,rfl,-⟩:=gX hs;have ea:=am iz;have cK:=am cP;have jr:=am aT;have M:=am (ba.nil w);have C:=M.1.aw;replace M:=am (M.1.cB he);clear C;have C:=M.1.aw;simp only [ah] at C;clear aB hs he aT;go_enter Tryz.func43,Tryz.ntmps43
 go_wp2_with (first
 |((first|with_reducible refine gB ?_ | with_reducible refine gA ?_);refine cx rfl M.1 ?_;clear M C;intro g W M C;simp only [ah] at C)
 |((with_reducible refine cv ?_);refine dV rfl rfl M.1 ?_)
 |(go_at_call 61;refine hd M.1 (SQ p _ s _ _ (cN.bH M.1.below cR.1) (cS.bH M.1.below c8.1) ea.1 cK.1) ((Ri p s).trans jr.1) ?_;clear M C;intro W M C;simp only [ah] at C))
 refine ot [] (fun _ h=>h) M.1 ?_;clear M C;intro W M;refine jO [0,1] M.1 ?_;refine sE rfl rfl ?_;refine sE rfl rfl ?_;refine bN ?_;have C:=M.1.aw;simp only [ah] at C;refine ir 2 rfl ?_
 go_wp2_with (first
 |(go_at_call 62;refine (abW s _ _ (cS.bH M.1.below c8.1) cK.1.cells cK.1.tasks cK.1.log (fun i aa=>cK.1.task i aa) (fun i aa=>cK.1.kX i aa)).mono ?_;rintro e W1 ⟨own,aG,aZ,aP,rfl,dm,I⟩;obtain ⟨a0,d0,rfl⟩:=Kd.bt dm.cells;obtain ⟨jN,hq,d1,rfl⟩:=dm.slice3;obtain ⟨a3,d3,rfl⟩:=Kd.bt dm.log;replace M:=am (M.1.copied I dm);clear C;have C:=M.1.aw;simp only [ah] at C;clear I dm))
 refine g3 M.1.pop ?_
 try refine fF ?_
 refine jO [3] M.1.pop ?_
 (first|refine cc rfl ?_|refine ch rfl ?_|refine cj rfl ?_|refine cE rfl ?_)
 refine bN ?_;refine ir 4 rfl ?_
 go_wp2_with (first
 |((first|with_reducible refine gB ?_ | with_reducible refine gA ?_);refine cx rfl M.1 ?_;clear M C;intro g W M C;simp only [ah] at C))
 refine g3 M.1.pop.pop ?_
 try refine fF ?_
 refine jO [5,6] M.1.pop.pop ?_
 (first|refine cc rfl ?_|refine ch rfl ?_|refine cj rfl ?_|refine cE rfl ?_)
 (first|refine cc rfl ?_|refine ch rfl ?_|refine cj rfl ?_|refine cE rfl ?_)
 refine bN ?_;refine mf ?_
 go_wp2_with (first
  | fail)
 go_ret2;exact ⟨_,rfl,own,_,_,_,_,_,cR.1,M.1.YA⟩
theorem abl (p:Prog) (bK:List Value) (s:Sys) (c6:List Value) (a:Addr) (w:World) (aB:cN.K w p bK) (hs:cS.K w s c6) (iz:jI p) (cP:oC s) (he:w.cell? ⟨0,0,none⟩=some (.iface 187 (.pointer (some a)))) (aT:jh p s=false):
  Calls Tryz.prog 43 #[.agg bK.toArray,.agg c6.toArray] w fun e af=>e= .returned (.tuple #[.pointer none,.iface 187 (.pointer (some a))])/\Below w.heap.size w af:=by
 have cR:=am aB;have c8:=am hs;obtain ⟨ek,ey,g0,er,rfl,-⟩:=jk aB;obtain ⟨cX,bL,dX,cu,cU,bO,rfl,-⟩:=gX hs;have ea:=am iz;have cK:=am cP;have jr:=am aT;have M:=am (ba.nil w);have C:=M.1.aw;replace M:=am (M.1.cB he);clear C;have C:=M.1.aw;simp only [ah] at C;clear aB hs he aT;go_enter Tryz.func43,Tryz.ntmps43
 go_wp2_with (first
 |((first|with_reducible refine gB ?_ | with_reducible refine gA ?_);refine cx rfl M.1 ?_;clear M C;intro g W M C;simp only [ah] at C)
 |((with_reducible refine cv ?_);refine dV rfl rfl M.1 ?_)
 |(go_at_call 61;refine hd M.1 (SQ p _ s _ _ (cN.bH M.1.below cR.1) (cS.bH M.1.below c8.1) ea.1 cK.1) ((Ri p s).trans jr.1) ?_;clear M C;intro W M C;simp only [ah] at C))
 refine ot [] (fun _ h=>h) M.1 ?_;clear M C;intro W M;refine jO [0,1,2] M.1 ?_;(first|refine cc rfl ?_|refine ch rfl ?_|refine cj rfl ?_|refine cE rfl ?_);(first|refine cc rfl ?_|refine ch rfl ?_|refine cj rfl ?_|refine cE rfl ?_);(first|refine cc rfl ?_|refine ch rfl ?_|refine cj rfl ?_|refine cE rfl ?_);refine bN ?_;refine mf ?_
 go_wp2_with (first
  | fail)
 go_ret2;exact ⟨rfl,M.1.below⟩
end Go.Proofs.YteajdhhmkjblnaaGreatDoor.Eq


