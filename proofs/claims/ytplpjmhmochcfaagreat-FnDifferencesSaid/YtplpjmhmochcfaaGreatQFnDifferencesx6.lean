/- Written by a program of this session (the kit's printer, with leaf contracts proved by hand put in): what each Go function computes, and that the call computes it. No condition but those that each theorem names. -/
import Derived.Test.YtplpjmhmochcfaaGreatQFnDifferencesx0
import Derived.Test.YtplpjmhmochcfaaGreatQFnDifferencesx2
import Derived.Test.YtplpjmhmochcfaaGreatQFnDifferencesx5
namespace Go.Proofs.YtplpjmhmochcfaaGreat.QFnDifferences
open Go.RowKit Go.Proofs.YtplpjmhmochcfaaGreatW.PrintWords Go.Proofs.YtplpjmhmochcfaaGreatW.PrintLast Go.Proofs.YtplpjmhmochcfaaGreatW.PrintMore
attribute [local go_sem] max2_int min2_int max_two min_two max_three min_three max_four min_four   -- for this text's walks alone
set_option linter.unusedVariables false
set_option linter.unusedSimpArgs false

/-! ### spec_l1Cur_anyHole: function 61 -/
def spec_l1Cur_anyHole.f (s0_0:List Int) (s0_1:Int) (s0_2:Int):Option (Int×Int×Int×Int×Int):=(spec_l1Cur_hole.f s0_0 s0_1 s0_2).bind fun bt250=>((spec_l1Cur_pick.f s0_0 bt250.2.2.2.1 bt250.2.2.2.2 24).bind fun bt256=>(if bt256.1=0 then((spec_l1Cur_among.f s0_0 bt256.2.1 bt256.2.2 (([(-1),19,20]:List Int))).bind fun bt262=>(some (bt262.1,bt250.2.1,bt250.2.2.1,bt262.2.1,bt262.2.2))) else(if bt256.1=1 then((spec_l1Cur_among.f s0_0 bt256.2.1 bt256.2.2 (([(-1),bt250.2.2.1]:List Int))).bind fun bt268=>(some (bt250.1,bt268.1,bt250.2.2.1,bt268.2.1,bt268.2.2))) else(if bt256.1=2 then((spec_l1Cur_among.f s0_0 bt256.2.1 bt256.2.2 (([bt250.2.1,2000,2001]:List Int))).bind fun bt274=>(some (bt250.1,bt250.2.1,bt274.1,bt274.2.1,bt274.2.2))) else(some (bt250.1,bt250.2.1,bt250.2.2.1,bt256.2.1,bt256.2.2))))))
set_option maxHeartbeats 8000000 in
set_option maxRecDepth 100000 in
theorem spec_l1Cur_anyHole.calls (g:Nat) (s0_0:List Int) (s0_1:Int) (s0_2:Int) (r1:Int) (r2:Int) (r3:Int) (r4:Int) (r5:Int) (w0 w:World) (hI:IsS69 w0 w g s0_0 s0_1 s0_2) (hB:Below w0.heap.size w0 w) (h:spec_l1Cur_anyHole.f s0_0 s0_1 s0_2=some (r1,r2,r3,r4,r5)) :
 Calls Tryz.prog 61 #[.pointer (some ⟨g,0,none⟩)] w fun e w'=>e = .returned (.agg #[.int .i64 r1, .int .i64 r2, .int .i64 r3])∧IsS69 w0 w' g s0_0 r4 r5∧Below w0.heap.size w0 w'∧KeepBut w w' g none:=by
 have hu40:=Tryz.underlying40
 have HI0:=am_ hI
 have HK:=am_ (KeepBut.refl w g none)
 have HL:=am_ hB.size
 clear hI
 have HW0:=am_ hB.size
 have HB:=am_ hB
 clear hB
 have H:((spec_l1Cur_hole.f s0_0 s0_1 s0_2).bind fun bt250=>((spec_l1Cur_pick.f s0_0 bt250.2.2.2.1 bt250.2.2.2.2 24).bind fun bt256=>(if bt256.1=0 then((spec_l1Cur_among.f s0_0 bt256.2.1 bt256.2.2 (([(-1),19,20]:List Int))).bind fun bt262=>(some (bt262.1,bt250.2.1,bt250.2.2.1,bt262.2.1,bt262.2.2))) else(if bt256.1=1 then((spec_l1Cur_among.f s0_0 bt256.2.1 bt256.2.2 (([(-1),bt250.2.2.1]:List Int))).bind fun bt268=>(some (bt250.1,bt268.1,bt250.2.2.1,bt268.2.1,bt268.2.2))) else(if bt256.1=2 then((spec_l1Cur_among.f s0_0 bt256.2.1 bt256.2.2 (([bt250.2.1,2000,2001]:List Int))).bind fun bt274=>(some (bt250.1,bt250.2.1,bt274.1,bt274.2.1,bt274.2.2))) else(some (bt250.1,bt250.2.1,bt250.2.2.1,bt256.2.1,bt256.2.2)))))))=some (r1,r2,r3,r4,r5):=h
 clear h
 obtain⟨⟨t250,t251,t252,t253,t254⟩,A2,H⟩:=bo_ H
 try dsimp only at H
 obtain⟨⟨t256,t257,t258⟩,A3,H⟩:=bo_ H
 try dsimp only at H
 by_cases c4:t256=0
 ·rw[if_pos c4]at H
  have c4b0:(t256 == 0)=true:=beq_iff_eq.mpr c4
  have c4b1:(t256 != 0)=false:=bne_eq_false_iff_eq.mpr c4
  clear c4
  obtain⟨y259,hy259⟩:∃y_:List Int,y_=(([(-1),19,20]:List Int)):=⟨_,rfl⟩
  replace H:((spec_l1Cur_among.f s0_0 t257 t258 y259).bind fun bt262=>(some (bt262.1,t251,t252,bt262.2.1,bt262.2.2)))=some (r1,r2,r3,r4,r5):=by first|(rw[hy259];with_reducible exact H)|(have H2_:=(Option.bind_some _ _).symm.trans H;rw[hy259];with_reducible exact H2_)|(have H2_:=(Option.bind_some _ _).symm.trans H;with_reducible exact H2_) | with_reducible exact H|(rw[hy259];exact H)|exact H
  have Ny259:=am_ hy259
  clear hy259
  obtain⟨⟨t262,t263,t264⟩,A5,H⟩:=bo_ H
  try dsimp only at H
  simp only[Option.some.injEq,Prod.mk.injEq]at H
  obtain⟨rfl,rfl,rfl,rfl,rfl⟩:=H
  go_enter Tryz.func61,Tryz.ntmps61
  go_wp2_with (first|((with_reducible refine gate_dst (N:=2) rfl ?_);refine box_event ?hg (N:=2) ?hd (cs:= #[.int .i64 0, .int .i64 0, .int .i64 0]) (t:=40) ?hr ?_;(case hd=>rfl);(case hg=>rfl);(case hr=>exact hr_);intro gb249 hg w6 hbox hb;replace HB:=am_ (below_step ((a3_ HI0.out)) hb);have BK249:=am_ (hbox);have GW249:=am_ ((by rw[hg];exact(keep_size (w:=w) (g:=g) (row:=none) (a7_)):w.heap.size≤gb249));have GE249:=am_ ((Nat.le_trans HW0.out (by rw[hg];exact(keep_size (w:=w) (g:=g) (row:=none) (a7_)):w.heap.size≤gb249):w0.heap.size≤gb249));replace HK:=am_ (KeepBut.trans (a7_) (KeepBut.of_below hb g none) (.inl rfl));have NB0_249:=am_ ((by rw[hg];exact Nat.ne_of_lt (IsS69.lt (show IsS69 w0 _ g s0_0 s0_1 s0_2 from(a2_ HI0.out))):g≠gb249));have NB249_0:=am_ ((by rw[hg];exact Nat.ne_of_gt (IsS69.lt (show IsS69 w0 _ g s0_0 s0_1 s0_2 from(a2_ HI0.out))):gb249≠g));replace HI0:=am_ (IsS69.below ((a2_ HI0.out)) hb);clear hb hbox hg)|((with_reducible refine gate_callee (f:=87) rfl ?_);refine goesL_ (some 5) rfl rfl Tryz.func87 (by kernel_rfl) rfl #[.pointer (some ⟨g,0,none⟩)] rfl gd_ ?_;(with_reducible refine(spec_l1Cur_hole.calls g s0_0 s0_1 s0_2 t250 t251 t252 t253 t254 w0 _ ?side1 ?side2 A2.out).mono ?_);(case side1=>exact(a9_ HI0.out NB0_249.out));(case side2=>exact(a18_ HI0.out GE249.out));rintro e w7 ⟨rfl,hi,hb,hk⟩;refine⟨_,rfl,?_⟩;replace BK249:=am_ (KeepBut.blk hk (g':=gb249) (o:= .cells #[.int .i64 0, .int .i64 0, .int .i64 0] 40 (0,0)) ((a5_ BK249.out)) NB249_0.out (by simp));replace HK:=am_ (KeepBut.trans ((a16_ GW249.out)) hk (.inl rfl));replace HB:=am_ (hb);replace HI0:=am_ (hi);(try clear hb);(try clear hb2);(try clear hk);(try clear hi))|((with_reducible refine gate_dst (N:=3) rfl ?_);refine box_event ?hg (N:=3) ?hd (cs:= #[.int .i64 0, .int .i64 0, .int .i64 0]) (t:=40) ?hr ?_;(case hd=>rfl);(case hg=>rfl);(case hr=>exact hr_);intro gb255 hg w8 hbox hb;replace HB:=am_ (below_step ((a18_ HI0.out GE249.out)) hb);have BK255:=am_ (hbox);have GW255:=am_ ((by rw[hg];exact(keep_size (w:=w) (g:=g) (row:=none) ((a16_ GW249.out))):w.heap.size≤gb255));have GE255:=am_ ((Nat.le_trans HW0.out (by rw[hg];exact(keep_size (w:=w) (g:=g) (row:=none) ((a16_ GW249.out))):w.heap.size≤gb255):w0.heap.size≤gb255));replace HK:=am_ (KeepBut.trans ((a16_ GW249.out)) (KeepBut.of_below hb g none) (.inl rfl));have NB249_255:=am_ ((by rw[hg];exact Nat.ne_of_lt (blk_lt (g:=gb249) (o:= .cells #[.int .i64 0, .int .i64 0, .int .i64 0] 40 (0,0)) ((a5_ BK249.out))):gb249≠gb255));have NB255_249:=am_ ((by rw[hg];exact Nat.ne_of_gt (blk_lt (g:=gb249) (o:= .cells #[.int .i64 0, .int .i64 0, .int .i64 0] 40 (0,0)) ((a5_ BK249.out))):gb255≠gb249));replace BK249:=am_ (blk_below (g:=gb249) (o:= .cells #[.int .i64 0, .int .i64 0, .int .i64 0] 40 (0,0)) ((a5_ BK249.out)) hb);have NB0_255:=am_ ((by rw[hg];exact Nat.ne_of_lt (IsS69.lt (show IsS69 w0 _ g s0_0 t253 t254 from(a9_ HI0.out NB0_249.out))):g≠gb255));have NB255_0:=am_ ((by rw[hg];exact Nat.ne_of_gt (IsS69.lt (show IsS69 w0 _ g s0_0 t253 t254 from(a9_ HI0.out NB0_249.out))):gb255≠g));replace HI0:=am_ (IsS69.below ((a9_ HI0.out NB0_249.out)) hb);clear hb hbox hg;have hnb9:=NB255_249.out;have hnc9:=NB249_255.out;have hnb10:=NB255_0.out;have hnc10:=NB0_255.out;have hcz11_0:w8.cell? ⟨gb255,0,none⟩=some (.int .i64 0):=(blk_cell BK255.out 0).trans rfl;have hcz11_1:w8.cell? ⟨gb255,1,none⟩=some (.int .i64 0):=(blk_cell BK255.out 1).trans rfl;have hcz11_2:w8.cell? ⟨gb255,2,none⟩=some (.int .i64 0):=(blk_cell BK255.out 2).trans rfl;have hfz11_0:=blk_frozen BK255.out 0;have hfz11_1:=blk_frozen BK255.out 1;have hfz11_2:=blk_frozen BK255.out 2)|((with_reducible refine gate_callee (f:=55) rfl ?_);refine goesL_ (some 7) rfl rfl Tryz.func55 (by kernel_rfl) rfl #[.pointer (some ⟨g,0,none⟩), .int .i64 24] rfl gd_ ?_;(with_reducible refine(spec_l1Cur_pick.calls g s0_0 t253 t254 24 t256 t257 t258 w0 _ ?side1 ?side2 A3.out).mono ?_);(case side1=>exact(a11_ HI0.out NB0_249.out NB0_255.out));(case side2=>exact(a21_ HI0.out GE249.out GE255.out));rintro e w12 ⟨rfl,hi,hb,hk⟩;refine⟨_,rfl,?_⟩;replace BK249:=am_ (KeepBut.blk hk (g':=gb249) (o:= .cells #[.int .i64 0, .int .i64 0, .int .i64 0] 40 (0,0)) ((a17_ NB249_255.out BK249.out)) NB249_0.out (by simp));replace BK255:=am_ (KeepBut.blk hk (g':=gb255) (o:= .cells #[.int .i64 t250, .int .i64 t251, .int .i64 t252] 40 (0,0)) ((a19_ BK255.out)) NB255_0.out (by simp));replace HK:=am_ (KeepBut.trans ((a20_ GW249.out GW255.out)) hk (.inl rfl));replace HB:=am_ (hb);replace HI0:=am_ (hi);(try clear hb);(try clear hb2);(try clear hk);(try clear hi))|((with_reducible refine gate_dst (N:=11) rfl ?_);refine Kd.R_lit (Kd.int .i64) _ 3 ?hg (N:=11) ?hd (xs:=([(-1),19,20]:List Int)) (inner:=[.int .i64 (-1), .int .i64 19, .int .i64 20]) (ok:=fun _=>True) (okp:=fun _=>True) ?hr ?hp (fun _ hk=>hk) trivial (Below.refl _ _) (Nat.le_refl _) (by simp) ?_;(case hd=>rfl);(case hg=>rfl);(case hr=>exact hr_);(case hp=>exact(Reps.one (show Kd.M (Kd.int .i64) _ _ _ (-1) [.int .i64 (-1)] from rfl) (Reps.one (show Kd.M (Kd.int .i64) _ _ _ 19 [.int .i64 19] from rfl) (Reps.one (show Kd.M (Kd.int .i64) _ _ _ 20 [.int .i64 20] from rfl) (Reps.none _ _)))));intro v260 w13 ho14 hb hg_ hnew_;clear hg_ hnew_;(first|rw[← Ny259.out]at ho14|(simp only[Int.reduceToNat]at ho14;rw[← Ny259.out]at ho14));have HO261:=am_ (Kd.R_lower ho14 (keep_size (w:=w) (g:=g) (row:=none) ((a20_ GW249.out GW255.out))));replace BK249:=am_ (blk_below (g:=gb249) (o:= .cells #[.int .i64 0, .int .i64 0, .int .i64 0] 40 (0,0)) ((a5_ BK249.out)) hb);replace BK255:=am_ (blk_below (g:=gb255) (o:= .cells #[.int .i64 t250, .int .i64 t251, .int .i64 t252] 40 (0,0)) ((a5_ BK255.out)) hb);replace HK:=am_ (KeepBut.trans ((a20_ GW249.out GW255.out)) (KeepBut.of_below hb g none) (.inl rfl));replace HB:=am_ (below_step ((a21_ HI0.out GE249.out GE255.out)) hb);replace HI0:=am_ (IsS69.below ((a11_ HI0.out NB0_249.out NB0_255.out)) hb);clear hb ho14;obtain⟨Ao15,co15,eo15⟩:=Kd.R_slice HO261.out;subst eo15)|((with_reducible refine gate_callee (f:=56) rfl ?_);refine goesL_ (some 12) rfl rfl Tryz.func56 (by kernel_rfl) rfl #[.pointer (some ⟨g,0,none⟩), .slice Ao15 y259.length co15] rfl gd_ ?_;(with_reducible refine(spec_l1Cur_among.calls g s0_0 t257 t258 _ _ y259 t262 t263 t264 w0 _ ?side1 ?side2 ?side3 ?side4 ?side5 A5.out).mono ?_);(case side1=>exact(a11_ HI0.out NB0_249.out NB0_255.out));(case side2=>exact(a21_ HI0.out GE249.out GE255.out));(case side3=>exact(a8_ HO261.out));(case side4=>exact(Kd.R_reads' HO261.out).2.1);(case side5=>exact far_slice (IsS69.own_ne HI0.out HO261.out (by decide)));rintro e w16 ⟨rfl,hi,hb,hk⟩;refine⟨_,rfl,?_⟩;replace BK249:=am_ (KeepBut.blk hk (g':=gb249) (o:= .cells #[.int .i64 0, .int .i64 0, .int .i64 0] 40 (0,0)) ((a5_ BK249.out)) NB249_0.out (by simp));replace BK255:=am_ (KeepBut.blk hk (g':=gb255) (o:= .cells #[.int .i64 t250, .int .i64 t251, .int .i64 t252] 40 (0,0)) ((a5_ BK255.out)) NB255_0.out (by simp));replace HO261:=am_ (Kd.R_mono (Kd.R_keep (IsS69.apart (show IsS69 w0 _ g s0_0 t257 t258 from(a11_ HI0.out NB0_249.out NB0_255.out)) ((a0_ HO261.out)) (by decide)) hk (fun _ h=>h.2)) (fun _ h=>h.1));replace HK:=am_ (KeepBut.trans ((a20_ GW249.out GW255.out)) hk (.inl rfl));replace HB:=am_ (hb);replace HI0:=am_ (hi);(try clear hb);(try clear hb2);(try clear hk);(try clear hi);have hcz17_0:w16.cell? ⟨gb255,0,none⟩=some (.int .i64 t250):=(blk_cell BK255.out 0).trans rfl;have hcz17_1:w16.cell? ⟨gb255,1,none⟩=some (.int .i64 t251):=(blk_cell BK255.out 1).trans rfl;have hcz17_2:w16.cell? ⟨gb255,2,none⟩=some (.int .i64 t252):=(blk_cell BK255.out 2).trans rfl;have hfz17_0:=blk_frozen BK255.out 0;have hfz17_1:=blk_frozen BK255.out 1;have hfz17_2:=blk_frozen BK255.out 2;have hnb18:=NB249_0.out;have hnc18:=NB0_249.out;have hcz19_0:w16.cell? ⟨gb249,0,none⟩=some (.int .i64 0):=(blk_cell BK249.out 0).trans rfl;have hcz19_1:w16.cell? ⟨gb249,1,none⟩=some (.int .i64 0):=(blk_cell BK249.out 1).trans rfl;have hcz19_2:w16.cell? ⟨gb249,2,none⟩=some (.int .i64 0):=(blk_cell BK249.out 2).trans rfl;have hfz19_0:=blk_frozen BK249.out 0;have hfz19_1:=blk_frozen BK249.out 1;have hfz19_2:=blk_frozen BK249.out 2))
  refine bodyPost_ret (results_cell_row rfl _ _ gb249 40 #[.int .i64 t262, .int .i64 t251, .int .i64 t252] (0,0) _ rfl (by(with_reducible repeat (first|refine blk_drewN ?_ _ | refine blk_drew ?_ | refine blk_alloc ?_ _));refine blk_put (cs:= #[.int .i64 t262, .int .i64 t251, .int .i64 0]) ?_ 2 _ rfl;(with_reducible repeat (first|refine blk_drewN ?_ _ | refine blk_drew ?_ | refine blk_alloc ?_ _));refine blk_put (cs:= #[.int .i64 t262, .int .i64 0, .int .i64 0]) ?_ 1 _ rfl;(with_reducible repeat (first|refine blk_drewN ?_ _ | refine blk_drew ?_ | refine blk_alloc ?_ _));refine blk_put (cs:= #[.int .i64 0, .int .i64 0, .int .i64 0]) ?_ 0 _ rfl;(with_reducible repeat (first|refine blk_drewN ?_ _ | refine blk_drew ?_ | refine blk_alloc ?_ _));refine blk_far ?_ NB249_255.out _;(with_reducible repeat (first|refine blk_drewN ?_ _ | refine blk_drew ?_ | refine blk_alloc ?_ _));exact BK249.out) Tryz.underlying40 rfl (by kernel_rfl)) rfl ?_
  exact⟨a10_,(a11_ HI0.out NB0_249.out NB0_255.out),(a21_ HI0.out GE249.out GE255.out),(a20_ GW249.out GW255.out)⟩
 ·rw[if_neg c4]at H
  have c4b0:(t256 == 0)=false:=beq_eq_false_iff_ne.mpr c4
  have c4b1:(t256 != 0)=true:=bne_iff_ne.mpr c4
  by_cases c20:t256=1
  ·rw[if_pos c20]at H
   have c20b0:(t256 == 1)=true:=beq_iff_eq.mpr c20
   have c20b1:(t256 != 1)=false:=bne_eq_false_iff_eq.mpr c20
   clear c20
   obtain⟨y265,hy265⟩:∃y_:List Int,y_=(([(-1),t252]:List Int)):=⟨_,rfl⟩
   replace H:((spec_l1Cur_among.f s0_0 t257 t258 y265).bind fun bt268=>(some (t250,bt268.1,t252,bt268.2.1,bt268.2.2)))=some (r1,r2,r3,r4,r5):=by first|(rw[hy265];with_reducible exact H)|(have H2_:=(Option.bind_some _ _).symm.trans H;rw[hy265];with_reducible exact H2_)|(have H2_:=(Option.bind_some _ _).symm.trans H;with_reducible exact H2_) | with_reducible exact H|(rw[hy265];exact H)|exact H
   have Ny265:=am_ hy265
   clear hy265
   obtain⟨⟨t268,t269,t270⟩,A21,H⟩:=bo_ H
   try dsimp only at H
   simp only[Option.some.injEq,Prod.mk.injEq]at H
   obtain⟨rfl,rfl,rfl,rfl,rfl⟩:=H
   go_enter Tryz.func61,Tryz.ntmps61
   go_wp2_with (first|((with_reducible refine gate_dst (N:=2) rfl ?_);refine box_event ?hg (N:=2) ?hd (cs:= #[.int .i64 0, .int .i64 0, .int .i64 0]) (t:=40) ?hr ?_;(case hd=>rfl);(case hg=>rfl);(case hr=>exact hr_);intro gb249 hg w22 hbox hb;replace HB:=am_ (below_step ((a3_ HI0.out)) hb);have BK249:=am_ (hbox);have GW249:=am_ ((by rw[hg];exact(keep_size (w:=w) (g:=g) (row:=none) (a7_)):w.heap.size≤gb249));have GE249:=am_ ((Nat.le_trans HW0.out (by rw[hg];exact(keep_size (w:=w) (g:=g) (row:=none) (a7_)):w.heap.size≤gb249):w0.heap.size≤gb249));replace HK:=am_ (KeepBut.trans (a7_) (KeepBut.of_below hb g none) (.inl rfl));have NB0_249:=am_ ((by rw[hg];exact Nat.ne_of_lt (IsS69.lt (show IsS69 w0 _ g s0_0 s0_1 s0_2 from(a2_ HI0.out))):g≠gb249));have NB249_0:=am_ ((by rw[hg];exact Nat.ne_of_gt (IsS69.lt (show IsS69 w0 _ g s0_0 s0_1 s0_2 from(a2_ HI0.out))):gb249≠g));replace HI0:=am_ (IsS69.below ((a2_ HI0.out)) hb);clear hb hbox hg)|((with_reducible refine gate_callee (f:=87) rfl ?_);refine goesL_ (some 5) rfl rfl Tryz.func87 (by kernel_rfl) rfl #[.pointer (some ⟨g,0,none⟩)] rfl gd_ ?_;(with_reducible refine(spec_l1Cur_hole.calls g s0_0 s0_1 s0_2 t250 t251 t252 t253 t254 w0 _ ?side1 ?side2 A2.out).mono ?_);(case side1=>exact(a9_ HI0.out NB0_249.out));(case side2=>exact(a18_ HI0.out GE249.out));rintro e w23 ⟨rfl,hi,hb,hk⟩;refine⟨_,rfl,?_⟩;replace BK249:=am_ (KeepBut.blk hk (g':=gb249) (o:= .cells #[.int .i64 0, .int .i64 0, .int .i64 0] 40 (0,0)) ((a5_ BK249.out)) NB249_0.out (by simp));replace HK:=am_ (KeepBut.trans ((a16_ GW249.out)) hk (.inl rfl));replace HB:=am_ (hb);replace HI0:=am_ (hi);(try clear hb);(try clear hb2);(try clear hk);(try clear hi))|((with_reducible refine gate_dst (N:=3) rfl ?_);refine box_event ?hg (N:=3) ?hd (cs:= #[.int .i64 0, .int .i64 0, .int .i64 0]) (t:=40) ?hr ?_;(case hd=>rfl);(case hg=>rfl);(case hr=>exact hr_);intro gb255 hg w24 hbox hb;replace HB:=am_ (below_step ((a18_ HI0.out GE249.out)) hb);have BK255:=am_ (hbox);have GW255:=am_ ((by rw[hg];exact(keep_size (w:=w) (g:=g) (row:=none) ((a16_ GW249.out))):w.heap.size≤gb255));have GE255:=am_ ((Nat.le_trans HW0.out (by rw[hg];exact(keep_size (w:=w) (g:=g) (row:=none) ((a16_ GW249.out))):w.heap.size≤gb255):w0.heap.size≤gb255));replace HK:=am_ (KeepBut.trans ((a16_ GW249.out)) (KeepBut.of_below hb g none) (.inl rfl));have NB249_255:=am_ ((by rw[hg];exact Nat.ne_of_lt (blk_lt (g:=gb249) (o:= .cells #[.int .i64 0, .int .i64 0, .int .i64 0] 40 (0,0)) ((a5_ BK249.out))):gb249≠gb255));have NB255_249:=am_ ((by rw[hg];exact Nat.ne_of_gt (blk_lt (g:=gb249) (o:= .cells #[.int .i64 0, .int .i64 0, .int .i64 0] 40 (0,0)) ((a5_ BK249.out))):gb255≠gb249));replace BK249:=am_ (blk_below (g:=gb249) (o:= .cells #[.int .i64 0, .int .i64 0, .int .i64 0] 40 (0,0)) ((a5_ BK249.out)) hb);have NB0_255:=am_ ((by rw[hg];exact Nat.ne_of_lt (IsS69.lt (show IsS69 w0 _ g s0_0 t253 t254 from(a9_ HI0.out NB0_249.out))):g≠gb255));have NB255_0:=am_ ((by rw[hg];exact Nat.ne_of_gt (IsS69.lt (show IsS69 w0 _ g s0_0 t253 t254 from(a9_ HI0.out NB0_249.out))):gb255≠g));replace HI0:=am_ (IsS69.below ((a9_ HI0.out NB0_249.out)) hb);clear hb hbox hg;have hnb25:=NB255_249.out;have hnc25:=NB249_255.out;have hnb26:=NB255_0.out;have hnc26:=NB0_255.out;have hcz27_0:w24.cell? ⟨gb255,0,none⟩=some (.int .i64 0):=(blk_cell BK255.out 0).trans rfl;have hcz27_1:w24.cell? ⟨gb255,1,none⟩=some (.int .i64 0):=(blk_cell BK255.out 1).trans rfl;have hcz27_2:w24.cell? ⟨gb255,2,none⟩=some (.int .i64 0):=(blk_cell BK255.out 2).trans rfl;have hfz27_0:=blk_frozen BK255.out 0;have hfz27_1:=blk_frozen BK255.out 1;have hfz27_2:=blk_frozen BK255.out 2)|((with_reducible refine gate_callee (f:=55) rfl ?_);refine goesL_ (some 7) rfl rfl Tryz.func55 (by kernel_rfl) rfl #[.pointer (some ⟨g,0,none⟩), .int .i64 24] rfl gd_ ?_;(with_reducible refine(spec_l1Cur_pick.calls g s0_0 t253 t254 24 t256 t257 t258 w0 _ ?side1 ?side2 A3.out).mono ?_);(case side1=>exact(a11_ HI0.out NB0_249.out NB0_255.out));(case side2=>exact(a21_ HI0.out GE249.out GE255.out));rintro e w28 ⟨rfl,hi,hb,hk⟩;refine⟨_,rfl,?_⟩;replace BK249:=am_ (KeepBut.blk hk (g':=gb249) (o:= .cells #[.int .i64 0, .int .i64 0, .int .i64 0] 40 (0,0)) ((a17_ NB249_255.out BK249.out)) NB249_0.out (by simp));replace BK255:=am_ (KeepBut.blk hk (g':=gb255) (o:= .cells #[.int .i64 t250, .int .i64 t251, .int .i64 t252] 40 (0,0)) ((a19_ BK255.out)) NB255_0.out (by simp));replace HK:=am_ (KeepBut.trans ((a20_ GW249.out GW255.out)) hk (.inl rfl));replace HB:=am_ (hb);replace HI0:=am_ (hi);(try clear hb);(try clear hb2);(try clear hk);(try clear hi);have hcz29_0:w28.cell? ⟨gb255,0,none⟩=some (.int .i64 t250):=(blk_cell BK255.out 0).trans rfl;have hcz29_1:w28.cell? ⟨gb255,1,none⟩=some (.int .i64 t251):=(blk_cell BK255.out 1).trans rfl;have hcz29_2:w28.cell? ⟨gb255,2,none⟩=some (.int .i64 t252):=(blk_cell BK255.out 2).trans rfl;have hfz29_0:=blk_frozen BK255.out 0;have hfz29_1:=blk_frozen BK255.out 1;have hfz29_2:=blk_frozen BK255.out 2)|((with_reducible refine gate_dst (N:=19) rfl ?_);refine Kd.R_lit (Kd.int .i64) _ 3 ?hg (N:=19) ?hd (xs:=([(-1),t252]:List Int)) (inner:=[.int .i64 (-1), .int .i64 t252]) (ok:=fun _=>True) (okp:=fun _=>True) ?hr ?hp (fun _ hk=>hk) trivial (Below.refl _ _) (Nat.le_refl _) (by simp) ?_;(case hd=>rfl);(case hg=>rfl);(case hr=>exact hr_);(case hp=>exact(Reps.one (show Kd.M (Kd.int .i64) _ _ _ (-1) [.int .i64 (-1)] from rfl) (Reps.one (show Kd.M (Kd.int .i64) _ _ _ t252 [.int .i64 t252] from rfl) (Reps.none _ _))));intro v266 w30 ho31 hb hg_ hnew_;clear hg_ hnew_;(first|rw[← Ny265.out]at ho31|(simp only[Int.reduceToNat]at ho31;rw[← Ny265.out]at ho31));have HO267:=am_ (Kd.R_lower ho31 (keep_size (w:=w) (g:=g) (row:=none) ((a20_ GW249.out GW255.out))));replace BK249:=am_ (blk_below (g:=gb249) (o:= .cells #[.int .i64 0, .int .i64 0, .int .i64 0] 40 (0,0)) ((a5_ BK249.out)) hb);replace BK255:=am_ (blk_below (g:=gb255) (o:= .cells #[.int .i64 t250, .int .i64 t251, .int .i64 t252] 40 (0,0)) ((a5_ BK255.out)) hb);replace HK:=am_ (KeepBut.trans ((a20_ GW249.out GW255.out)) (KeepBut.of_below hb g none) (.inl rfl));replace HB:=am_ (below_step ((a21_ HI0.out GE249.out GE255.out)) hb);replace HI0:=am_ (IsS69.below ((a11_ HI0.out NB0_249.out NB0_255.out)) hb);clear hb ho31;obtain⟨Ao32,co32,eo32⟩:=Kd.R_slice HO267.out;subst eo32)|((with_reducible refine gate_callee (f:=56) rfl ?_);refine goesL_ (some 20) rfl rfl Tryz.func56 (by kernel_rfl) rfl #[.pointer (some ⟨g,0,none⟩), .slice Ao32 y265.length co32] rfl gd_ ?_;(with_reducible refine(spec_l1Cur_among.calls g s0_0 t257 t258 _ _ y265 t268 t269 t270 w0 _ ?side1 ?side2 ?side3 ?side4 ?side5 A21.out).mono ?_);(case side1=>exact(a11_ HI0.out NB0_249.out NB0_255.out));(case side2=>exact(a21_ HI0.out GE249.out GE255.out));(case side3=>exact(a8_ HO267.out));(case side4=>exact(Kd.R_reads' HO267.out).2.1);(case side5=>exact far_slice (IsS69.own_ne HI0.out HO267.out (by decide)));rintro e w33 ⟨rfl,hi,hb,hk⟩;refine⟨_,rfl,?_⟩;replace BK249:=am_ (KeepBut.blk hk (g':=gb249) (o:= .cells #[.int .i64 0, .int .i64 0, .int .i64 0] 40 (0,0)) ((a5_ BK249.out)) NB249_0.out (by simp));replace BK255:=am_ (KeepBut.blk hk (g':=gb255) (o:= .cells #[.int .i64 t250, .int .i64 t251, .int .i64 t252] 40 (0,0)) ((a5_ BK255.out)) NB255_0.out (by simp));replace HO267:=am_ (Kd.R_mono (Kd.R_keep (IsS69.apart (show IsS69 w0 _ g s0_0 t257 t258 from(a11_ HI0.out NB0_249.out NB0_255.out)) ((a0_ HO267.out)) (by decide)) hk (fun _ h=>h.2)) (fun _ h=>h.1));replace HK:=am_ (KeepBut.trans ((a20_ GW249.out GW255.out)) hk (.inl rfl));replace HB:=am_ (hb);replace HI0:=am_ (hi);(try clear hb);(try clear hb2);(try clear hk);(try clear hi);have hcz34_0:w33.cell? ⟨gb255,0,none⟩=some (.int .i64 t250):=(blk_cell BK255.out 0).trans rfl;have hcz34_1:w33.cell? ⟨gb255,1,none⟩=some (.int .i64 t251):=(blk_cell BK255.out 1).trans rfl;have hcz34_2:w33.cell? ⟨gb255,2,none⟩=some (.int .i64 t252):=(blk_cell BK255.out 2).trans rfl;have hfz34_0:=blk_frozen BK255.out 0;have hfz34_1:=blk_frozen BK255.out 1;have hfz34_2:=blk_frozen BK255.out 2;have hnb35:=NB249_0.out;have hnc35:=NB0_249.out;have hcz36_0:w33.cell? ⟨gb249,0,none⟩=some (.int .i64 0):=(blk_cell BK249.out 0).trans rfl;have hcz36_1:w33.cell? ⟨gb249,1,none⟩=some (.int .i64 0):=(blk_cell BK249.out 1).trans rfl;have hcz36_2:w33.cell? ⟨gb249,2,none⟩=some (.int .i64 0):=(blk_cell BK249.out 2).trans rfl;have hfz36_0:=blk_frozen BK249.out 0;have hfz36_1:=blk_frozen BK249.out 1;have hfz36_2:=blk_frozen BK249.out 2))
   refine bodyPost_ret (results_cell_row rfl _ _ gb249 40 #[.int .i64 t250, .int .i64 t268, .int .i64 t252] (0,0) _ rfl (by(with_reducible repeat (first|refine blk_drewN ?_ _ | refine blk_drew ?_ | refine blk_alloc ?_ _));refine blk_put (cs:= #[.int .i64 t250, .int .i64 t268, .int .i64 0]) ?_ 2 _ rfl;(with_reducible repeat (first|refine blk_drewN ?_ _ | refine blk_drew ?_ | refine blk_alloc ?_ _));refine blk_put (cs:= #[.int .i64 t250, .int .i64 0, .int .i64 0]) ?_ 1 _ rfl;(with_reducible repeat (first|refine blk_drewN ?_ _ | refine blk_drew ?_ | refine blk_alloc ?_ _));refine blk_put (cs:= #[.int .i64 0, .int .i64 0, .int .i64 0]) ?_ 0 _ rfl;(with_reducible repeat (first|refine blk_drewN ?_ _ | refine blk_drew ?_ | refine blk_alloc ?_ _));refine blk_far ?_ NB249_255.out _;(with_reducible repeat (first|refine blk_drewN ?_ _ | refine blk_drew ?_ | refine blk_alloc ?_ _));exact BK249.out) Tryz.underlying40 rfl (by kernel_rfl)) rfl ?_
   exact⟨a10_,(a11_ HI0.out NB0_249.out NB0_255.out),(a21_ HI0.out GE249.out GE255.out),(a20_ GW249.out GW255.out)⟩
  ·rw[if_neg c20]at H
   have c20b0:(t256 == 1)=false:=beq_eq_false_iff_ne.mpr c20
   have c20b1:(t256 != 1)=true:=bne_iff_ne.mpr c20
   by_cases c37:t256=2
   ·rw[if_pos c37]at H
    have c37b0:(t256 == 2)=true:=beq_iff_eq.mpr c37
    have c37b1:(t256 != 2)=false:=bne_eq_false_iff_eq.mpr c37
    clear c37
    obtain⟨y271,hy271⟩:∃y_:List Int,y_=(([t251,2000,2001]:List Int)):=⟨_,rfl⟩
    replace H:((spec_l1Cur_among.f s0_0 t257 t258 y271).bind fun bt274=>(some (t250,t251,bt274.1,bt274.2.1,bt274.2.2)))=some (r1,r2,r3,r4,r5):=by first|(rw[hy271];with_reducible exact H)|(have H2_:=(Option.bind_some _ _).symm.trans H;rw[hy271];with_reducible exact H2_)|(have H2_:=(Option.bind_some _ _).symm.trans H;with_reducible exact H2_) | with_reducible exact H|(rw[hy271];exact H)|exact H
    have Ny271:=am_ hy271
    clear hy271
    obtain⟨⟨t274,t275,t276⟩,A38,H⟩:=bo_ H
    try dsimp only at H
    simp only[Option.some.injEq,Prod.mk.injEq]at H
    obtain⟨rfl,rfl,rfl,rfl,rfl⟩:=H
    go_enter Tryz.func61,Tryz.ntmps61
    go_wp2_with (first|((with_reducible refine gate_dst (N:=2) rfl ?_);refine box_event ?hg (N:=2) ?hd (cs:= #[.int .i64 0, .int .i64 0, .int .i64 0]) (t:=40) ?hr ?_;(case hd=>rfl);(case hg=>rfl);(case hr=>exact hr_);intro gb249 hg w39 hbox hb;replace HB:=am_ (below_step ((a3_ HI0.out)) hb);have BK249:=am_ (hbox);have GW249:=am_ ((by rw[hg];exact(keep_size (w:=w) (g:=g) (row:=none) (a7_)):w.heap.size≤gb249));have GE249:=am_ ((Nat.le_trans HW0.out (by rw[hg];exact(keep_size (w:=w) (g:=g) (row:=none) (a7_)):w.heap.size≤gb249):w0.heap.size≤gb249));replace HK:=am_ (KeepBut.trans (a7_) (KeepBut.of_below hb g none) (.inl rfl));have NB0_249:=am_ ((by rw[hg];exact Nat.ne_of_lt (IsS69.lt (show IsS69 w0 _ g s0_0 s0_1 s0_2 from(a2_ HI0.out))):g≠gb249));have NB249_0:=am_ ((by rw[hg];exact Nat.ne_of_gt (IsS69.lt (show IsS69 w0 _ g s0_0 s0_1 s0_2 from(a2_ HI0.out))):gb249≠g));replace HI0:=am_ (IsS69.below ((a2_ HI0.out)) hb);clear hb hbox hg)|((with_reducible refine gate_callee (f:=87) rfl ?_);refine goesL_ (some 5) rfl rfl Tryz.func87 (by kernel_rfl) rfl #[.pointer (some ⟨g,0,none⟩)] rfl gd_ ?_;(with_reducible refine(spec_l1Cur_hole.calls g s0_0 s0_1 s0_2 t250 t251 t252 t253 t254 w0 _ ?side1 ?side2 A2.out).mono ?_);(case side1=>exact(a9_ HI0.out NB0_249.out));(case side2=>exact(a18_ HI0.out GE249.out));rintro e w40 ⟨rfl,hi,hb,hk⟩;refine⟨_,rfl,?_⟩;replace BK249:=am_ (KeepBut.blk hk (g':=gb249) (o:= .cells #[.int .i64 0, .int .i64 0, .int .i64 0] 40 (0,0)) ((a5_ BK249.out)) NB249_0.out (by simp));replace HK:=am_ (KeepBut.trans ((a16_ GW249.out)) hk (.inl rfl));replace HB:=am_ (hb);replace HI0:=am_ (hi);(try clear hb);(try clear hb2);(try clear hk);(try clear hi))|((with_reducible refine gate_dst (N:=3) rfl ?_);refine box_event ?hg (N:=3) ?hd (cs:= #[.int .i64 0, .int .i64 0, .int .i64 0]) (t:=40) ?hr ?_;(case hd=>rfl);(case hg=>rfl);(case hr=>exact hr_);intro gb255 hg w41 hbox hb;replace HB:=am_ (below_step ((a18_ HI0.out GE249.out)) hb);have BK255:=am_ (hbox);have GW255:=am_ ((by rw[hg];exact(keep_size (w:=w) (g:=g) (row:=none) ((a16_ GW249.out))):w.heap.size≤gb255));have GE255:=am_ ((Nat.le_trans HW0.out (by rw[hg];exact(keep_size (w:=w) (g:=g) (row:=none) ((a16_ GW249.out))):w.heap.size≤gb255):w0.heap.size≤gb255));replace HK:=am_ (KeepBut.trans ((a16_ GW249.out)) (KeepBut.of_below hb g none) (.inl rfl));have NB249_255:=am_ ((by rw[hg];exact Nat.ne_of_lt (blk_lt (g:=gb249) (o:= .cells #[.int .i64 0, .int .i64 0, .int .i64 0] 40 (0,0)) ((a5_ BK249.out))):gb249≠gb255));have NB255_249:=am_ ((by rw[hg];exact Nat.ne_of_gt (blk_lt (g:=gb249) (o:= .cells #[.int .i64 0, .int .i64 0, .int .i64 0] 40 (0,0)) ((a5_ BK249.out))):gb255≠gb249));replace BK249:=am_ (blk_below (g:=gb249) (o:= .cells #[.int .i64 0, .int .i64 0, .int .i64 0] 40 (0,0)) ((a5_ BK249.out)) hb);have NB0_255:=am_ ((by rw[hg];exact Nat.ne_of_lt (IsS69.lt (show IsS69 w0 _ g s0_0 t253 t254 from(a9_ HI0.out NB0_249.out))):g≠gb255));have NB255_0:=am_ ((by rw[hg];exact Nat.ne_of_gt (IsS69.lt (show IsS69 w0 _ g s0_0 t253 t254 from(a9_ HI0.out NB0_249.out))):gb255≠g));replace HI0:=am_ (IsS69.below ((a9_ HI0.out NB0_249.out)) hb);clear hb hbox hg;have hnb42:=NB255_249.out;have hnc42:=NB249_255.out;have hnb43:=NB255_0.out;have hnc43:=NB0_255.out;have hcz44_0:w41.cell? ⟨gb255,0,none⟩=some (.int .i64 0):=(blk_cell BK255.out 0).trans rfl;have hcz44_1:w41.cell? ⟨gb255,1,none⟩=some (.int .i64 0):=(blk_cell BK255.out 1).trans rfl;have hcz44_2:w41.cell? ⟨gb255,2,none⟩=some (.int .i64 0):=(blk_cell BK255.out 2).trans rfl;have hfz44_0:=blk_frozen BK255.out 0;have hfz44_1:=blk_frozen BK255.out 1;have hfz44_2:=blk_frozen BK255.out 2)|((with_reducible refine gate_callee (f:=55) rfl ?_);refine goesL_ (some 7) rfl rfl Tryz.func55 (by kernel_rfl) rfl #[.pointer (some ⟨g,0,none⟩), .int .i64 24] rfl gd_ ?_;(with_reducible refine(spec_l1Cur_pick.calls g s0_0 t253 t254 24 t256 t257 t258 w0 _ ?side1 ?side2 A3.out).mono ?_);(case side1=>exact(a11_ HI0.out NB0_249.out NB0_255.out));(case side2=>exact(a21_ HI0.out GE249.out GE255.out));rintro e w45 ⟨rfl,hi,hb,hk⟩;refine⟨_,rfl,?_⟩;replace BK249:=am_ (KeepBut.blk hk (g':=gb249) (o:= .cells #[.int .i64 0, .int .i64 0, .int .i64 0] 40 (0,0)) ((a17_ NB249_255.out BK249.out)) NB249_0.out (by simp));replace BK255:=am_ (KeepBut.blk hk (g':=gb255) (o:= .cells #[.int .i64 t250, .int .i64 t251, .int .i64 t252] 40 (0,0)) ((a19_ BK255.out)) NB255_0.out (by simp));replace HK:=am_ (KeepBut.trans ((a20_ GW249.out GW255.out)) hk (.inl rfl));replace HB:=am_ (hb);replace HI0:=am_ (hi);(try clear hb);(try clear hb2);(try clear hk);(try clear hi);have hcz46_0:w45.cell? ⟨gb255,0,none⟩=some (.int .i64 t250):=(blk_cell BK255.out 0).trans rfl;have hcz46_1:w45.cell? ⟨gb255,1,none⟩=some (.int .i64 t251):=(blk_cell BK255.out 1).trans rfl;have hcz46_2:w45.cell? ⟨gb255,2,none⟩=some (.int .i64 t252):=(blk_cell BK255.out 2).trans rfl;have hfz46_0:=blk_frozen BK255.out 0;have hfz46_1:=blk_frozen BK255.out 1;have hfz46_2:=blk_frozen BK255.out 2)|((with_reducible refine gate_dst (N:=27) rfl ?_);refine Kd.R_lit (Kd.int .i64) _ 3 ?hg (N:=27) ?hd (xs:=([t251,2000,2001]:List Int)) (inner:=[.int .i64 t251, .int .i64 2000, .int .i64 2001]) (ok:=fun _=>True) (okp:=fun _=>True) ?hr ?hp (fun _ hk=>hk) trivial (Below.refl _ _) (Nat.le_refl _) (by simp) ?_;(case hd=>rfl);(case hg=>rfl);(case hr=>exact hr_);(case hp=>exact(Reps.one (show Kd.M (Kd.int .i64) _ _ _ t251 [.int .i64 t251] from rfl) (Reps.one (show Kd.M (Kd.int .i64) _ _ _ 2000 [.int .i64 2000] from rfl) (Reps.one (show Kd.M (Kd.int .i64) _ _ _ 2001 [.int .i64 2001] from rfl) (Reps.none _ _)))));intro v272 w47 ho48 hb hg_ hnew_;clear hg_ hnew_;(first|rw[← Ny271.out]at ho48|(simp only[Int.reduceToNat]at ho48;rw[← Ny271.out]at ho48));have HO273:=am_ (Kd.R_lower ho48 (keep_size (w:=w) (g:=g) (row:=none) ((a20_ GW249.out GW255.out))));replace BK249:=am_ (blk_below (g:=gb249) (o:= .cells #[.int .i64 0, .int .i64 0, .int .i64 0] 40 (0,0)) ((a5_ BK249.out)) hb);replace BK255:=am_ (blk_below (g:=gb255) (o:= .cells #[.int .i64 t250, .int .i64 t251, .int .i64 t252] 40 (0,0)) ((a5_ BK255.out)) hb);replace HK:=am_ (KeepBut.trans ((a20_ GW249.out GW255.out)) (KeepBut.of_below hb g none) (.inl rfl));replace HB:=am_ (below_step ((a21_ HI0.out GE249.out GE255.out)) hb);replace HI0:=am_ (IsS69.below ((a11_ HI0.out NB0_249.out NB0_255.out)) hb);clear hb ho48;obtain⟨Ao49,co49,eo49⟩:=Kd.R_slice HO273.out;subst eo49)|((with_reducible refine gate_callee (f:=56) rfl ?_);refine goesL_ (some 28) rfl rfl Tryz.func56 (by kernel_rfl) rfl #[.pointer (some ⟨g,0,none⟩), .slice Ao49 y271.length co49] rfl gd_ ?_;(with_reducible refine(spec_l1Cur_among.calls g s0_0 t257 t258 _ _ y271 t274 t275 t276 w0 _ ?side1 ?side2 ?side3 ?side4 ?side5 A38.out).mono ?_);(case side1=>exact(a11_ HI0.out NB0_249.out NB0_255.out));(case side2=>exact(a21_ HI0.out GE249.out GE255.out));(case side3=>exact(a8_ HO273.out));(case side4=>exact(Kd.R_reads' HO273.out).2.1);(case side5=>exact far_slice (IsS69.own_ne HI0.out HO273.out (by decide)));rintro e w50 ⟨rfl,hi,hb,hk⟩;refine⟨_,rfl,?_⟩;replace BK249:=am_ (KeepBut.blk hk (g':=gb249) (o:= .cells #[.int .i64 0, .int .i64 0, .int .i64 0] 40 (0,0)) ((a5_ BK249.out)) NB249_0.out (by simp));replace BK255:=am_ (KeepBut.blk hk (g':=gb255) (o:= .cells #[.int .i64 t250, .int .i64 t251, .int .i64 t252] 40 (0,0)) ((a5_ BK255.out)) NB255_0.out (by simp));replace HO273:=am_ (Kd.R_mono (Kd.R_keep (IsS69.apart (show IsS69 w0 _ g s0_0 t257 t258 from(a11_ HI0.out NB0_249.out NB0_255.out)) ((a0_ HO273.out)) (by decide)) hk (fun _ h=>h.2)) (fun _ h=>h.1));replace HK:=am_ (KeepBut.trans ((a20_ GW249.out GW255.out)) hk (.inl rfl));replace HB:=am_ (hb);replace HI0:=am_ (hi);(try clear hb);(try clear hb2);(try clear hk);(try clear hi);have hcz51_0:w50.cell? ⟨gb255,0,none⟩=some (.int .i64 t250):=(blk_cell BK255.out 0).trans rfl;have hcz51_1:w50.cell? ⟨gb255,1,none⟩=some (.int .i64 t251):=(blk_cell BK255.out 1).trans rfl;have hcz51_2:w50.cell? ⟨gb255,2,none⟩=some (.int .i64 t252):=(blk_cell BK255.out 2).trans rfl;have hfz51_0:=blk_frozen BK255.out 0;have hfz51_1:=blk_frozen BK255.out 1;have hfz51_2:=blk_frozen BK255.out 2;have hnb52:=NB249_0.out;have hnc52:=NB0_249.out;have hcz53_0:w50.cell? ⟨gb249,0,none⟩=some (.int .i64 0):=(blk_cell BK249.out 0).trans rfl;have hcz53_1:w50.cell? ⟨gb249,1,none⟩=some (.int .i64 0):=(blk_cell BK249.out 1).trans rfl;have hcz53_2:w50.cell? ⟨gb249,2,none⟩=some (.int .i64 0):=(blk_cell BK249.out 2).trans rfl;have hfz53_0:=blk_frozen BK249.out 0;have hfz53_1:=blk_frozen BK249.out 1;have hfz53_2:=blk_frozen BK249.out 2))
    refine bodyPost_ret (results_cell_row rfl _ _ gb249 40 #[.int .i64 t250, .int .i64 t251, .int .i64 t274] (0,0) _ rfl (by(with_reducible repeat (first|refine blk_drewN ?_ _ | refine blk_drew ?_ | refine blk_alloc ?_ _));refine blk_put (cs:= #[.int .i64 t250, .int .i64 t251, .int .i64 0]) ?_ 2 _ rfl;(with_reducible repeat (first|refine blk_drewN ?_ _ | refine blk_drew ?_ | refine blk_alloc ?_ _));refine blk_put (cs:= #[.int .i64 t250, .int .i64 0, .int .i64 0]) ?_ 1 _ rfl;(with_reducible repeat (first|refine blk_drewN ?_ _ | refine blk_drew ?_ | refine blk_alloc ?_ _));refine blk_put (cs:= #[.int .i64 0, .int .i64 0, .int .i64 0]) ?_ 0 _ rfl;(with_reducible repeat (first|refine blk_drewN ?_ _ | refine blk_drew ?_ | refine blk_alloc ?_ _));refine blk_far ?_ NB249_255.out _;(with_reducible repeat (first|refine blk_drewN ?_ _ | refine blk_drew ?_ | refine blk_alloc ?_ _));exact BK249.out) Tryz.underlying40 rfl (by kernel_rfl)) rfl ?_
    exact⟨a10_,(a11_ HI0.out NB0_249.out NB0_255.out),(a21_ HI0.out GE249.out GE255.out),(a20_ GW249.out GW255.out)⟩
   ·rw[if_neg c37]at H
    have c37b0:(t256 == 2)=false:=beq_eq_false_iff_ne.mpr c37
    have c37b1:(t256 != 2)=true:=bne_iff_ne.mpr c37
    simp only[Option.some.injEq,Prod.mk.injEq]at H
    obtain⟨rfl,rfl,rfl,rfl,rfl⟩:=H
    go_enter Tryz.func61,Tryz.ntmps61
    go_wp2_with (first|((with_reducible refine gate_dst (N:=2) rfl ?_);refine box_event ?hg (N:=2) ?hd (cs:= #[.int .i64 0, .int .i64 0, .int .i64 0]) (t:=40) ?hr ?_;(case hd=>rfl);(case hg=>rfl);(case hr=>exact hr_);intro gb249 hg w54 hbox hb;replace HB:=am_ (below_step ((a3_ HI0.out)) hb);have BK249:=am_ (hbox);have GW249:=am_ ((by rw[hg];exact(keep_size (w:=w) (g:=g) (row:=none) (a7_)):w.heap.size≤gb249));have GE249:=am_ ((Nat.le_trans HW0.out (by rw[hg];exact(keep_size (w:=w) (g:=g) (row:=none) (a7_)):w.heap.size≤gb249):w0.heap.size≤gb249));replace HK:=am_ (KeepBut.trans (a7_) (KeepBut.of_below hb g none) (.inl rfl));have NB0_249:=am_ ((by rw[hg];exact Nat.ne_of_lt (IsS69.lt (show IsS69 w0 _ g s0_0 s0_1 s0_2 from(a2_ HI0.out))):g≠gb249));have NB249_0:=am_ ((by rw[hg];exact Nat.ne_of_gt (IsS69.lt (show IsS69 w0 _ g s0_0 s0_1 s0_2 from(a2_ HI0.out))):gb249≠g));replace HI0:=am_ (IsS69.below ((a2_ HI0.out)) hb);clear hb hbox hg)|((with_reducible refine gate_callee (f:=87) rfl ?_);refine goesL_ (some 5) rfl rfl Tryz.func87 (by kernel_rfl) rfl #[.pointer (some ⟨g,0,none⟩)] rfl gd_ ?_;(with_reducible refine(spec_l1Cur_hole.calls g s0_0 s0_1 s0_2 t250 t251 t252 t253 t254 w0 _ ?side1 ?side2 A2.out).mono ?_);(case side1=>exact(a9_ HI0.out NB0_249.out));(case side2=>exact(a18_ HI0.out GE249.out));rintro e w55 ⟨rfl,hi,hb,hk⟩;refine⟨_,rfl,?_⟩;replace BK249:=am_ (KeepBut.blk hk (g':=gb249) (o:= .cells #[.int .i64 0, .int .i64 0, .int .i64 0] 40 (0,0)) ((a5_ BK249.out)) NB249_0.out (by simp));replace HK:=am_ (KeepBut.trans ((a16_ GW249.out)) hk (.inl rfl));replace HB:=am_ (hb);replace HI0:=am_ (hi);(try clear hb);(try clear hb2);(try clear hk);(try clear hi))|((with_reducible refine gate_dst (N:=3) rfl ?_);refine box_event ?hg (N:=3) ?hd (cs:= #[.int .i64 0, .int .i64 0, .int .i64 0]) (t:=40) ?hr ?_;(case hd=>rfl);(case hg=>rfl);(case hr=>exact hr_);intro gb255 hg w56 hbox hb;replace HB:=am_ (below_step ((a18_ HI0.out GE249.out)) hb);have BK255:=am_ (hbox);have GW255:=am_ ((by rw[hg];exact(keep_size (w:=w) (g:=g) (row:=none) ((a16_ GW249.out))):w.heap.size≤gb255));have GE255:=am_ ((Nat.le_trans HW0.out (by rw[hg];exact(keep_size (w:=w) (g:=g) (row:=none) ((a16_ GW249.out))):w.heap.size≤gb255):w0.heap.size≤gb255));replace HK:=am_ (KeepBut.trans ((a16_ GW249.out)) (KeepBut.of_below hb g none) (.inl rfl));have NB249_255:=am_ ((by rw[hg];exact Nat.ne_of_lt (blk_lt (g:=gb249) (o:= .cells #[.int .i64 0, .int .i64 0, .int .i64 0] 40 (0,0)) ((a5_ BK249.out))):gb249≠gb255));have NB255_249:=am_ ((by rw[hg];exact Nat.ne_of_gt (blk_lt (g:=gb249) (o:= .cells #[.int .i64 0, .int .i64 0, .int .i64 0] 40 (0,0)) ((a5_ BK249.out))):gb255≠gb249));replace BK249:=am_ (blk_below (g:=gb249) (o:= .cells #[.int .i64 0, .int .i64 0, .int .i64 0] 40 (0,0)) ((a5_ BK249.out)) hb);have NB0_255:=am_ ((by rw[hg];exact Nat.ne_of_lt (IsS69.lt (show IsS69 w0 _ g s0_0 t253 t254 from(a9_ HI0.out NB0_249.out))):g≠gb255));have NB255_0:=am_ ((by rw[hg];exact Nat.ne_of_gt (IsS69.lt (show IsS69 w0 _ g s0_0 t253 t254 from(a9_ HI0.out NB0_249.out))):gb255≠g));replace HI0:=am_ (IsS69.below ((a9_ HI0.out NB0_249.out)) hb);clear hb hbox hg;have hnb57:=NB255_249.out;have hnc57:=NB249_255.out;have hnb58:=NB255_0.out;have hnc58:=NB0_255.out;have hcz59_0:w56.cell? ⟨gb255,0,none⟩=some (.int .i64 0):=(blk_cell BK255.out 0).trans rfl;have hcz59_1:w56.cell? ⟨gb255,1,none⟩=some (.int .i64 0):=(blk_cell BK255.out 1).trans rfl;have hcz59_2:w56.cell? ⟨gb255,2,none⟩=some (.int .i64 0):=(blk_cell BK255.out 2).trans rfl;have hfz59_0:=blk_frozen BK255.out 0;have hfz59_1:=blk_frozen BK255.out 1;have hfz59_2:=blk_frozen BK255.out 2)|((with_reducible refine gate_callee (f:=55) rfl ?_);refine goesL_ (some 7) rfl rfl Tryz.func55 (by kernel_rfl) rfl #[.pointer (some ⟨g,0,none⟩), .int .i64 24] rfl gd_ ?_;(with_reducible refine(spec_l1Cur_pick.calls g s0_0 t253 t254 24 t256 t257 t258 w0 _ ?side1 ?side2 A3.out).mono ?_);(case side1=>exact(a11_ HI0.out NB0_249.out NB0_255.out));(case side2=>exact(a21_ HI0.out GE249.out GE255.out));rintro e w60 ⟨rfl,hi,hb,hk⟩;refine⟨_,rfl,?_⟩;replace BK249:=am_ (KeepBut.blk hk (g':=gb249) (o:= .cells #[.int .i64 0, .int .i64 0, .int .i64 0] 40 (0,0)) ((a17_ NB249_255.out BK249.out)) NB249_0.out (by simp));replace BK255:=am_ (KeepBut.blk hk (g':=gb255) (o:= .cells #[.int .i64 t250, .int .i64 t251, .int .i64 t252] 40 (0,0)) ((a19_ BK255.out)) NB255_0.out (by simp));replace HK:=am_ (KeepBut.trans ((a20_ GW249.out GW255.out)) hk (.inl rfl));replace HB:=am_ (hb);replace HI0:=am_ (hi);(try clear hb);(try clear hb2);(try clear hk);(try clear hi);have hcz61_0:w60.cell? ⟨gb255,0,none⟩=some (.int .i64 t250):=(blk_cell BK255.out 0).trans rfl;have hcz61_1:w60.cell? ⟨gb255,1,none⟩=some (.int .i64 t251):=(blk_cell BK255.out 1).trans rfl;have hcz61_2:w60.cell? ⟨gb255,2,none⟩=some (.int .i64 t252):=(blk_cell BK255.out 2).trans rfl;have hfz61_0:=blk_frozen BK255.out 0;have hfz61_1:=blk_frozen BK255.out 1;have hfz61_2:=blk_frozen BK255.out 2;have hnb62:=NB249_0.out;have hnc62:=NB0_249.out;have hcz63_0:w60.cell? ⟨gb249,0,none⟩=some (.int .i64 0):=(blk_cell BK249.out 0).trans rfl;have hcz63_1:w60.cell? ⟨gb249,1,none⟩=some (.int .i64 0):=(blk_cell BK249.out 1).trans rfl;have hcz63_2:w60.cell? ⟨gb249,2,none⟩=some (.int .i64 0):=(blk_cell BK249.out 2).trans rfl;have hfz63_0:=blk_frozen BK249.out 0;have hfz63_1:=blk_frozen BK249.out 1;have hfz63_2:=blk_frozen BK249.out 2))
    refine bodyPost_ret (results_cell_row rfl _ _ gb249 40 #[.int .i64 t250, .int .i64 t251, .int .i64 t252] (0,0) _ rfl ((a19_ BK249.out)) Tryz.underlying40 rfl (by kernel_rfl)) rfl ?_
    exact⟨a10_,(a11_ HI0.out NB0_249.out NB0_255.out),(a21_ HI0.out GE249.out GE255.out),(a20_ GW249.out GW255.out)⟩

/-! ### spec_l1Cur_anySheet: function 42 -/
def spec_l1Cur_anySheet.l0:Nat→List (S40)→List Int→Int→Int→Option ((List (S40))×Int×Int)
 | 0,_,_,_,_=>none
 | k+1,x3,x1000,x1001,x1002=>if(x3.length:Int)<61 then(if x3.length<5864062014805 then(spec_l1Cur_anySheet.l0 k (x3 ++ [(⟨1,wrap64 (3*(x3.length:Int)),wrap64 ((wrap64 (3*(x3.length:Int)))+1)⟩:S40)]) x1000 x1001 x1002) else(none)) else(some (x3,x1001,x1002))
def spec_l1Cur_anySheet.f (k:Nat) (s0_0:List Int) (s0_1:Int) (s0_2:Int):Option ((List (S40))×Int×Int):=(spec_l1Cur_sheet.f k s0_0 s0_1 s0_2).bind fun bt277=>(if(bt277.1.length:Int)>0 then((spec_l1Cur_pick.f s0_0 bt277.2.1 bt277.2.2 (bt277.1.length:Int)).bind fun bt282=>((spec_l1Cur_pick.f s0_0 bt282.2.1 bt282.2.2 30).bind fun bt285=>(if bt285.1=0 then((spec_l1Cur_anyHole.f s0_0 bt285.2.1 bt285.2.2).bind fun bt288=>(if 0≤bt282.1 then(if bt282.1<(bt277.1.length:Int) then(some ((bt277.1.set (bt282.1:Int).toNat (⟨bt288.1,bt288.2.1,bt288.2.2.1⟩:S40)),bt288.2.2.2.1,bt288.2.2.2.2)) else(none)) else(none))) else(if bt285.1=1 then(if 0≤bt282.1 then(if bt282.1<(bt277.1.length:Int) then(if bt277.1.length<5864062014805 then(some ((bt277.1 ++ [(⟨(rd_T40 bt277.1 bt282.1).f0,(rd_T40 bt277.1 bt282.1).f1,(rd_T40 bt277.1 bt282.1).f2⟩:S40)]),bt285.2.1,bt285.2.2)) else(none)) else(none)) else(none)) else(if bt285.1=2 then(if 0≤bt282.1 then(if bt282.1<(bt277.1.length:Int) then(if bt277.1.length<5864062014805 then(some ((bt277.1 ++ [(⟨(rd_T40 bt277.1 bt282.1).f0,(rd_T40 bt277.1 bt282.1).f2,wrap64 (((rd_T40 bt277.1 bt282.1).f2)+2)⟩:S40)]),bt285.2.1,bt285.2.2)) else(none)) else(none)) else(none)) else(if bt285.1=3 then(spec_l1Cur_anySheet.l0 k ([]:List (S40)) s0_0 bt285.2.1 bt285.2.2) else(some (bt277.1,bt285.2.1,bt285.2.2)))))))) else(some (bt277.1,bt277.2.1,bt277.2.2)))
theorem spec_l1Cur_anySheet.mono_l:∀k,(∀y0 y1 y2 y3,LeO (spec_l1Cur_anySheet.l0 k y0 y1 y2 y3) (spec_l1Cur_anySheet.l0 (k+1) y0 y1 y2 y3))
 | 0=>fun _ _ _ _ r h=>by simp[spec_l1Cur_anySheet.l0]at h
 | k+1=>by
  have ih0:=spec_l1Cur_anySheet.mono_l k
  intros
  unfold spec_l1Cur_anySheet.l0
  rotate_left
  all_goals repeat' first|(with_reducible first|exact ih0 _ _ _ _|exact spec_l1Cur_sheet.mono _ _ _ _|exact LeO.refl _|exact LeO.none _|refine LeO.ite ?_ ?_|refine LeO.bind ?_ (fun _=>?_))|exact ih0 _ _ _ _|exact spec_l1Cur_sheet.mono _ _ _ _|exact LeO.none _|refine LeO.ite ?_ ?_|refine LeO.bind ?_ (fun _=>?_)
theorem spec_l1Cur_anySheet.mono:∀a0 a1 a2 k,LeO (spec_l1Cur_anySheet.f k a0 a1 a2) (spec_l1Cur_anySheet.f (k+1) a0 a1 a2):=by
 intro a0 a1 a2 k
 have ih0:=spec_l1Cur_anySheet.mono_l k
 unfold spec_l1Cur_anySheet.f
 repeat' first
  |(with_reducible exact ih0 _ _ _ _)
  |(with_reducible exact spec_l1Cur_sheet.mono _ _ _ _)
  |(with_reducible exact LeO.refl _)
  |(with_reducible exact LeO.none _)
  |(with_reducible refine LeO.ite ?_ ?_)
  |(with_reducible refine LeO.bind ?_ (fun _=>?_))
  |exact ih0 _ _ _ _
  |exact spec_l1Cur_sheet.mono _ _ _ _
  |exact LeO.none _
   | refine LeO.ite ?_ ?_
   | refine LeO.bind ?_ (fun _=>?_)
def spec_l1Cur_anySheet.T10:Bool×List (List Nat×List Nat):=(true, [([], []),([], []),([], []),([1,2], [1,2]),([3], [3]),([4], [4]),([], []),([], []),([6,7], [6,7]),([8], [8]),([9], [9]),([], []),([], []),([11,12], [11,12]),([13], [13]),([14], [14]),([15], [15]),([5,10,16], [5,10,16]),([17], [17]),([0,18], [0,18]),([19,19,0,1,2,3,4,5,6,7,8,9,10,11,12,13,14,15,16,17,18,19], [0,1,6,11,19])])
def spec_l1Cur_anySheet.B10:List Nat:=[0,0,0,6,14,30,0,0,192,448,960,0,0,6144,14336,30720,63488,131070,262142,524287,1048575]
theorem spec_l1Cur_anySheet.tab10:rtab .any (opsOf Tryz.f42 10)=spec_l1Cur_anySheet.T10:=by kernel_rfl
theorem spec_l1Cur_anySheet.bits10:waitsOk spec_l1Cur_anySheet.T10.2 spec_l1Cur_anySheet.B10=true:=by kernel_rfl
set_option maxHeartbeats 8000000 in
set_option maxRecDepth 100000 in
theorem spec_l1Cur_anySheet.calls (k:Nat) (g:Nat) (s0_0:List Int) (s0_1:Int) (s0_2:Int) (r1:List (S40)) (r2:Int) (r3:Int) (w0 w:World) (hI:IsS69 w0 w g s0_0 s0_1 s0_2) (hB:Below w0.heap.size w0 w) (h:spec_l1Cur_anySheet.f k s0_0 s0_1 s0_2=some (r1,r2,r3)) :
 Calls Tryz.prog 42 #[.pointer (some ⟨g,0,none⟩)] w fun e w'=>∃v0_:Value,e = .returned (v0_)∧Kd.R k40 40 w' w.heap.size (fun _=>True) v0_ r1∧IsS69 w0 w' g s0_0 r2 r3∧Below w0.heap.size w0 w'∧KeepBut w w' g none:=by
 have hu40:=Tryz.underlying40
 have HI0:=am_ hI
 have HK:=am_ (KeepBut.refl w g none)
 have HL:=am_ hB.size
 clear hI
 have HW0:=am_ hB.size
 have HB:=am_ hB
 clear hB
 have H:((spec_l1Cur_sheet.f k s0_0 s0_1 s0_2).bind fun bt277=>(if(bt277.1.length:Int)>0 then((spec_l1Cur_pick.f s0_0 bt277.2.1 bt277.2.2 (bt277.1.length:Int)).bind fun bt282=>((spec_l1Cur_pick.f s0_0 bt282.2.1 bt282.2.2 30).bind fun bt285=>(if bt285.1=0 then((spec_l1Cur_anyHole.f s0_0 bt285.2.1 bt285.2.2).bind fun bt288=>(if 0≤bt282.1 then(if bt282.1<(bt277.1.length:Int) then(some ((bt277.1.set (bt282.1:Int).toNat (⟨bt288.1,bt288.2.1,bt288.2.2.1⟩:S40)),bt288.2.2.2.1,bt288.2.2.2.2)) else(none)) else(none))) else(if bt285.1=1 then(if 0≤bt282.1 then(if bt282.1<(bt277.1.length:Int) then(if bt277.1.length<5864062014805 then(some ((bt277.1 ++ [(⟨(rd_T40 bt277.1 bt282.1).f0,(rd_T40 bt277.1 bt282.1).f1,(rd_T40 bt277.1 bt282.1).f2⟩:S40)]),bt285.2.1,bt285.2.2)) else(none)) else(none)) else(none)) else(if bt285.1=2 then(if 0≤bt282.1 then(if bt282.1<(bt277.1.length:Int) then(if bt277.1.length<5864062014805 then(some ((bt277.1 ++ [(⟨(rd_T40 bt277.1 bt282.1).f0,(rd_T40 bt277.1 bt282.1).f2,wrap64 (((rd_T40 bt277.1 bt282.1).f2)+2)⟩:S40)]),bt285.2.1,bt285.2.2)) else(none)) else(none)) else(none)) else(if bt285.1=3 then(spec_l1Cur_anySheet.l0 k ([]:List (S40)) s0_0 bt285.2.1 bt285.2.2) else(some (bt277.1,bt285.2.1,bt285.2.2)))))))) else(some (bt277.1,bt277.2.1,bt277.2.2))))=some (r1,r2,r3):=h
 clear h
 obtain⟨⟨t277,t280,t281⟩,A2,H⟩:=bo_ H
 try dsimp only at H
 by_cases c3:(t277.length:Int)>0
 ·rw[if_pos c3]at H
  have c3b0:decide (0<(t277.length:Int))=true:=decide_eq_true c3
  have c3b1:decide (0<t277.length)=true:=decide_eq_true (by omega)
  clear c3
  obtain⟨⟨t282,t283,t284⟩,A4,H⟩:=bo_ H
  try dsimp only at H
  obtain⟨⟨t285,t286,t287⟩,A5,H⟩:=bo_ H
  try dsimp only at H
  by_cases c6:t285=0
  ·rw[if_pos c6]at H
   have c6b0:(t285 == 0)=true:=beq_iff_eq.mpr c6
   have c6b1:(t285 != 0)=false:=bne_eq_false_iff_eq.mpr c6
   clear c6
   obtain⟨⟨t288,t289,t290,t291,t292⟩,A7,H⟩:=bo_ H
   try dsimp only at H
   by_cases c8:0≤t282
   ·rw[if_pos c8]at H
    have c8b0:decide (0≤t282)=true:=decide_eq_true c8
    clear c8
    by_cases c9:t282<(t277.length:Int)
    ·rw[if_pos c9]at H
     have c9b0:decide (t282<(t277.length:Int))=true:=decide_eq_true c9
     clear c9
     obtain⟨y293,hy293⟩:∃y_:List (S40),y_=(t277.set (t282:Int).toNat (⟨t288,t289,t290⟩:S40)):=⟨_,rfl⟩
     replace H:(some (y293,t291,t292))=some (r1,r2,r3):=by first|(rw[hy293];with_reducible exact H)|(have H2_:=(Option.bind_some _ _).symm.trans H;rw[hy293];with_reducible exact H2_)|(have H2_:=(Option.bind_some _ _).symm.trans H;with_reducible exact H2_) | with_reducible exact H|(rw[hy293];exact H)|exact H
     have Ny293:=am_ hy293
     clear hy293
     simp only[Option.some.injEq,Prod.mk.injEq]at H
     obtain⟨rfl,rfl,rfl⟩:=H
     go_enter Tryz.func42,Tryz.ntmps42
     go_wp2_with (first|((with_reducible refine gate_callee (f:=60) rfl ?_);refine goesL_ (some 6) rfl rfl Tryz.func60 (by kernel_rfl) rfl #[.pointer (some ⟨g,0,none⟩)] rfl gd_ ?_;(with_reducible refine(spec_l1Cur_sheet.calls k g s0_0 s0_1 s0_2 t277 t280 t281 w0 _ ?side1 ?side2 A2.out).mono ?_);(case side1=>exact(a2_ HI0.out));(case side2=>exact(a3_ HI0.out));rintro e w11 ⟨v278,rfl,ho0,hi,hb,hk⟩;refine⟨_,rfl,?_⟩;have HO279:=am_ (Kd.R_lower ho0 (keep_size (w:=w) (g:=g) (row:=none) (a7_)));replace HK:=am_ (KeepBut.trans (a7_) hk (.inl rfl));replace HB:=am_ (hb);replace HI0:=am_ (hi);(try clear hb);(try clear hb2);(try clear hk);(try clear hi);(try clear ho0);obtain⟨Ao12,co12,eo12⟩:=Kd.R_slice HO279.out;subst eo12)|((with_reducible refine gate_callee (f:=55) rfl ?_);refine goesL_ (some 13) rfl rfl Tryz.func55 (by kernel_rfl) rfl #[.pointer (some ⟨g,0,none⟩), .int .i64 (t277.length:Int)] rfl gd_ ?_;(with_reducible refine(spec_l1Cur_pick.calls g s0_0 t280 t281 (t277.length:Int) t282 t283 t284 w0 _ ?side1 ?side2 A4.out).mono ?_);(case side1=>exact(a2_ HI0.out));(case side2=>exact(a3_ HI0.out));rintro e w13 ⟨rfl,hi,hb,hk⟩;refine⟨_,rfl,?_⟩;replace HO279:=am_ (Kd.R_mono (Kd.R_keep (IsS69.apart (show IsS69 w0 _ g s0_0 t280 t281 from(a2_ HI0.out)) ((a0_ HO279.out)) (by decide)) hk (fun _ h=>h.2)) (fun _ h=>h.1));replace HK:=am_ (KeepBut.trans (a7_) hk (.inl rfl));replace HB:=am_ (hb);replace HI0:=am_ (hi);(try clear hb);(try clear hb2);(try clear hk);(try clear hi))|((with_reducible refine gate_callee (f:=55) rfl ?_);refine goesL_ (some 15) rfl rfl Tryz.func55 (by kernel_rfl) rfl #[.pointer (some ⟨g,0,none⟩), .int .i64 30] rfl gd_ ?_;(with_reducible refine(spec_l1Cur_pick.calls g s0_0 t283 t284 30 t285 t286 t287 w0 _ ?side1 ?side2 A5.out).mono ?_);(case side1=>exact(a2_ HI0.out));(case side2=>exact(a3_ HI0.out));rintro e w14 ⟨rfl,hi,hb,hk⟩;refine⟨_,rfl,?_⟩;replace HO279:=am_ (Kd.R_mono (Kd.R_keep (IsS69.apart (show IsS69 w0 _ g s0_0 t283 t284 from(a2_ HI0.out)) ((a0_ HO279.out)) (by decide)) hk (fun _ h=>h.2)) (fun _ h=>h.1));replace HK:=am_ (KeepBut.trans (a7_) hk (.inl rfl));replace HB:=am_ (hb);replace HI0:=am_ (hi);(try clear hb);(try clear hb2);(try clear hk);(try clear hi))|((with_reducible refine gate_callee (f:=61) rfl ?_);refine goesL_ (some 21) rfl rfl Tryz.func61 (by kernel_rfl) rfl #[.pointer (some ⟨g,0,none⟩)] rfl gd_ ?_;(with_reducible refine(spec_l1Cur_anyHole.calls g s0_0 t286 t287 t288 t289 t290 t291 t292 w0 _ ?side1 ?side2 A7.out).mono ?_);(case side1=>exact(a2_ HI0.out));(case side2=>exact(a3_ HI0.out));rintro e w15 ⟨rfl,hi,hb,hk⟩;refine⟨_,rfl,?_⟩;replace HO279:=am_ (Kd.R_mono (Kd.R_keep (IsS69.apart (show IsS69 w0 _ g s0_0 t286 t287 from(a2_ HI0.out)) ((a0_ HO279.out)) (by decide)) hk (fun _ h=>h.2)) (fun _ h=>h.1));replace HK:=am_ (KeepBut.trans (a7_) hk (.inl rfl));replace HB:=am_ (hb);replace HI0:=am_ (hi);(try clear hb);(try clear hb2);(try clear hk);(try clear hi);have p10:0≤(t282:Int):=of_decide_eq_true (a12_);have q10:(t282:Int)<((t277.length:Int):Int):=of_decide_eq_true (a12_);obtain⟨go10,co10,eo10,gb10,gl10,cl10,HG10⟩:=Kd.R_form HO279.out (by omega);(first|cases eo10|(injection eo10 with ea_ en_ ec_;(first|subst ea_|(injection ea_ with ea_;subst ea_));subst ec_;clear en_));have GB10:=am_ gb10;have GG10:=am_ HG10;clear gb10 gl10 HG10;obtain⟨ce10,hcl10,hM10,hcc10,hfr10⟩:=Kd.R_elem HO279.out z40 (t282:Int) p10 q10;obtain rfl:=k40_openM hM10;have hx10_0:w15.cell? ⟨go10,(t282:Int).toNat*3,none⟩=some (.int .i64 ((rd_T40 t277 t282).f0)):=hcc10 0 _ rfl;have hx10_1:w15.cell? ⟨go10,(t282:Int).toNat*3+1,none⟩=some (.int .i64 ((rd_T40 t277 t282).f1)):=hcc10 1 _ rfl;have hx10_2:w15.cell? ⟨go10,(t282:Int).toNat*3+2,none⟩=some (.int .i64 ((rd_T40 t277 t282).f2)):=hcc10 2 _ rfl;have hf10_0:w15.frozen? ⟨go10,(t282:Int).toNat*3,none⟩=false:=hfr10 0;have hf10_1:w15.frozen? ⟨go10,(t282:Int).toNat*3+1,none⟩=false:=hfr10 1;have hf10_2:w15.frozen? ⟨go10,(t282:Int).toNat*3+2,none⟩=false:=hfr10 2;clear hcl10 hcc10 hfr10;(try clear hM10);replace p10:=eq_true p10;replace q10:=eq_true q10;have HX16:=am_ (show Kd.R k40 40 w15 w.heap.size (fun _=>True) (.slice (some ⟨go10,0,none⟩) t277.length co12) t277 from((a0_ HO279.out)));obtain⟨ce16,hcl16,hM16,hcc16,hfr16⟩:=Kd.R_elem HX16.out z40 (t282:Int) (of_decide_eq_true (a12_)) (by have h_:(t282:Int)<((t277.length:Int):Int):=of_decide_eq_true (a12_);first|exact h_|(have e_:=(Kd.R_reads' HO279.out).1;omega) | simpa using h_);obtain rfl:=k40_openM hM16;have HP16:=Kd.R_seg HX16.out (t282:Int) (of_decide_eq_true (a12_)) (by have h_:(t282:Int)<((t277.length:Int):Int):=of_decide_eq_true (a12_);first|exact h_|(have e_:=(Kd.R_reads' HO279.out).1;omega) | simpa using h_) (seg:=[.int .i64 t288, .int .i64 t289, .int .i64 t290]) (j:=0) hcl16 hcc16 (show 3≤3 from by decide) (x':=(⟨t288,t289,t290⟩:S40)) (k40_mkM _ _ _ (⟨t288,t289,t290⟩:S40) ) (fun _ hk=>hk);have hx16_0:=hcc16 0 _ rfl;(try simp only[show(k40).sz=3 from rfl,Nat.mul_one,Nat.add_zero]at hx16_0);have hf16_0:=hfr16 0;(try simp only[show(k40).sz=3 from rfl,Nat.mul_one,Nat.add_zero]at hf16_0);have hx16_1:=hcc16 1 _ rfl;(try simp only[show(k40).sz=3 from rfl,Nat.mul_one,Nat.add_zero]at hx16_1);have hf16_1:=hfr16 1;(try simp only[show(k40).sz=3 from rfl,Nat.mul_one,Nat.add_zero]at hf16_1);have hx16_2:=hcc16 2 _ rfl;(try simp only[show(k40).sz=3 from rfl,Nat.mul_one,Nat.add_zero]at hx16_2);have hf16_2:=hfr16 2;(try simp only[show(k40).sz=3 from rfl,Nat.mul_one,Nat.add_zero]at hf16_2);clear hcl16 hcc16 hfr16;(try clear hM16))|((with_reducible refine gate_store (t:=40) (p:=22) rfl ?_);refine store_event (t:=40) (p:=22) (v:=?vo_w17) (w1:=(((w15.setCell ⟨go10,(t282:Int).toNat*3,none⟩ (.int .i64 t288)).setCell ⟨go10,(t282:Int).toNat*3+1,none⟩ (.int .i64 t289)).setCell ⟨go10,(t282:Int).toNat*3+2,none⟩ (.int .i64 t290))) ?hg ?ho ?hn ?hr ?_;(case ho=>rfl);(case hg=>rfl);(case hn=>rfl);(case hr=>exact hr_);intro w17 hw;have hg:w15.grownBy w17 (some go10):=(by rw[hw];exact HP16.2);have hp_:Kd.R k40 40 w17 w.heap.size (fun _=>True) (.slice (some ⟨go10,0,none⟩) t277.length co12) y293:=(by rw[hw,Ny293.out];exact HP16.1);clear HP16;replace HI0:=am_ (IsS69.grown ((a2_ HI0.out)) hg (IsS69.own_ne HI0.out HO279.out (by decide)));replace HB:=am_ ((by rw[hw];exact below_set (below_set (below_set (HB.out) (Nat.le_trans HL.out GB10.out)) (Nat.le_trans HL.out GB10.out)) (Nat.le_trans HL.out GB10.out):Below w0.heap.size w0 w17));replace HK:=am_ (KeepBut.trans (a7_) (KeepBut.of_grown hg g) (Kd.R_base2 HO279.out));replace HO279:=am_ (hp_);clear hg hw hp_))
     go_ret
     exact⟨_,a10_,(a0_ HO279.out),(a2_ HI0.out),(a3_ HI0.out),a7_⟩
    ·rw[if_neg c9]at H
     exact absurd H (by simp)
   ·rw[if_neg c8]at H
    exact absurd H (by simp)
  ·rw[if_neg c6]at H
   have c6b0:(t285 == 0)=false:=beq_eq_false_iff_ne.mpr c6
   have c6b1:(t285 != 0)=true:=bne_iff_ne.mpr c6
   by_cases c18:t285=1
   ·rw[if_pos c18]at H
    have c18b0:(t285 == 1)=true:=beq_iff_eq.mpr c18
    have c18b1:(t285 != 1)=false:=bne_eq_false_iff_eq.mpr c18
    clear c18
    by_cases c19:0≤t282
    ·rw[if_pos c19]at H
     have c19b0:decide (0≤t282)=true:=decide_eq_true c19
     clear c19
     by_cases c20:t282<(t277.length:Int)
     ·rw[if_pos c20]at H
      have c20b0:decide (t282<(t277.length:Int))=true:=decide_eq_true c20
      clear c20
      by_cases c21:t277.length<5864062014805
      ·rw[if_pos c21]at H
       have LMc21:=am_ c21
       clear c21
       obtain⟨y295,hy295⟩:∃y_:List (S40),y_=(t277 ++ [(⟨(rd_T40 t277 t282).f0,(rd_T40 t277 t282).f1,(rd_T40 t277 t282).f2⟩:S40)]):=⟨_,rfl⟩
       replace H:(some (y295,t286,t287))=some (r1,r2,r3):=by first|(rw[hy295];with_reducible exact H)|(have H2_:=(Option.bind_some _ _).symm.trans H;rw[hy295];with_reducible exact H2_)|(have H2_:=(Option.bind_some _ _).symm.trans H;with_reducible exact H2_) | with_reducible exact H|(rw[hy295];exact H)|exact H
       have Ny295:=am_ hy295
       clear hy295
       simp only[Option.some.injEq,Prod.mk.injEq]at H
       obtain⟨rfl,rfl,rfl⟩:=H
       go_enter Tryz.func42,Tryz.ntmps42
       go_wp2_with (first|((with_reducible refine gate_callee (f:=60) rfl ?_);refine goesL_ (some 6) rfl rfl Tryz.func60 (by kernel_rfl) rfl #[.pointer (some ⟨g,0,none⟩)] rfl gd_ ?_;(with_reducible refine(spec_l1Cur_sheet.calls k g s0_0 s0_1 s0_2 t277 t280 t281 w0 _ ?side1 ?side2 A2.out).mono ?_);(case side1=>exact(a2_ HI0.out));(case side2=>exact(a3_ HI0.out));rintro e w22 ⟨v278,rfl,ho0,hi,hb,hk⟩;refine⟨_,rfl,?_⟩;have HO279:=am_ (Kd.R_lower ho0 (keep_size (w:=w) (g:=g) (row:=none) (a7_)));replace HK:=am_ (KeepBut.trans (a7_) hk (.inl rfl));replace HB:=am_ (hb);replace HI0:=am_ (hi);(try clear hb);(try clear hb2);(try clear hk);(try clear hi);(try clear ho0);obtain⟨Ao23,co23,eo23⟩:=Kd.R_slice HO279.out;subst eo23)|((with_reducible refine gate_callee (f:=55) rfl ?_);refine goesL_ (some 13) rfl rfl Tryz.func55 (by kernel_rfl) rfl #[.pointer (some ⟨g,0,none⟩), .int .i64 (t277.length:Int)] rfl gd_ ?_;(with_reducible refine(spec_l1Cur_pick.calls g s0_0 t280 t281 (t277.length:Int) t282 t283 t284 w0 _ ?side1 ?side2 A4.out).mono ?_);(case side1=>exact(a2_ HI0.out));(case side2=>exact(a3_ HI0.out));rintro e w24 ⟨rfl,hi,hb,hk⟩;refine⟨_,rfl,?_⟩;replace HO279:=am_ (Kd.R_mono (Kd.R_keep (IsS69.apart (show IsS69 w0 _ g s0_0 t280 t281 from(a2_ HI0.out)) ((a0_ HO279.out)) (by decide)) hk (fun _ h=>h.2)) (fun _ h=>h.1));replace HK:=am_ (KeepBut.trans (a7_) hk (.inl rfl));replace HB:=am_ (hb);replace HI0:=am_ (hi);(try clear hb);(try clear hb2);(try clear hk);(try clear hi))|((with_reducible refine gate_callee (f:=55) rfl ?_);refine goesL_ (some 15) rfl rfl Tryz.func55 (by kernel_rfl) rfl #[.pointer (some ⟨g,0,none⟩), .int .i64 30] rfl gd_ ?_;(with_reducible refine(spec_l1Cur_pick.calls g s0_0 t283 t284 30 t285 t286 t287 w0 _ ?side1 ?side2 A5.out).mono ?_);(case side1=>exact(a2_ HI0.out));(case side2=>exact(a3_ HI0.out));rintro e w25 ⟨rfl,hi,hb,hk⟩;refine⟨_,rfl,?_⟩;replace HO279:=am_ (Kd.R_mono (Kd.R_keep (IsS69.apart (show IsS69 w0 _ g s0_0 t283 t284 from(a2_ HI0.out)) ((a0_ HO279.out)) (by decide)) hk (fun _ h=>h.2)) (fun _ h=>h.1));replace HK:=am_ (KeepBut.trans (a7_) hk (.inl rfl));replace HB:=am_ (hb);replace HI0:=am_ (hi);(try clear hb);(try clear hb2);(try clear hk);(try clear hi);have p294:0≤(t282:Int):=of_decide_eq_true (a12_);have q294:t282<(t277.length:Int):=of_decide_eq_true (a12_);obtain⟨ad294,e294,hx294_0,hx294_1,hx294_2⟩:=at_T40 (Kd.R_reads' HO279.out).2.2 t282 p294 q294;cases e294;replace p294:=eq_true p294;replace q294:=eq_true q294)|((with_reducible refine gate_builtin (b:= .append) (xs:= #[.tmp 25, .tmp 30]) rfl ?_);at_builtin;refine Kd.R_append k40 w.heap.size rfl (.tmp 25) (.tmp 30) 24 40 (.agg #[(.int .i64 0),(.int .i64 0),(.int .i64 0)]) 24 rfl Tryz.underlying24 info40 rfl (by decide) (by omega) (.slice (some ad294) t277.length co23) t277 (⟨(rd_T40 t277 t282).f0,(rd_T40 t277 t282).f1,(rd_T40 t277 t282).f2⟩:S40) [.int .i64 ((rd_T40 t277 t282).f0), .int .i64 ((rd_T40 t277 t282).f1), .int .i64 ((rd_T40 t277 t282).f2)] (fun _=>True) (fun _=>False) rfl rfl ?aP (fun _ hk=>hk.elim) ?aF ?aO (Below.refl _ _) ?aS ?aL ?_;(case aP=>exact k40_mkM _ _ _ (⟨(rd_T40 t277 t282).f0,(rd_T40 t277 t282).f1,(rd_T40 t277 t282).f2⟩:S40));(case aF=>exact(fun _ _=>trivial));(case aO=>exact((a0_ HO279.out)));(case aS=>exact(keep_size (w:=w) (g:=g) (row:=none) (a7_)));(case aL=>have:=LMc21.out;omega);intro v296 w26 ho hb hg hat;rw[← Ny295.out]at ho;have n0_:=am_ (IsS69.grown ((a2_ HI0.out)) hg (IsS69.own_ne HI0.out HO279.out (by decide)));have n1_:=am_ (below_weaken ((a3_ HI0.out)) HL.out hb);have n2_:=am_ (KeepBut.trans (a7_) (KeepBut.of_grown hg g) (Kd.R_base2 HO279.out));have n3_:=am_ (ho);clear HI0 HB HK HO279;have HI0:=n0_;have HB:=n1_;have HK:=n2_;have HO297:=n3_;clear n0_ n1_ n2_ n3_ ho hb hg hat))
       go_ret
       exact⟨_,a10_,(a0_ HO297.out),(a2_ HI0.out),(a3_ HI0.out),a7_⟩
      ·rw[if_neg c21]at H
       exact absurd H (by simp)
     ·rw[if_neg c20]at H
      exact absurd H (by simp)
    ·rw[if_neg c19]at H
     exact absurd H (by simp)
   ·rw[if_neg c18]at H
    have c18b0:(t285 == 1)=false:=beq_eq_false_iff_ne.mpr c18
    have c18b1:(t285 != 1)=true:=bne_iff_ne.mpr c18
    by_cases c27:t285=2
    ·rw[if_pos c27]at H
     have c27b0:(t285 == 2)=true:=beq_iff_eq.mpr c27
     have c27b1:(t285 != 2)=false:=bne_eq_false_iff_eq.mpr c27
     clear c27
     by_cases c28:0≤t282
     ·rw[if_pos c28]at H
      have c28b0:decide (0≤t282)=true:=decide_eq_true c28
      clear c28
      by_cases c29:t282<(t277.length:Int)
      ·rw[if_pos c29]at H
       have c29b0:decide (t282<(t277.length:Int))=true:=decide_eq_true c29
       clear c29
       by_cases c30:t277.length<5864062014805
       ·rw[if_pos c30]at H
        have LMc30:=am_ c30
        clear c30
        obtain⟨y301,hy301⟩:∃y_:List (S40),y_=(t277 ++ [(⟨(rd_T40 t277 t282).f0,(rd_T40 t277 t282).f2,wrap64 (((rd_T40 t277 t282).f2)+2)⟩:S40)]):=⟨_,rfl⟩
        replace H:(some (y301,t286,t287))=some (r1,r2,r3):=by first|(rw[hy301];with_reducible exact H)|(have H2_:=(Option.bind_some _ _).symm.trans H;rw[hy301];with_reducible exact H2_)|(have H2_:=(Option.bind_some _ _).symm.trans H;with_reducible exact H2_) | with_reducible exact H|(rw[hy301];exact H)|exact H
        have Ny301:=am_ hy301
        clear hy301
        simp only[Option.some.injEq,Prod.mk.injEq]at H
        obtain⟨rfl,rfl,rfl⟩:=H
        go_enter Tryz.func42,Tryz.ntmps42
        try go_wp2_with (first|((with_reducible refine gate_callee (f:=60) rfl ?_);refine goesL_ (some 6) rfl rfl Tryz.func60 (by kernel_rfl) rfl #[.pointer (some ⟨g,0,none⟩)] rfl gd_ ?_;(with_reducible refine(spec_l1Cur_sheet.calls k g s0_0 s0_1 s0_2 t277 t280 t281 w0 _ ?side1 ?side2 A2.out).mono ?_);(case side1=>exact(a2_ HI0.out));(case side2=>exact(a3_ HI0.out));rintro e w31 ⟨v278,rfl,ho0,hi,hb,hk⟩;refine⟨_,rfl,?_⟩;have HO279:=am_ (Kd.R_lower ho0 (keep_size (w:=w) (g:=g) (row:=none) (a7_)));replace HK:=am_ (KeepBut.trans (a7_) hk (.inl rfl));replace HB:=am_ (hb);replace HI0:=am_ (hi);(try clear hb);(try clear hb2);(try clear hk);(try clear hi);(try clear ho0);obtain⟨Ao32,co32,eo32⟩:=Kd.R_slice HO279.out;subst eo32)|((with_reducible refine gate_callee (f:=55) rfl ?_);refine goesL_ (some 13) rfl rfl Tryz.func55 (by kernel_rfl) rfl #[.pointer (some ⟨g,0,none⟩), .int .i64 (t277.length:Int)] rfl gd_ ?_;(with_reducible refine(spec_l1Cur_pick.calls g s0_0 t280 t281 (t277.length:Int) t282 t283 t284 w0 _ ?side1 ?side2 A4.out).mono ?_);(case side1=>exact(a2_ HI0.out));(case side2=>exact(a3_ HI0.out));rintro e w33 ⟨rfl,hi,hb,hk⟩;refine⟨_,rfl,?_⟩;replace HO279:=am_ (Kd.R_mono (Kd.R_keep (IsS69.apart (show IsS69 w0 _ g s0_0 t280 t281 from(a2_ HI0.out)) ((a0_ HO279.out)) (by decide)) hk (fun _ h=>h.2)) (fun _ h=>h.1));replace HK:=am_ (KeepBut.trans (a7_) hk (.inl rfl));replace HB:=am_ (hb);replace HI0:=am_ (hi);(try clear hb);(try clear hb2);(try clear hk);(try clear hi))|((with_reducible refine gate_callee (f:=55) rfl ?_);refine goesL_ (some 15) rfl rfl Tryz.func55 (by kernel_rfl) rfl #[.pointer (some ⟨g,0,none⟩), .int .i64 30] rfl gd_ ?_;(with_reducible refine(spec_l1Cur_pick.calls g s0_0 t283 t284 30 t285 t286 t287 w0 _ ?side1 ?side2 A5.out).mono ?_);(case side1=>exact(a2_ HI0.out));(case side2=>exact(a3_ HI0.out));rintro e w34 ⟨rfl,hi,hb,hk⟩;refine⟨_,rfl,?_⟩;replace HO279:=am_ (Kd.R_mono (Kd.R_keep (IsS69.apart (show IsS69 w0 _ g s0_0 t283 t284 from(a2_ HI0.out)) ((a0_ HO279.out)) (by decide)) hk (fun _ h=>h.2)) (fun _ h=>h.1));replace HK:=am_ (KeepBut.trans (a7_) hk (.inl rfl));replace HB:=am_ (hb);replace HI0:=am_ (hi);(try clear hb);(try clear hb2);(try clear hk);(try clear hi)))
        replace HO279:=am_ (Kd.R_drew HO279.out)
        replace HI0:=am_ (IsS69.drew HI0.out)
        replace HK:=am_ (keep_drew HK.out)
        replace HB:=am_ (below_drew1 HB.out)
        have p298:0≤(t282:Int):=of_decide_eq_true (a12_)
        have q298:t282<(t277.length:Int):=of_decide_eq_true (a12_)
        obtain⟨ad298,e298,hx298_0,hx298_1,hx298_2⟩:=at_T40 (Kd.R_reads' HO279.out).2.2 t282 p298 q298
        cases e298
        replace p298:=eq_true p298
        replace q298:=eq_true q298
        have p299:0≤(t282:Int):=of_decide_eq_true (a12_)
        have q299:t282<(t277.length:Int):=of_decide_eq_true (a12_)
        obtain⟨ad299,e299,hx299_0,hx299_1,hx299_2⟩:=at_T40 (Kd.R_reads' HO279.out).2.2 t282 p299 q299
        obtain rfl:ad298=ad299:=(by injection e299)
        replace p299:=eq_true p299
        replace q299:=eq_true q299
        have p300:0≤(t282:Int):=of_decide_eq_true (a12_)
        have q300:t282<(t277.length:Int):=of_decide_eq_true (a12_)
        obtain⟨ad300,e300,hx300_0,hx300_1,hx300_2⟩:=at_T40 (Kd.R_reads' HO279.out).2.2 t282 p300 q300
        obtain rfl:ad298=ad300:=(by injection e300)
        replace p300:=eq_true p300
        replace q300:=eq_true q300
        refine start_ (n:=21) (S:=fun w'=>w'.cell? (ad298.add ((t282).toNat*3))=some (.int .i64 ((rd_T40 t277 t282).f0))∧w'.cell? ⟨(ad298.add ((t282).toNat*3)).block,(ad298.add ((t282).toNat*3)).off+1,none⟩=some (.int .i64 ((rd_T40 t277 t282).f1))∧w'.cell? ⟨(ad298.add ((t282).toNat*3)).block,(ad298.add ((t282).toNat*3)).off+2,none⟩=some (.int .i64 ((rd_T40 t277 t282).f2))∧w'.cell? (ad298.add ((t282).toNat*3))=some (.int .i64 ((rd_T40 t277 t282).f0))∧w'.cell? ⟨(ad298.add ((t282).toNat*3)).block,(ad298.add ((t282).toNat*3)).off+1,none⟩=some (.int .i64 ((rd_T40 t277 t282).f1))∧w'.cell? ⟨(ad298.add ((t282).toNat*3)).block,(ad298.add ((t282).toNat*3)).off+2,none⟩=some (.int .i64 ((rd_T40 t277 t282).f2))∧w'.cell? (ad298.add ((t282).toNat*3))=some (.int .i64 ((rd_T40 t277 t282).f0))∧w'.cell? ⟨(ad298.add ((t282).toNat*3)).block,(ad298.add ((t282).toNat*3)).off+1,none⟩=some (.int .i64 ((rd_T40 t277 t282).f1))∧w'.cell? ⟨(ad298.add ((t282).toNat*3)).block,(ad298.add ((t282).toNat*3)).off+2,none⟩=some (.int .i64 ((rd_T40 t277 t282).f2))) (ds:=[18,19]) #[false,false,false,false,false,false,false,false,false,false,false,false,false,false,false,false,false,false,false,false,false] (by kernel_rfl) rfl rfl ⟨hx298_0,hx298_1,hx298_2,hx299_0,hx299_1,hx299_2,hx300_0,hx300_1,hx300_2⟩ (fun hHeld=>?_);refine with_tabW spec_l1Cur_anySheet.tab10 spec_l1Cur_anySheet.bits10 (fun HT_ HW_=>?_)
        generalize w34.drew=w35 at HO279 HI0 HK HB hx298_0 hx298_1 hx298_2 hx299_0 hx299_1 hx299_2 hx300_0 hx300_1 hx300_2 hHeld ⊢
        refine pure_ (i:=0) (N:=some 34) (v:=?_) (a':=?_) #[true,false,false,false,false,false,false,false,false,false,false,false,false,false,false,false,false,false,false,false,false] rfl rfl (any_of HT_.out (by kernel_rfl)) (fun _ _ _ h=>h) (Or.inl ⟨by rfl,?_⟩) ?_ ?_
        rotate_left
        ·intro w'
         go_simp
         with_reducible rfl
        rotate_left
        ·simp only[Act.put,pu_]
         rfl
        refine pure_ (i:=1) (N:=some 35) (v:=?_) (a':=?_) #[true,true,false,false,false,false,false,false,false,false,false,false,false,false,false,false,false,false,false,false,false] rfl rfl (any_of HT_.out (by kernel_rfl)) (fun _ _ _ h=>h) (Or.inl ⟨by rfl,?_⟩) ?_ ?_
        rotate_left
        ·intro w'
         go_simp
         with_reducible rfl
        rotate_left
        ·simp only[Act.put,pu_]
         rfl
        refine pure_ (i:=2) (N:=some 36) (v:=?_) (a':=?_) #[true,true,true,false,false,false,false,false,false,false,false,false,false,false,false,false,false,false,false,false,false] rfl rfl (any_of HT_.out (by kernel_rfl)) (fun _ _ _ h=>h) (Or.inl ⟨by rfl,?_⟩) ?_ ?_
        rotate_left
        ·intro w'
         go_simp
         with_reducible rfl
        rotate_left
        ·simp only[Act.put,pu_]
         rfl
        refine pure_ (i:=3) (N:=some 37) (v:=?_) (a':=?_) #[true,true,true,true,false,false,false,false,false,false,false,false,false,false,false,false,false,false,false,false,false] rfl rfl (any_of HT_.out (by kernel_rfl)) (fun _ _ _ h=>h) (Or.inl ⟨by rfl,?_⟩) ?_ ?_
        rotate_left
        ·intro w'
         go_simp
         with_reducible rfl
        rotate_left
        ·simp only[Act.put,pu_]
         rfl
        refine pure_ (i:=4) (N:=some 38) (v:=?_) (a':=?_) #[true,true,true,true,true,false,false,false,false,false,false,false,false,false,false,false,false,false,false,false,false] rfl rfl (any_of HT_.out (by kernel_rfl)) (fun _ _ _ h=>h) (Or.inl ⟨by rfl,?_⟩) ?_ ?_
        rotate_left
        ·intro w'
         go_simp
         with_reducible rfl
        rotate_left
        ·simp only[Act.put,pu_]
         rfl
        refine pure_ (i:=6) (N:=some 40) (v:=?_) (a':=?_) #[true,true,true,true,true,false,true,false,false,false,false,false,false,false,false,false,false,false,false,false,false] rfl rfl (any_of HT_.out (by kernel_rfl)) (fun _ _ _ h=>h) (Or.inl ⟨by rfl,?_⟩) ?_ ?_
        rotate_left
        ·intro w'
         go_simp
         with_reducible rfl
        rotate_left
        ·simp only[Act.put,pu_]
         rfl
        refine pure_ (i:=7) (N:=some 41) (v:=?_) (a':=?_) #[true,true,true,true,true,false,true,true,false,false,false,false,false,false,false,false,false,false,false,false,false] rfl rfl (any_of HT_.out (by kernel_rfl)) (fun _ _ _ h=>h) (Or.inl ⟨by rfl,?_⟩) ?_ ?_
        rotate_left
        ·intro w'
         go_simp
         with_reducible rfl
        rotate_left
        ·simp only[Act.put,pu_]
         rfl
        refine pure_ (i:=8) (N:=some 42) (v:=?_) (a':=?_) #[true,true,true,true,true,false,true,true,true,false,false,false,false,false,false,false,false,false,false,false,false] rfl rfl (any_of HT_.out (by kernel_rfl)) (fun _ _ _ h=>h) (Or.inl ⟨by rfl,?_⟩) ?_ ?_
        rotate_left
        ·intro w'
         go_simp
         with_reducible rfl
        rotate_left
        ·simp only[Act.put,pu_]
         rfl
        refine pure_ (i:=9) (N:=some 43) (v:=?_) (a':=?_) #[true,true,true,true,true,false,true,true,true,true,false,false,false,false,false,false,false,false,false,false,false] rfl rfl (any_of HT_.out (by kernel_rfl)) (fun _ _ _ h=>h) (Or.inl ⟨by rfl,?_⟩) ?_ ?_
        rotate_left
        ·intro w'
         go_simp
         with_reducible rfl
        rotate_left
        ·simp only[Act.put,pu_]
         rfl
        refine pure_ (i:=11) (N:=some 45) (v:=?_) (a':=?_) #[true,true,true,true,true,false,true,true,true,true,false,true,false,false,false,false,false,false,false,false,false] rfl rfl (any_of HT_.out (by kernel_rfl)) (fun _ _ _ h=>h) (Or.inl ⟨by rfl,?_⟩) ?_ ?_
        rotate_left
        ·intro w'
         go_simp
         with_reducible rfl
        rotate_left
        ·simp only[Act.put,pu_]
         rfl
        refine pure_ (i:=12) (N:=some 46) (v:=?_) (a':=?_) #[true,true,true,true,true,false,true,true,true,true,false,true,true,false,false,false,false,false,false,false,false] rfl rfl (any_of HT_.out (by kernel_rfl)) (fun _ _ _ h=>h) (Or.inl ⟨by rfl,?_⟩) ?_ ?_
        rotate_left
        ·intro w'
         go_simp
         with_reducible rfl
        rotate_left
        ·simp only[Act.put,pu_]
         rfl
        refine pure_ (i:=13) (N:=some 47) (v:=?_) (a':=?_) #[true,true,true,true,true,false,true,true,true,true,false,true,true,true,false,false,false,false,false,false,false] rfl rfl (any_of HT_.out (by kernel_rfl)) (fun _ _ _ h=>h) (Or.inl ⟨by rfl,?_⟩) ?_ ?_
        rotate_left
        ·intro w'
         go_simp
         with_reducible rfl
        rotate_left
        ·simp only[Act.put,pu_]
         rfl
        refine pure_ (i:=14) (N:=some 48) (v:=?_) (a':=?_) #[true,true,true,true,true,false,true,true,true,true,false,true,true,true,true,false,false,false,false,false,false] rfl rfl (any_of HT_.out (by kernel_rfl)) (fun _ _ _ h=>h) (Or.inl ⟨by rfl,?_⟩) ?_ ?_
        rotate_left
        ·intro w'
         go_simp
         with_reducible rfl
        rotate_left
        ·simp only[Act.put,pu_]
         rfl
        refine take_ (i:=5) (N:=some 39) (v:=?_) (a':=?_) #[true,true,true,true,true,true,true,true,true,true,false,true,true,true,true,false,false,false,false,false,false] rfl rfl (take_ofW HT_.out HW_.out (by kernel_rfl)) (fun _ _ _ h=>h) (Or.inl ⟨by rfl,?_⟩) hHeld ?_ ?_
        rotate_left
        ·rintro w' ⟨s0,s1,s2,s3,s4,s5,s6,s7,s8⟩
         go_simp
         with_reducible rfl
        rotate_left
        ·simp only[Act.put,pu_]
         rfl
        refine take_ (i:=10) (N:=some 44) (v:=?_) (a':=?_) #[true,true,true,true,true,true,true,true,true,true,true,true,true,true,true,false,false,false,false,false,false] rfl rfl (take_ofW HT_.out HW_.out (by kernel_rfl)) (fun _ _ _ h=>h) (Or.inl ⟨by rfl,?_⟩) hHeld ?_ ?_
        rotate_left
        ·rintro w' ⟨s0,s1,s2,s3,s4,s5,s6,s7,s8⟩
         go_simp
         with_reducible rfl
        rotate_left
        ·simp only[Act.put,pu_]
         rfl
        refine take_ (i:=15) (N:=some 49) (v:=?_) (a':=?_) #[true,true,true,true,true,true,true,true,true,true,true,true,true,true,true,true,false,false,false,false,false] rfl rfl (take_ofW HT_.out HW_.out (by kernel_rfl)) (fun _ _ _ h=>h) (Or.inl ⟨by rfl,?_⟩) hHeld ?_ ?_
        rotate_left
        ·rintro w' ⟨s0,s1,s2,s3,s4,s5,s6,s7,s8⟩
         go_simp
         with_reducible rfl
        rotate_left
        ·simp only[Act.put,pu_]
         rfl
        refine pure_ (i:=16) (N:=some 50) (v:=?_) (a':=?_) #[true,true,true,true,true,true,true,true,true,true,true,true,true,true,true,true,true,false,false,false,false] rfl rfl (any_of HT_.out (by kernel_rfl)) (fun _ _ _ h=>h) (Or.inl ⟨by rfl,?_⟩) ?_ ?_
        rotate_left
        ·intro w'
         go_simp
         with_reducible rfl
        rotate_left
        ·simp only[Act.put,pu_]
         rfl
        refine pure_ (i:=17) (N:=some 51) (v:=?_) (a':=?_) #[true,true,true,true,true,true,true,true,true,true,true,true,true,true,true,true,true,true,false,false,false] rfl rfl (any_of HT_.out (by kernel_rfl)) (fun _ _ _ h=>h) (Or.inl ⟨by rfl,?_⟩) ?_ ?_
        rotate_left
        ·intro w'
         go_simp
         with_reducible rfl
        rotate_left
        ·simp only[Act.put,pu_]
         rfl
        refine last_ (i:=18) (N:=some 52) #[true,true,true,true,true,true,true,true,true,true,true,true,true,true,true,true,true,true,true,false,false] rfl rfl (one_of HT_.out (by kernel_rfl)) (by decide) (fun K hK=>?_)
        refine value_ (w1:=?_) (v:=?_) (by rfl) rfl ?_ ?_
        rotate_left 2
        ·go_simp
         constructor
         ·rfl
         ·rfl
        refine hK.out _ _ ?_
        clear hK K
        refine norm_ (a':=?_) ?_ ?_
        rotate_left
        ·show Act.put _ (some 52) _=_
         simp only[Act.put,pu_]
         rfl
        refine last_ (i:=19) (N:=some 53) #[true,true,true,true,true,true,true,true,true,true,true,true,true,true,true,true,true,true,true,true,false] rfl rfl (one_of HT_.out (by kernel_rfl)) (by decide) (fun K hK=>?_)
        refine Kd.R_append_step k40 w.heap.size (by rfl) (.tmp 34) (.tmp 52) 24 40 (.agg #[(.int .i64 0),(.int .i64 0),(.int .i64 0)]) 24 rfl Tryz.underlying24 info40 rfl (by decide) (by omega) (.slice (some ad298) t277.length co32) t277 (⟨(rd_T40 t277 t282).f0,(rd_T40 t277 t282).f2,wrap64 (((rd_T40 t277 t282).f2)+2)⟩:S40) [.int .i64 ((rd_T40 t277 t282).f0), .int .i64 ((rd_T40 t277 t282).f2), .int .i64 (wrap64 (((rd_T40 t277 t282).f2)+2))] (fun _=>True) (fun _=>False) rfl rfl ?aP (fun _ hk=>hk.elim) ?aF ?aO (Below.refl _ _) ?aS ?aL ?_
        (case aP=>exact k40_mkM _ _ _ (⟨(rd_T40 t277 t282).f0,(rd_T40 t277 t282).f2,wrap64 (((rd_T40 t277 t282).f2)+2)⟩:S40))
        (case aF=>exact(fun _ _=>trivial))
        (case aO=>exact((a0_ HO279.out)))
        (case aS=>exact(keep_size (w:=w) (g:=g) (row:=none) (a7_)))
        (case aL=>have:=LMc30.out;omega)
        intro v302 w36 ho hb hg hat
        rw[← Ny301.out]at ho
        have n0_:=am_ (IsS69.grown ((a2_ HI0.out)) hg (IsS69.own_ne HI0.out HO279.out (by decide)))
        have n1_:=am_ (below_weaken ((a3_ HI0.out)) HL.out hb)
        have n2_:=am_ (KeepBut.trans (a7_) (KeepBut.of_grown hg g) (Kd.R_base2 HO279.out))
        have n3_:=am_ (ho)
        clear HI0 HB HK HO279
        have HI0:=n0_
        have HB:=n1_
        have HK:=n2_
        have HO303:=n3_
        clear n0_ n1_ n2_ n3_ ho hb hg hat
        refine hK.out _ _ ?_
        clear hK K
        refine norm_ (a':=?_) ?_ ?_
        rotate_left
        ·show Act.put _ (some 53) _=_
         simp only[Act.put,pu_]
         rfl
        refine pure_ (i:=20) (N:=some 3) (v:=?_) (a':=?_) #[true,true,true,true,true,true,true,true,true,true,true,true,true,true,true,true,true,true,true,true,true] rfl rfl (any_of HT_.out (by kernel_rfl)) (fun _ _ _ h=>h) (Or.inl ⟨by rfl,?_⟩) ?_ ?_
        rotate_left
        ·intro w'
         go_simp
         with_reducible rfl
        rotate_left
        ·simp only[Act.put,pu_]
         rfl
        refine done_ (done_of HT_.out (by kernel_rfl)) ?_
        try go_wp2
        go_ret
        exact⟨_,a10_,(a0_ HO303.out),(a2_ HI0.out),(a3_ HI0.out),a7_⟩
       ·rw[if_neg c30]at H
        exact absurd H (by simp)
      ·rw[if_neg c29]at H
       exact absurd H (by simp)
     ·rw[if_neg c28]at H
      exact absurd H (by simp)
    ·rw[if_neg c27]at H
     have c27b0:(t285 == 2)=false:=beq_eq_false_iff_ne.mpr c27
     have c27b1:(t285 != 2)=true:=bne_iff_ne.mpr c27
     by_cases c37:t285=3
     ·rw[if_pos c37]at H
      have c37b0:(t285 == 3)=true:=beq_iff_eq.mpr c37
      have c37b1:(t285 != 3)=false:=bne_eq_false_iff_eq.mpr c37
      clear c37
      have H':=am_ H
      clear H
      go_enter Tryz.func42,Tryz.ntmps42
      go_wp2_with (first|((with_reducible refine gate_callee (f:=60) rfl ?_);refine goesL_ (some 6) rfl rfl Tryz.func60 (by kernel_rfl) rfl #[.pointer (some ⟨g,0,none⟩)] rfl gd_ ?_;(with_reducible refine(spec_l1Cur_sheet.calls k g s0_0 s0_1 s0_2 t277 t280 t281 w0 _ ?side1 ?side2 A2.out).mono ?_);(case side1=>exact(a2_ HI0.out));(case side2=>exact(a3_ HI0.out));rintro e w38 ⟨v278,rfl,ho0,hi,hb,hk⟩;refine⟨_,rfl,?_⟩;have HO279:=am_ (Kd.R_lower ho0 (keep_size (w:=w) (g:=g) (row:=none) (a7_)));replace HK:=am_ (KeepBut.trans (a7_) hk (.inl rfl));replace HB:=am_ (hb);replace HI0:=am_ (hi);(try clear hb);(try clear hb2);(try clear hk);(try clear hi);(try clear ho0);obtain⟨Ao39,co39,eo39⟩:=Kd.R_slice HO279.out;subst eo39)|((with_reducible refine gate_callee (f:=55) rfl ?_);refine goesL_ (some 13) rfl rfl Tryz.func55 (by kernel_rfl) rfl #[.pointer (some ⟨g,0,none⟩), .int .i64 (t277.length:Int)] rfl gd_ ?_;(with_reducible refine(spec_l1Cur_pick.calls g s0_0 t280 t281 (t277.length:Int) t282 t283 t284 w0 _ ?side1 ?side2 A4.out).mono ?_);(case side1=>exact(a2_ HI0.out));(case side2=>exact(a3_ HI0.out));rintro e w40 ⟨rfl,hi,hb,hk⟩;refine⟨_,rfl,?_⟩;replace HO279:=am_ (Kd.R_mono (Kd.R_keep (IsS69.apart (show IsS69 w0 _ g s0_0 t280 t281 from(a2_ HI0.out)) ((a0_ HO279.out)) (by decide)) hk (fun _ h=>h.2)) (fun _ h=>h.1));replace HK:=am_ (KeepBut.trans (a7_) hk (.inl rfl));replace HB:=am_ (hb);replace HI0:=am_ (hi);(try clear hb);(try clear hb2);(try clear hk);(try clear hi))|((with_reducible refine gate_callee (f:=55) rfl ?_);refine goesL_ (some 15) rfl rfl Tryz.func55 (by kernel_rfl) rfl #[.pointer (some ⟨g,0,none⟩), .int .i64 30] rfl gd_ ?_;(with_reducible refine(spec_l1Cur_pick.calls g s0_0 t283 t284 30 t285 t286 t287 w0 _ ?side1 ?side2 A5.out).mono ?_);(case side1=>exact(a2_ HI0.out));(case side2=>exact(a3_ HI0.out));rintro e w41 ⟨rfl,hi,hb,hk⟩;refine⟨_,rfl,?_⟩;replace HO279:=am_ (Kd.R_mono (Kd.R_keep (IsS69.apart (show IsS69 w0 _ g s0_0 t283 t284 from(a2_ HI0.out)) ((a0_ HO279.out)) (by decide)) hk (fun _ h=>h.2)) (fun _ h=>h.1));replace HK:=am_ (KeepBut.trans (a7_) hk (.inl rfl));replace HB:=am_ (hb);replace HI0:=am_ (hi);(try clear hb);(try clear hb2);(try clear hk);(try clear hi)))
      (try simp only[Act.put,List.setIfInBounds_toArray,List.set_cons_zero,List.set_cons_succ])
      go_loopg [3] k (fun kq v3 w'=>∃(x3_1:List (S40)),Aside0 (spec_l1Cur_anySheet.l0 kq x3_1 s0_0 t286 t287=some (r1,r2,r3))∧Aside0 (kq≤k)∧Aside0 (Kd.R k40 40 w' w.heap.size (fun _=>True) v3 x3_1)∧Aside0 (IsS69 w0 w' g s0_0 t286 t287)∧Aside0 (KeepBut w w' g none)∧Aside0 (Below w0.heap.size w0 w'))
      case atStart=>exact⟨(([]:List (S40))),H',⟨Nat.le_refl _⟩,⟨a23_⟩,⟨(a2_ HI0.out)⟩,⟨a7_⟩,⟨(a3_ HI0.out)⟩⟩
      case round=>
       clear H'
       try clear c1
       try clear p1
       try clear q1
       try clear hx1
       try clear hf1
       try clear c2
       try clear p2
       try clear q2
       try clear hx2
       try clear c3
       try clear c3b0
       try clear c3b1
       try clear p3
       try clear q3
       try clear hx3
       try clear c4
       try clear c5
       try clear c6
       try clear c6b0
       try clear c6b1
       try clear p6
       try clear c8
       try clear c8b0
       try clear c9
       try clear c9b0
       try clear c10
       try clear p10
       try clear q10
       try clear hx10
       try clear hf10
       try clear c16
       try clear hx16
       try clear hf16
       try clear c18
       try clear c18b0
       try clear c18b1
       try clear c19
       try clear c19b0
       try clear c20
       try clear c20b0
       try clear c21
       try clear c27
       try clear c27b0
       try clear c27b1
       try clear c28
       try clear c28b0
       try clear c29
       try clear c29b0
       try clear p29
       try clear q29
       try clear hx29
       try clear c30
       try clear p30
       try clear q30
       try clear hx30
       try clear c37
       try clear c37b0
       try clear c37b1
       try clear hx10_0
       try clear hx10_1
       try clear hx10_2
       try clear hx16_0
       try clear hx16_1
       try clear hx16_2
       try clear hx294_0
       try clear hx294_1
       try clear hx294_2
       try clear hx298_0
       try clear hx298_1
       try clear hx298_2
       try clear hx299_0
       try clear hx299_1
       try clear hx299_2
       try clear hx300_0
       try clear hx300_1
       try clear hx300_2
       try clear p10
       try clear p294
       try clear p298
       try clear p299
       try clear p300
       try clear q10
       try clear q294
       try clear q298
       try clear q299
       try clear q300
       obtain⟨x3_1,HA,HK1,HO_3,HI0,HK,HB⟩:=hrel
       cases gk with
       | zero=>exact absurd HA.out (by simp[spec_l1Cur_anySheet.l0])
       | succ k1=>
        have H:=HA.out
        clear HA
        simp only[spec_l1Cur_anySheet.l0]at H
        by_cases c42:(x3_1.length:Int)<61
        ·rw[if_pos c42]at H
         have c42b0:decide ((x3_1.length:Int)<61)=true:=decide_eq_true c42
         have c42b1:decide (x3_1.length<61)=true:=decide_eq_true (by omega)
         clear c42
         by_cases c43:x3_1.length<5864062014805
         ·rw[if_pos c43]at H
          have LMc43:=am_ c43
          clear c43
          obtain⟨y304,hy304⟩:∃y_:List (S40),y_=(x3_1 ++ [(⟨1,wrap64 (3*(x3_1.length:Int)),wrap64 ((wrap64 (3*(x3_1.length:Int)))+1)⟩:S40)]):=⟨_,rfl⟩
          replace H:(spec_l1Cur_anySheet.l0 k1 y304 s0_0 t286 t287)=some (r1,r2,r3):=by first|(rw[hy304];with_reducible exact H)|(have H2_:=(Option.bind_some _ _).symm.trans H;rw[hy304];with_reducible exact H2_)|(have H2_:=(Option.bind_some _ _).symm.trans H;with_reducible exact H2_) | with_reducible exact H|(rw[hy304];exact H)|exact H
          have Ny304:=am_ hy304
          clear hy304
          have H':=am_ H
          clear H
          obtain⟨Ao44,co44,eo44⟩:=Kd.R_slice HO_3.out
          subst eo44
          go_wp2_with (first|((with_reducible refine gate_builtin (b:= .append) (xs:= #[.tmp 59, .tmp 68]) rfl ?_);at_builtin;refine Kd.R_append k40 w.heap.size rfl (.tmp 59) (.tmp 68) 24 40 (.agg #[(.int .i64 0),(.int .i64 0),(.int .i64 0)]) 24 rfl Tryz.underlying24 info40 rfl (by decide) (by omega) (.slice Ao44 x3_1.length co44) x3_1 (⟨1,wrap64 (3*(x3_1.length:Int)),wrap64 ((wrap64 (3*(x3_1.length:Int)))+1)⟩:S40) [.int .i64 1, .int .i64 (wrap64 (3*(x3_1.length:Int))), .int .i64 (wrap64 ((wrap64 (3*(x3_1.length:Int)))+1))] (fun _=>True) (fun _=>False) rfl rfl ?aP (fun _ hk=>hk.elim) ?aF ?aO (Below.refl _ _) ?aS ?aL ?_;(case aP=>exact k40_mkM _ _ _ (⟨1,wrap64 (3*(x3_1.length:Int)),wrap64 ((wrap64 (3*(x3_1.length:Int)))+1)⟩:S40));(case aF=>exact(fun _ _=>trivial));(case aO=>exact((a0_ HO_3.out)));(case aS=>exact(keep_size (w:=w) (g:=g) (row:=none) (a7_)));(case aL=>have:=LMc43.out;omega);intro v305 w45 ho hb hg hat;rw[← Ny304.out]at ho;have n0_:=am_ (IsS69.grown ((a2_ HI0.out)) hg (IsS69.own_ne HI0.out HO_3.out (by decide)));have n1_:=am_ (below_weaken ((a3_ HI0.out)) HL.out hb);have n2_:=am_ (KeepBut.trans (a7_) (KeepBut.of_grown hg g) (Kd.R_base2 HO_3.out));have n3_:=am_ (ho);clear HI0 HB HK HO_3;have HI0:=n0_;have HB:=n1_;have HK:=n2_;have HO306:=n3_;clear n0_ n1_ n2_ n3_ ho hb hg hat))
          go_roundg k1
          case measure=>have:=HK1.out;omega
          case rel=>exact⟨(y304),H',⟨by have:=HK1.out;omega⟩,⟨(a0_ HO306.out)⟩,⟨(a2_ HI0.out)⟩,⟨a7_⟩,⟨(a3_ HI0.out)⟩⟩
         ·rw[if_neg c43]at H
          exact absurd H (by simp)
        ·rw[if_neg c42]at H
         have c42b0:decide ((x3_1.length:Int)<61)=false:=decide_eq_false c42
         have c42b1:decide (x3_1.length<61)=false:=decide_eq_false (by omega)
         clear c42
         simp only[Option.some.injEq,Prod.mk.injEq]at H
         obtain⟨rfl,rfl,rfl⟩:=H
         obtain⟨Ao46,co46,eo46⟩:=Kd.R_slice HO_3.out
         subst eo46
         go_wp2
         go_ret
         exact⟨_,a10_,(a0_ HO_3.out),(a2_ HI0.out),(a3_ HI0.out),a7_⟩
     ·rw[if_neg c37]at H
      have c37b0:(t285 == 3)=false:=beq_eq_false_iff_ne.mpr c37
      have c37b1:(t285 != 3)=true:=bne_iff_ne.mpr c37
      simp only[Option.some.injEq,Prod.mk.injEq]at H
      obtain⟨rfl,rfl,rfl⟩:=H
      go_enter Tryz.func42,Tryz.ntmps42
      go_wp2_with (first|((with_reducible refine gate_callee (f:=60) rfl ?_);refine goesL_ (some 6) rfl rfl Tryz.func60 (by kernel_rfl) rfl #[.pointer (some ⟨g,0,none⟩)] rfl gd_ ?_;(with_reducible refine(spec_l1Cur_sheet.calls k g s0_0 s0_1 s0_2 t277 t280 t281 w0 _ ?side1 ?side2 A2.out).mono ?_);(case side1=>exact(a2_ HI0.out));(case side2=>exact(a3_ HI0.out));rintro e w47 ⟨v278,rfl,ho0,hi,hb,hk⟩;refine⟨_,rfl,?_⟩;have HO279:=am_ (Kd.R_lower ho0 (keep_size (w:=w) (g:=g) (row:=none) (a7_)));replace HK:=am_ (KeepBut.trans (a7_) hk (.inl rfl));replace HB:=am_ (hb);replace HI0:=am_ (hi);(try clear hb);(try clear hb2);(try clear hk);(try clear hi);(try clear ho0);obtain⟨Ao48,co48,eo48⟩:=Kd.R_slice HO279.out;subst eo48)|((with_reducible refine gate_callee (f:=55) rfl ?_);refine goesL_ (some 13) rfl rfl Tryz.func55 (by kernel_rfl) rfl #[.pointer (some ⟨g,0,none⟩), .int .i64 (t277.length:Int)] rfl gd_ ?_;(with_reducible refine(spec_l1Cur_pick.calls g s0_0 t280 t281 (t277.length:Int) t282 t283 t284 w0 _ ?side1 ?side2 A4.out).mono ?_);(case side1=>exact(a2_ HI0.out));(case side2=>exact(a3_ HI0.out));rintro e w49 ⟨rfl,hi,hb,hk⟩;refine⟨_,rfl,?_⟩;replace HO279:=am_ (Kd.R_mono (Kd.R_keep (IsS69.apart (show IsS69 w0 _ g s0_0 t280 t281 from(a2_ HI0.out)) ((a0_ HO279.out)) (by decide)) hk (fun _ h=>h.2)) (fun _ h=>h.1));replace HK:=am_ (KeepBut.trans (a7_) hk (.inl rfl));replace HB:=am_ (hb);replace HI0:=am_ (hi);(try clear hb);(try clear hb2);(try clear hk);(try clear hi))|((with_reducible refine gate_callee (f:=55) rfl ?_);refine goesL_ (some 15) rfl rfl Tryz.func55 (by kernel_rfl) rfl #[.pointer (some ⟨g,0,none⟩), .int .i64 30] rfl gd_ ?_;(with_reducible refine(spec_l1Cur_pick.calls g s0_0 t283 t284 30 t285 t286 t287 w0 _ ?side1 ?side2 A5.out).mono ?_);(case side1=>exact(a2_ HI0.out));(case side2=>exact(a3_ HI0.out));rintro e w50 ⟨rfl,hi,hb,hk⟩;refine⟨_,rfl,?_⟩;replace HO279:=am_ (Kd.R_mono (Kd.R_keep (IsS69.apart (show IsS69 w0 _ g s0_0 t283 t284 from(a2_ HI0.out)) ((a0_ HO279.out)) (by decide)) hk (fun _ h=>h.2)) (fun _ h=>h.1));replace HK:=am_ (KeepBut.trans (a7_) hk (.inl rfl));replace HB:=am_ (hb);replace HI0:=am_ (hi);(try clear hb);(try clear hb2);(try clear hk);(try clear hi)))
      go_ret
      exact⟨_,a10_,(a0_ HO279.out),(a2_ HI0.out),(a3_ HI0.out),a7_⟩
 ·rw[if_neg c3]at H
  have c3b0:decide (0<(t277.length:Int))=false:=decide_eq_false c3
  have c3b1:decide (0<t277.length)=false:=decide_eq_false (by omega)
  clear c3
  simp only[Option.some.injEq,Prod.mk.injEq]at H
  obtain⟨rfl,rfl,rfl⟩:=H
  go_enter Tryz.func42,Tryz.ntmps42
  go_wp2_with (first|((with_reducible refine gate_callee (f:=60) rfl ?_);refine goesL_ (some 6) rfl rfl Tryz.func60 (by kernel_rfl) rfl #[.pointer (some ⟨g,0,none⟩)] rfl gd_ ?_;(with_reducible refine(spec_l1Cur_sheet.calls k g s0_0 s0_1 s0_2 t277 t280 t281 w0 _ ?side1 ?side2 A2.out).mono ?_);(case side1=>exact(a2_ HI0.out));(case side2=>exact(a3_ HI0.out));rintro e w51 ⟨v278,rfl,ho0,hi,hb,hk⟩;refine⟨_,rfl,?_⟩;have HO279:=am_ (Kd.R_lower ho0 (keep_size (w:=w) (g:=g) (row:=none) (a7_)));replace HK:=am_ (KeepBut.trans (a7_) hk (.inl rfl));replace HB:=am_ (hb);replace HI0:=am_ (hi);(try clear hb);(try clear hb2);(try clear hk);(try clear hi);(try clear ho0);obtain⟨Ao52,co52,eo52⟩:=Kd.R_slice HO279.out;subst eo52))
  go_ret
  exact⟨_,a10_,(a0_ HO279.out),(a2_ HI0.out),(a3_ HI0.out),a7_⟩

end Go.Proofs.YtplpjmhmochcfaaGreat.QFnDifferences
