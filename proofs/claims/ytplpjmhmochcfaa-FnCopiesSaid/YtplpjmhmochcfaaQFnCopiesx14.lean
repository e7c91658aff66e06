/- Written by a program of this session (the kit's printer, with leaf contracts proved by hand put in): what each Go function computes, and that the call computes it. No condition but those that each theorem names. -/
import Derived.Test.YtplpjmhmochcfaaQFnCopiesx0
import Derived.Test.YtplpjmhmochcfaaQFnCopiesx2
import Derived.Test.YtplpjmhmochcfaaQFnCopiesx9
namespace Go.Proofs.Ytplpjmhmochcfaa.QFnCopies
open Go.RowKit Go.Proofs.YtplpjmhmochcfaaW.PrintWords Go.Proofs.YtplpjmhmochcfaaW.PrintLast Go.Proofs.YtplpjmhmochcfaaW.PrintMore
attribute [local go_sem] max2_int min2_int max_two min_two max_three min_three max_four min_four   -- for this text's walks alone
set_option linter.unusedVariables false
set_option linter.unusedSimpArgs false

/-! ### spec_HoleNumber: function 27 -/
def spec_HoleNumber.f (a0_0:Int) (a0_1:Int) (a0_2:Int):Option (Int×Bool):=(spec_shHole.f a0_0 a0_1 a0_2).bind fun t563=>(if t563=true then((spec_ckNumber.f a0_0 a0_1 a0_2).bind fun t564=>(some (t564,true))) else(some (0,false)))
set_option maxHeartbeats 8000000 in
set_option maxRecDepth 100000 in
theorem spec_HoleNumber.calls (a0_0:Int) (a0_1:Int) (a0_2:Int) (r1:Int) (r2:Bool) (w:World) (h:spec_HoleNumber.f a0_0 a0_1 a0_2=some (r1,r2)) :
 Calls Try.prog 27 #[.agg #[.int .i64 a0_0, .int .i64 a0_1, .int .i64 a0_2]] w fun e w'=>e = .returned (.tuple #[.int .i64 r1, .bool r2])∧Below w.heap.size w w':=by
 have hu42:=Try.underlying42
 have HB:=am_ (Below.refl w.heap.size w)
 have H:((spec_shHole.f a0_0 a0_1 a0_2).bind fun t563=>(if t563=true then((spec_ckNumber.f a0_0 a0_1 a0_2).bind fun t564=>(some (t564,true))) else(some (0,false))))=some (r1,r2):=h
 clear h
 obtain⟨t563,A2,H⟩:=bo_ H
 try dsimp only at H
 by_cases c3:t563=true
 ·subst c3
  replace H:((spec_ckNumber.f a0_0 a0_1 a0_2).bind fun t564=>(some (t564,true)))=some (r1,r2):=by rw[if_pos rfl]at H;exact H
  obtain⟨t564,A4,H⟩:=bo_ H
  try dsimp only at H
  simp only[Option.some.injEq,Prod.mk.injEq]at H
  obtain⟨rfl,rfl⟩:=H
  go_enter Try.func27,Try.ntmps27
  go_wp2_with (first|((with_reducible refine gate_dst (N:=1) rfl ?_);refine box_event ?hg (N:=1) ?hd (cs:= #[.int .i64 a0_0, .int .i64 a0_1, .int .i64 a0_2]) (t:=42) ?hr ?_;(case hd=>rfl);(case hg=>rfl);(case hr=>exact hr_);intro gb562 hg w5 hbox hb;have BK562:=am_ (hbox);have GW562:=am_ ((by rw[hg];exact(below_size (a0_)):w.heap.size≤gb562));have GE562:=am_ ((by rw[hg];exact(below_size (a0_)):w.heap.size≤gb562));replace HB:=am_ (below_step (a0_) hb);clear hb hbox hg;have hcz6_0:w5.cell? ⟨gb562,0,none⟩=some (.int .i64 a0_0):=(blk_cell BK562.out 0).trans rfl;have hcz6_1:w5.cell? ⟨gb562,1,none⟩=some (.int .i64 a0_1):=(blk_cell BK562.out 1).trans rfl;have hcz6_2:w5.cell? ⟨gb562,2,none⟩=some (.int .i64 a0_2):=(blk_cell BK562.out 2).trans rfl;have hfz6_0:=blk_frozen BK562.out 0;have hfz6_1:=blk_frozen BK562.out 1;have hfz6_2:=blk_frozen BK562.out 2)|((with_reducible refine gate_callee (f:=73) rfl ?_);refine goesL_ (some 5) rfl rfl Try.func73 (by kernel_rfl) rfl #[.agg #[.int .i64 a0_0, .int .i64 a0_1, .int .i64 a0_2]] rfl gd_ ?_;(with_reducible refine(spec_shHole.calls a0_0 a0_1 a0_2 true _ A2.out).mono ?_);rintro e w7 ⟨rfl,hb⟩;refine⟨_,rfl,?_⟩;replace BK562:=am_ (blk_below (g:=gb562) (o:= .cells #[.int .i64 a0_0, .int .i64 a0_1, .int .i64 a0_2] 42 (0,0)) ((a5_ BK562.out)) hb);replace HB:=am_ (below_step ((a2_ GE562.out)) hb);(try clear hb);(try clear hb2);(try clear hk);(try clear hi);have hcz8_0:w7.cell? ⟨gb562,0,none⟩=some (.int .i64 a0_0):=(blk_cell BK562.out 0).trans rfl;have hcz8_1:w7.cell? ⟨gb562,1,none⟩=some (.int .i64 a0_1):=(blk_cell BK562.out 1).trans rfl;have hcz8_2:w7.cell? ⟨gb562,2,none⟩=some (.int .i64 a0_2):=(blk_cell BK562.out 2).trans rfl;have hfz8_0:=blk_frozen BK562.out 0;have hfz8_1:=blk_frozen BK562.out 1;have hfz8_2:=blk_frozen BK562.out 2)|((with_reducible refine gate_callee (f:=76) rfl ?_);refine goesL_ (some 8) rfl rfl Try.func76 (by kernel_rfl) rfl #[.agg #[.int .i64 a0_0, .int .i64 a0_1, .int .i64 a0_2]] rfl gd_ ?_;(with_reducible refine(spec_ckNumber.calls a0_0 a0_1 a0_2 t564 _ A4.out).mono ?_);rintro e w9 ⟨rfl,hb⟩;refine⟨_,rfl,?_⟩;replace BK562:=am_ (blk_below (g:=gb562) (o:= .cells #[.int .i64 a0_0, .int .i64 a0_1, .int .i64 a0_2] 42 (0,0)) ((a5_ BK562.out)) hb);replace HB:=am_ (below_step ((a2_ GE562.out)) hb);(try clear hb);(try clear hb2);(try clear hk);(try clear hi)))
  go_ret2
  exact⟨a9_,(a2_ GE562.out)⟩
 ·replace c3:=Bool.eq_false_iff.mpr c3
  subst c3
  replace H:(some (0,false))=some (r1,r2):=by rw[if_neg (show ¬(false=true) by decide)]at H;exact H
  simp only[Option.some.injEq,Prod.mk.injEq]at H
  obtain⟨rfl,rfl⟩:=H
  go_enter Try.func27,Try.ntmps27
  go_wp2_with (first|((with_reducible refine gate_dst (N:=1) rfl ?_);refine box_event ?hg (N:=1) ?hd (cs:= #[.int .i64 a0_0, .int .i64 a0_1, .int .i64 a0_2]) (t:=42) ?hr ?_;(case hd=>rfl);(case hg=>rfl);(case hr=>exact hr_);intro gb562 hg w10 hbox hb;have BK562:=am_ (hbox);have GW562:=am_ ((by rw[hg];exact(below_size (a0_)):w.heap.size≤gb562));have GE562:=am_ ((by rw[hg];exact(below_size (a0_)):w.heap.size≤gb562));replace HB:=am_ (below_step (a0_) hb);clear hb hbox hg;have hcz11_0:w10.cell? ⟨gb562,0,none⟩=some (.int .i64 a0_0):=(blk_cell BK562.out 0).trans rfl;have hcz11_1:w10.cell? ⟨gb562,1,none⟩=some (.int .i64 a0_1):=(blk_cell BK562.out 1).trans rfl;have hcz11_2:w10.cell? ⟨gb562,2,none⟩=some (.int .i64 a0_2):=(blk_cell BK562.out 2).trans rfl;have hfz11_0:=blk_frozen BK562.out 0;have hfz11_1:=blk_frozen BK562.out 1;have hfz11_2:=blk_frozen BK562.out 2)|((with_reducible refine gate_callee (f:=73) rfl ?_);refine goesL_ (some 5) rfl rfl Try.func73 (by kernel_rfl) rfl #[.agg #[.int .i64 a0_0, .int .i64 a0_1, .int .i64 a0_2]] rfl gd_ ?_;(with_reducible refine(spec_shHole.calls a0_0 a0_1 a0_2 false _ A2.out).mono ?_);rintro e w12 ⟨rfl,hb⟩;refine⟨_,rfl,?_⟩;replace BK562:=am_ (blk_below (g:=gb562) (o:= .cells #[.int .i64 a0_0, .int .i64 a0_1, .int .i64 a0_2] 42 (0,0)) ((a5_ BK562.out)) hb);replace HB:=am_ (below_step ((a2_ GE562.out)) hb);(try clear hb);(try clear hb2);(try clear hk);(try clear hi)))
  go_ret2
  exact⟨a9_,(a2_ GE562.out)⟩

end Go.Proofs.Ytplpjmhmochcfaa.QFnCopies
