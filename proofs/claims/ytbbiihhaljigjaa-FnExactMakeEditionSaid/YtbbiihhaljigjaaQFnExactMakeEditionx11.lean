/- Written by a program of this session (the kit's printer, with leaf contracts proved by hand put in): what each Go function computes, and that the call computes it. No condition but those that each theorem names. -/
import Derived.Test.YtbbiihhaljigjaaQFnExactMakeEditionx0
namespace Go.Proofs.Ytbbiihhaljigjaa.QFnExactMakeEdition
open Go.RowKit Go.Proofs.YtbbiihhaljigjaaW.PrintWords Go.Proofs.YtbbiihhaljigjaaW.PrintLast Go.Proofs.YtbbiihhaljigjaaW.PrintMore
attribute [local go_sem] max2_int min2_int max_two min_two max_three min_three max_four min_four   -- for this text's walks alone
set_option linter.unusedVariables false
set_option linter.unusedSimpArgs false

/-! ### laws_eqHole: function 27 -/
def laws_eqHole.f (a0_0:Int) (a0_1:Int) (a0_2:Int) (a1_0:Int) (a1_1:Int) (a1_2:Int):Option (Bool):=if a0_0=a1_0 then(if a0_1=a1_1 then(if a0_2=a1_2 then(some true) else(some false)) else(some false)) else(some false)
set_option maxHeartbeats 8000000 in
set_option maxRecDepth 100000 in
theorem laws_eqHole.calls (a0_0:Int) (a0_1:Int) (a0_2:Int) (a1_0:Int) (a1_1:Int) (a1_2:Int) (r:Bool) (w:World) (h:laws_eqHole.f a0_0 a0_1 a0_2 a1_0 a1_1 a1_2=some r) :
 Calls Try.prog 27 #[.agg #[.int .i64 a0_0, .int .i64 a0_1, .int .i64 a0_2], .agg #[.int .i64 a1_0, .int .i64 a1_1, .int .i64 a1_2]] w fun e w'=>e = .returned (.bool r)∧Below w.heap.size w w':=by
 have hu47:=Try.underlying47
 have HB:=am_ (Below.refl w.heap.size w)
 have H:(if a0_0=a1_0 then(if a0_1=a1_1 then(if a0_2=a1_2 then(some true) else(some false)) else(some false)) else(some false))=some r:=h
 clear h
 by_cases c3:a0_0=a1_0
 ·rw[if_pos c3]at H
  have c3b0:(a0_0 == a1_0)=true:=beq_iff_eq.mpr c3
  have c3b1:(a0_0 != a1_0)=false:=bne_eq_false_iff_eq.mpr c3
  clear c3
  by_cases c4:a0_1=a1_1
  ·rw[if_pos c4]at H
   have c4b0:(a0_1 == a1_1)=true:=beq_iff_eq.mpr c4
   have c4b1:(a0_1 != a1_1)=false:=bne_eq_false_iff_eq.mpr c4
   clear c4
   by_cases c5:a0_2=a1_2
   ·rw[if_pos c5]at H
    have c5b0:(a0_2 == a1_2)=true:=beq_iff_eq.mpr c5
    have c5b1:(a0_2 != a1_2)=false:=bne_eq_false_iff_eq.mpr c5
    clear c5
    obtain rfl:=Option.some.inj H
    go_enter Try.func27,Try.ntmps27
    go_wp2_with (first | ((with_reducible refine gate_dst (N:=2) rfl ?_);refine box_event ?hg (N:=2) ?hd (cs:= #[.int .i64 a0_0, .int .i64 a0_1, .int .i64 a0_2]) (t:=47) ?hr ?_;(case hd=>rfl);(case hg=>rfl);(case hr=>exact a12_);intro gb252 hg w6 hbox hb;have BK252:=am_ (hbox);have GW252:=am_ ((by rw[hg];exact(below_size (a0_)):w.heap.size≤gb252));have GE252:=am_ ((by rw[hg];exact(below_size (a0_)):w.heap.size≤gb252));replace HB:=am_ (below_step (a0_) hb);clear hb hbox hg) | ((with_reducible refine gate_dst (N:=3) rfl ?_);refine box_event ?hg (N:=3) ?hd (cs:= #[.int .i64 a1_0, .int .i64 a1_1, .int .i64 a1_2]) (t:=47) ?hr ?_;(case hd=>rfl);(case hg=>rfl);(case hr=>exact a12_);intro gb253 hg w7 hbox hb;have BK253:=am_ (hbox);have GW253:=am_ ((by rw[hg];exact(below_size ((a1_ GE252.out))):w.heap.size≤gb253));have GE253:=am_ ((by rw[hg];exact(below_size ((a1_ GE252.out))):w.heap.size≤gb253));replace HB:=am_ (below_step ((a1_ GE252.out)) hb);have NB252_253:=am_ ((by rw[hg];exact Nat.ne_of_lt (blk_lt (g:=gb252) (o:= .cells #[.int .i64 a0_0, .int .i64 a0_1, .int .i64 a0_2] 47 (0,0)) ((a3_ BK252.out))):gb252≠gb253));have NB253_252:=am_ ((by rw[hg];exact Nat.ne_of_gt (blk_lt (g:=gb252) (o:= .cells #[.int .i64 a0_0, .int .i64 a0_1, .int .i64 a0_2] 47 (0,0)) ((a3_ BK252.out))):gb253≠gb252));replace BK252:=am_ (blk_below (g:=gb252) (o:= .cells #[.int .i64 a0_0, .int .i64 a0_1, .int .i64 a0_2] 47 (0,0)) ((a3_ BK252.out)) hb);clear hb hbox hg;have hnb8:=NB252_253.out;have hnc8:=NB253_252.out;have hcz9_0:w7.cell? ⟨gb252,0,none⟩=some (.int .i64 a0_0):=(blk_cell BK252.out 0).trans rfl;have hcz9_1:w7.cell? ⟨gb252,1,none⟩=some (.int .i64 a0_1):=(blk_cell BK252.out 1).trans rfl;have hcz9_2:w7.cell? ⟨gb252,2,none⟩=some (.int .i64 a0_2):=(blk_cell BK252.out 2).trans rfl;have hfz9_0:=blk_frozen BK252.out 0;have hfz9_1:=blk_frozen BK252.out 1;have hfz9_2:=blk_frozen BK252.out 2;have hcz10_0:w7.cell? ⟨gb253,0,none⟩=some (.int .i64 a1_0):=(blk_cell BK253.out 0).trans rfl;have hcz10_1:w7.cell? ⟨gb253,1,none⟩=some (.int .i64 a1_1):=(blk_cell BK253.out 1).trans rfl;have hcz10_2:w7.cell? ⟨gb253,2,none⟩=some (.int .i64 a1_2):=(blk_cell BK253.out 2).trans rfl;have hfz10_0:=blk_frozen BK253.out 0;have hfz10_1:=blk_frozen BK253.out 1;have hfz10_2:=blk_frozen BK253.out 2))
    go_ret
    exact⟨a5_,(a7_ GE252.out GE253.out)⟩
   ·rw[if_neg c5]at H
    have c5b0:(a0_2 == a1_2)=false:=beq_eq_false_iff_ne.mpr c5
    have c5b1:(a0_2 != a1_2)=true:=bne_iff_ne.mpr c5
    obtain rfl:=Option.some.inj H
    go_enter Try.func27,Try.ntmps27
    go_wp2_with (first | ((with_reducible refine gate_dst (N:=2) rfl ?_);refine box_event ?hg (N:=2) ?hd (cs:= #[.int .i64 a0_0, .int .i64 a0_1, .int .i64 a0_2]) (t:=47) ?hr ?_;(case hd=>rfl);(case hg=>rfl);(case hr=>exact a12_);intro gb252 hg w11 hbox hb;have BK252:=am_ (hbox);have GW252:=am_ ((by rw[hg];exact(below_size (a0_)):w.heap.size≤gb252));have GE252:=am_ ((by rw[hg];exact(below_size (a0_)):w.heap.size≤gb252));replace HB:=am_ (below_step (a0_) hb);clear hb hbox hg) | ((with_reducible refine gate_dst (N:=3) rfl ?_);refine box_event ?hg (N:=3) ?hd (cs:= #[.int .i64 a1_0, .int .i64 a1_1, .int .i64 a1_2]) (t:=47) ?hr ?_;(case hd=>rfl);(case hg=>rfl);(case hr=>exact a12_);intro gb253 hg w12 hbox hb;have BK253:=am_ (hbox);have GW253:=am_ ((by rw[hg];exact(below_size ((a1_ GE252.out))):w.heap.size≤gb253));have GE253:=am_ ((by rw[hg];exact(below_size ((a1_ GE252.out))):w.heap.size≤gb253));replace HB:=am_ (below_step ((a1_ GE252.out)) hb);have NB252_253:=am_ ((by rw[hg];exact Nat.ne_of_lt (blk_lt (g:=gb252) (o:= .cells #[.int .i64 a0_0, .int .i64 a0_1, .int .i64 a0_2] 47 (0,0)) ((a3_ BK252.out))):gb252≠gb253));have NB253_252:=am_ ((by rw[hg];exact Nat.ne_of_gt (blk_lt (g:=gb252) (o:= .cells #[.int .i64 a0_0, .int .i64 a0_1, .int .i64 a0_2] 47 (0,0)) ((a3_ BK252.out))):gb253≠gb252));replace BK252:=am_ (blk_below (g:=gb252) (o:= .cells #[.int .i64 a0_0, .int .i64 a0_1, .int .i64 a0_2] 47 (0,0)) ((a3_ BK252.out)) hb);clear hb hbox hg;have hnb13:=NB252_253.out;have hnc13:=NB253_252.out;have hcz14_0:w12.cell? ⟨gb252,0,none⟩=some (.int .i64 a0_0):=(blk_cell BK252.out 0).trans rfl;have hcz14_1:w12.cell? ⟨gb252,1,none⟩=some (.int .i64 a0_1):=(blk_cell BK252.out 1).trans rfl;have hcz14_2:w12.cell? ⟨gb252,2,none⟩=some (.int .i64 a0_2):=(blk_cell BK252.out 2).trans rfl;have hfz14_0:=blk_frozen BK252.out 0;have hfz14_1:=blk_frozen BK252.out 1;have hfz14_2:=blk_frozen BK252.out 2;have hcz15_0:w12.cell? ⟨gb253,0,none⟩=some (.int .i64 a1_0):=(blk_cell BK253.out 0).trans rfl;have hcz15_1:w12.cell? ⟨gb253,1,none⟩=some (.int .i64 a1_1):=(blk_cell BK253.out 1).trans rfl;have hcz15_2:w12.cell? ⟨gb253,2,none⟩=some (.int .i64 a1_2):=(blk_cell BK253.out 2).trans rfl;have hfz15_0:=blk_frozen BK253.out 0;have hfz15_1:=blk_frozen BK253.out 1;have hfz15_2:=blk_frozen BK253.out 2))
    go_ret
    exact⟨a5_,(a7_ GE252.out GE253.out)⟩
  ·rw[if_neg c4]at H
   have c4b0:(a0_1 == a1_1)=false:=beq_eq_false_iff_ne.mpr c4
   have c4b1:(a0_1 != a1_1)=true:=bne_iff_ne.mpr c4
   obtain rfl:=Option.some.inj H
   go_enter Try.func27,Try.ntmps27
   go_wp2_with (first | ((with_reducible refine gate_dst (N:=2) rfl ?_);refine box_event ?hg (N:=2) ?hd (cs:= #[.int .i64 a0_0, .int .i64 a0_1, .int .i64 a0_2]) (t:=47) ?hr ?_;(case hd=>rfl);(case hg=>rfl);(case hr=>exact a12_);intro gb252 hg w16 hbox hb;have BK252:=am_ (hbox);have GW252:=am_ ((by rw[hg];exact(below_size (a0_)):w.heap.size≤gb252));have GE252:=am_ ((by rw[hg];exact(below_size (a0_)):w.heap.size≤gb252));replace HB:=am_ (below_step (a0_) hb);clear hb hbox hg) | ((with_reducible refine gate_dst (N:=3) rfl ?_);refine box_event ?hg (N:=3) ?hd (cs:= #[.int .i64 a1_0, .int .i64 a1_1, .int .i64 a1_2]) (t:=47) ?hr ?_;(case hd=>rfl);(case hg=>rfl);(case hr=>exact a12_);intro gb253 hg w17 hbox hb;have BK253:=am_ (hbox);have GW253:=am_ ((by rw[hg];exact(below_size ((a1_ GE252.out))):w.heap.size≤gb253));have GE253:=am_ ((by rw[hg];exact(below_size ((a1_ GE252.out))):w.heap.size≤gb253));replace HB:=am_ (below_step ((a1_ GE252.out)) hb);have NB252_253:=am_ ((by rw[hg];exact Nat.ne_of_lt (blk_lt (g:=gb252) (o:= .cells #[.int .i64 a0_0, .int .i64 a0_1, .int .i64 a0_2] 47 (0,0)) ((a3_ BK252.out))):gb252≠gb253));have NB253_252:=am_ ((by rw[hg];exact Nat.ne_of_gt (blk_lt (g:=gb252) (o:= .cells #[.int .i64 a0_0, .int .i64 a0_1, .int .i64 a0_2] 47 (0,0)) ((a3_ BK252.out))):gb253≠gb252));replace BK252:=am_ (blk_below (g:=gb252) (o:= .cells #[.int .i64 a0_0, .int .i64 a0_1, .int .i64 a0_2] 47 (0,0)) ((a3_ BK252.out)) hb);clear hb hbox hg;have hnb18:=NB252_253.out;have hnc18:=NB253_252.out;have hcz19_0:w17.cell? ⟨gb252,0,none⟩=some (.int .i64 a0_0):=(blk_cell BK252.out 0).trans rfl;have hcz19_1:w17.cell? ⟨gb252,1,none⟩=some (.int .i64 a0_1):=(blk_cell BK252.out 1).trans rfl;have hcz19_2:w17.cell? ⟨gb252,2,none⟩=some (.int .i64 a0_2):=(blk_cell BK252.out 2).trans rfl;have hfz19_0:=blk_frozen BK252.out 0;have hfz19_1:=blk_frozen BK252.out 1;have hfz19_2:=blk_frozen BK252.out 2;have hcz20_0:w17.cell? ⟨gb253,0,none⟩=some (.int .i64 a1_0):=(blk_cell BK253.out 0).trans rfl;have hcz20_1:w17.cell? ⟨gb253,1,none⟩=some (.int .i64 a1_1):=(blk_cell BK253.out 1).trans rfl;have hcz20_2:w17.cell? ⟨gb253,2,none⟩=some (.int .i64 a1_2):=(blk_cell BK253.out 2).trans rfl;have hfz20_0:=blk_frozen BK253.out 0;have hfz20_1:=blk_frozen BK253.out 1;have hfz20_2:=blk_frozen BK253.out 2))
   go_ret
   exact⟨a5_,(a7_ GE252.out GE253.out)⟩
 ·rw[if_neg c3]at H
  have c3b0:(a0_0 == a1_0)=false:=beq_eq_false_iff_ne.mpr c3
  have c3b1:(a0_0 != a1_0)=true:=bne_iff_ne.mpr c3
  obtain rfl:=Option.some.inj H
  go_enter Try.func27,Try.ntmps27
  go_wp2_with (first | ((with_reducible refine gate_dst (N:=2) rfl ?_);refine box_event ?hg (N:=2) ?hd (cs:= #[.int .i64 a0_0, .int .i64 a0_1, .int .i64 a0_2]) (t:=47) ?hr ?_;(case hd=>rfl);(case hg=>rfl);(case hr=>exact a12_);intro gb252 hg w21 hbox hb;have BK252:=am_ (hbox);have GW252:=am_ ((by rw[hg];exact(below_size (a0_)):w.heap.size≤gb252));have GE252:=am_ ((by rw[hg];exact(below_size (a0_)):w.heap.size≤gb252));replace HB:=am_ (below_step (a0_) hb);clear hb hbox hg) | ((with_reducible refine gate_dst (N:=3) rfl ?_);refine box_event ?hg (N:=3) ?hd (cs:= #[.int .i64 a1_0, .int .i64 a1_1, .int .i64 a1_2]) (t:=47) ?hr ?_;(case hd=>rfl);(case hg=>rfl);(case hr=>exact a12_);intro gb253 hg w22 hbox hb;have BK253:=am_ (hbox);have GW253:=am_ ((by rw[hg];exact(below_size ((a1_ GE252.out))):w.heap.size≤gb253));have GE253:=am_ ((by rw[hg];exact(below_size ((a1_ GE252.out))):w.heap.size≤gb253));replace HB:=am_ (below_step ((a1_ GE252.out)) hb);have NB252_253:=am_ ((by rw[hg];exact Nat.ne_of_lt (blk_lt (g:=gb252) (o:= .cells #[.int .i64 a0_0, .int .i64 a0_1, .int .i64 a0_2] 47 (0,0)) ((a3_ BK252.out))):gb252≠gb253));have NB253_252:=am_ ((by rw[hg];exact Nat.ne_of_gt (blk_lt (g:=gb252) (o:= .cells #[.int .i64 a0_0, .int .i64 a0_1, .int .i64 a0_2] 47 (0,0)) ((a3_ BK252.out))):gb253≠gb252));replace BK252:=am_ (blk_below (g:=gb252) (o:= .cells #[.int .i64 a0_0, .int .i64 a0_1, .int .i64 a0_2] 47 (0,0)) ((a3_ BK252.out)) hb);clear hb hbox hg;have hnb23:=NB252_253.out;have hnc23:=NB253_252.out;have hcz24_0:w22.cell? ⟨gb252,0,none⟩=some (.int .i64 a0_0):=(blk_cell BK252.out 0).trans rfl;have hcz24_1:w22.cell? ⟨gb252,1,none⟩=some (.int .i64 a0_1):=(blk_cell BK252.out 1).trans rfl;have hcz24_2:w22.cell? ⟨gb252,2,none⟩=some (.int .i64 a0_2):=(blk_cell BK252.out 2).trans rfl;have hfz24_0:=blk_frozen BK252.out 0;have hfz24_1:=blk_frozen BK252.out 1;have hfz24_2:=blk_frozen BK252.out 2;have hcz25_0:w22.cell? ⟨gb253,0,none⟩=some (.int .i64 a1_0):=(blk_cell BK253.out 0).trans rfl;have hcz25_1:w22.cell? ⟨gb253,1,none⟩=some (.int .i64 a1_1):=(blk_cell BK253.out 1).trans rfl;have hcz25_2:w22.cell? ⟨gb253,2,none⟩=some (.int .i64 a1_2):=(blk_cell BK253.out 2).trans rfl;have hfz25_0:=blk_frozen BK253.out 0;have hfz25_1:=blk_frozen BK253.out 1;have hfz25_2:=blk_frozen BK253.out 2))
  go_ret
  exact⟨a5_,(a7_ GE252.out GE253.out)⟩

/-! ### laws_eqHoleS: function 10 -/
def laws_eqHoleS.l0:Nat→List (S47)→List (S47)→Int→Option (Bool)
 | 0,_,_,_=>none
 | k+1,x0,x1,x5=>if x5<(x0.length:Int) then(if 0≤x5 then(if x5<(x1.length:Int) then((laws_eqHole.f ((rd_T47 x0 x5).f0) ((rd_T47 x0 x5).f1) ((rd_T47 x0 x5).f2) ((rd_T47 x1 x5).f0) ((rd_T47 x1 x5).f1) ((rd_T47 x1 x5).f2)).bind fun t256=>(if t256=true then(laws_eqHoleS.l0 k x0 x1 (wrap64 (x5+1))) else(some false))) else(none)) else(none)) else(some true)
def laws_eqHoleS.f (k:Nat) (l0:List (S47)) (l1:List (S47)):Option (Bool):=if(l0.length:Int)=(l1.length:Int) then(laws_eqHoleS.l0 k l0 l1 0) else(some false)
theorem laws_eqHoleS.mono_l:∀k,(∀y0 y1 y2,LeO (laws_eqHoleS.l0 k y0 y1 y2) (laws_eqHoleS.l0 (k+1) y0 y1 y2))
 | 0=>fun _ _ _ r h=>by simp[laws_eqHoleS.l0]at h
 | k+1=>by
  have ih0:=laws_eqHoleS.mono_l k
  ·intro y0 y1 y2
   unfold laws_eqHoleS.l0
   repeat' first
   | (with_reducible exact ih0 _ _ _)
   | (with_reducible exact LeO.refl _)
   | (with_reducible exact LeO.none _)
   | (with_reducible refine LeO.ite ?_ ?_)
   | (with_reducible refine LeO.bind ?_ (fun _=>?_))
   | exact ih0 _ _ _
   | exact LeO.none _
   | refine LeO.ite ?_ ?_
   | refine LeO.bind ?_ (fun _=>?_)
theorem laws_eqHoleS.mono:∀a0 a1 k,LeO (laws_eqHoleS.f k a0 a1) (laws_eqHoleS.f (k+1) a0 a1):=by
 intro a0 a1 k
 have ih0:=laws_eqHoleS.mono_l k
 unfold laws_eqHoleS.f
 repeat' first
  | (with_reducible exact ih0 _ _ _)
  | (with_reducible exact LeO.refl _)
  | (with_reducible exact LeO.none _)
  | (with_reducible refine LeO.ite ?_ ?_)
  | (with_reducible refine LeO.bind ?_ (fun _=>?_))
  | exact ih0 _ _ _
  | exact LeO.none _
  | refine LeO.ite ?_ ?_
  | refine LeO.bind ?_ (fun _=>?_)
def laws_eqHoleS.T6:Bool×List (List Nat×List Nat):=(true, [([], []),([], []),([0,1], [0,1]),([2], [2]),([], []),([], []),([4,5], [4,5]),([6], [6]),([3,7], [3,7]),([8], [8])])
def laws_eqHoleS.B6:List Nat:=[0,0,3,7,0,0,48,112,255,511]
theorem laws_eqHoleS.tab6:rtab .any (opsOf Try.f10 6)=laws_eqHoleS.T6:=by kernel_rfl
theorem laws_eqHoleS.bits6:waitsOk laws_eqHoleS.T6.2 laws_eqHoleS.B6=true:=by kernel_rfl
set_option maxHeartbeats 8000000 in
set_option maxRecDepth 100000 in
theorem laws_eqHoleS.calls (k:Nat) (A0:Option Addr) (c0:Nat) (l0:List (S47)) (A1:Option Addr) (c1:Nat) (l1:List (S47)) (r:Bool) (w:World) (hr0:Kd.C k47 w A0 l0.length l0) (hc0:l0.length≤c0) (hr1:Kd.C k47 w A1 l1.length l1) (hc1:l1.length≤c1) (h:laws_eqHoleS.f k l0 l1=some r) :
 Calls Try.prog 10 #[.slice A0 l0.length c0, .slice A1 l1.length c1] w fun e w'=>e = .returned (.bool r)∧Below w.heap.size w w':=by
 have hu47:=Try.underlying47
 have HR0:=am_ hr0
 have HC0:=am_ hc0
 clear hr0 hc0
 have HR1:=am_ hr1
 have HC1:=am_ hc1
 clear hr1 hc1
 have HB:=am_ (Below.refl w.heap.size w)
 have H:(if(l0.length:Int)=(l1.length:Int) then(laws_eqHoleS.l0 k l0 l1 0) else(some false))=some r:=h
 clear h
 by_cases c3:(l0.length:Int)=(l1.length:Int)
 ·rw[if_pos c3]at H
  have c3b0:((l0.length:Int) == (l1.length:Int))=true:=beq_iff_eq.mpr c3
  have c3b1:((l0.length:Int) != (l1.length:Int))=false:=bne_eq_false_iff_eq.mpr c3
  have c3b2:(l0.length == l1.length)=true:=a38_
  clear c3
  have H':=am_ H
  clear H
  go_enter Try.func10,Try.ntmps10
  go_wp2
  go_loopg [5] k (fun kq v5 w'=>∃(x5_1:Int),v5 = .int .i64 x5_1∧Aside0 (laws_eqHoleS.l0 kq l0 l1 x5_1=some r)∧Aside0 (kq≤k)∧Aside0 (Below w.heap.size w w'))
  case atStart=>exact⟨(0),(a6_),H',⟨Nat.le_refl _⟩,⟨a0_⟩⟩
  case round=>
   clear H'
   try clear c1
   try clear p2
   try clear c3
   try clear c3b0
   try clear c3b1
   try clear c3b2
   obtain⟨x5_1,rfl,HA,HK1,HB⟩:=hrel
   cases gk with
   | zero=>exact absurd HA.out (by simp[laws_eqHoleS.l0])
   | succ k1=>
    have H:=HA.out
    clear HA
    simp only[laws_eqHoleS.l0]at H
    by_cases c4:x5_1<(l0.length:Int)
    ·rw[if_pos c4]at H
     have c4b0:decide (x5_1<(l0.length:Int))=true:=decide_eq_true c4
     clear c4
     by_cases c5:0≤x5_1
     ·rw[if_pos c5]at H
      have c5b0:decide (0≤x5_1)=true:=decide_eq_true c5
      clear c5
      by_cases c6:x5_1<(l1.length:Int)
      ·rw[if_pos c6]at H
       have c6b0:decide (x5_1<(l1.length:Int))=true:=decide_eq_true c6
       clear c6
       replace H:=Option.bind_eq_some_iff.mp H
       obtain⟨t256,A70,H⟩:=H
       replace H:(if t256=true then(laws_eqHoleS.l0 k1 l0 l1 (wrap64 (x5_1+1))) else(some false))=some r:=H
       have A7:=am_ A70
       clear A70
       by_cases c8:t256=true
       ·subst c8
        replace H:(laws_eqHoleS.l0 k1 l0 l1 (wrap64 (x5_1+1)))=some r:=by rw[if_pos rfl]at H;exact H
        have H':=am_ H
        clear H
        try go_wp2
        replace HB:=am_ (below_drew1 HB.out)
        have p254:0≤(x5_1:Int):=of_decide_eq_true (a4_)
        have q254:x5_1<(l0.length:Int):=of_decide_eq_true (a4_)
        obtain⟨ad254,e254,hx254_0,hx254_1,hx254_2⟩:=at_T47 HR0.out x5_1 p254 q254
        have hw254_2:=hx254_2
        have hw254_1:=hx254_1
        have hw254_0:=hx254_0
        cases e254
        replace hx254_0:=(HB.out.cell (World.block_lt_of_cell? w _ hx254_0)).trans hx254_0
        replace hx254_1:=(HB.out.cell (World.block_lt_of_cell? w _ hx254_1)).trans hx254_1
        replace hx254_2:=(HB.out.cell (World.block_lt_of_cell? w _ hx254_2)).trans hx254_2
        replace p254:=eq_true p254
        replace q254:=eq_true q254
        have p255:0≤(x5_1:Int):=of_decide_eq_true (a4_)
        have q255:x5_1<(l1.length:Int):=of_decide_eq_true (a4_)
        obtain⟨ad255,e255,hx255_0,hx255_1,hx255_2⟩:=at_T47 HR1.out x5_1 p255 q255
        have hw255_2:=hx255_2
        have hw255_1:=hx255_1
        have hw255_0:=hx255_0
        cases e255
        replace hx255_0:=(HB.out.cell (World.block_lt_of_cell? w _ hx255_0)).trans hx255_0
        replace hx255_1:=(HB.out.cell (World.block_lt_of_cell? w _ hx255_1)).trans hx255_1
        replace hx255_2:=(HB.out.cell (World.block_lt_of_cell? w _ hx255_2)).trans hx255_2
        replace p255:=eq_true p255
        replace q255:=eq_true q255
        refine start_ (n:=10) (S:=fun w'=>w'.cell? (ad254.add ((x5_1).toNat*3))=some (.int .i64 ((rd_T47 l0 x5_1).f0))∧w'.cell? ⟨(ad254.add ((x5_1).toNat*3)).block,(ad254.add ((x5_1).toNat*3)).off+1,none⟩=some (.int .i64 ((rd_T47 l0 x5_1).f1))∧w'.cell? ⟨(ad254.add ((x5_1).toNat*3)).block,(ad254.add ((x5_1).toNat*3)).off+2,none⟩=some (.int .i64 ((rd_T47 l0 x5_1).f2))∧w'.cell? (ad255.add ((x5_1).toNat*3))=some (.int .i64 ((rd_T47 l1 x5_1).f0))∧w'.cell? ⟨(ad255.add ((x5_1).toNat*3)).block,(ad255.add ((x5_1).toNat*3)).off+1,none⟩=some (.int .i64 ((rd_T47 l1 x5_1).f1))∧w'.cell? ⟨(ad255.add ((x5_1).toNat*3)).block,(ad255.add ((x5_1).toNat*3)).off+2,none⟩=some (.int .i64 ((rd_T47 l1 x5_1).f2))) (ds:=[]) #[false,false,false,false,false,false,false,false,false,false] (by kernel_rfl) rfl rfl ⟨((HB.out.cell (World.block_lt_of_cell? w _ hw254_0)).trans hw254_0),((HB.out.cell (World.block_lt_of_cell? w _ hw254_1)).trans hw254_1),((HB.out.cell (World.block_lt_of_cell? w _ hw254_2)).trans hw254_2),((HB.out.cell (World.block_lt_of_cell? w _ hw255_0)).trans hw255_0),((HB.out.cell (World.block_lt_of_cell? w _ hw255_1)).trans hw255_1),((HB.out.cell (World.block_lt_of_cell? w _ hw255_2)).trans hw255_2)⟩ (fun hHeld=>?_);refine with_tabW laws_eqHoleS.tab6 laws_eqHoleS.bits6 (fun HT_ HW_=>?_)
        generalize wr.drew=w9 at HB hx254_0 hx254_1 hx254_2 hx255_0 hx255_1 hx255_2 hHeld ⊢
        refine pure_ (i:=0) (N:=some 17) (v:=?_) (a':=?_) #[true,false,false,false,false,false,false,false,false,false] rfl rfl (any_of HT_.out (by kernel_rfl)) (fun _ _ _ h=>h) (Or.inl ⟨by rfl,?_⟩) ?_ ?_
        rotate_left
        ·intro w'
         go_simp
         with_reducible rfl
        rotate_left
        ·simp only[Act.put,pu_]
         rfl
        refine pure_ (i:=1) (N:=some 18) (v:=?_) (a':=?_) #[true,true,false,false,false,false,false,false,false,false] rfl rfl (any_of HT_.out (by kernel_rfl)) (fun _ _ _ h=>h) (Or.inl ⟨by rfl,?_⟩) ?_ ?_
        rotate_left
        ·intro w'
         go_simp
         with_reducible rfl
        rotate_left
        ·simp only[Act.put,pu_]
         rfl
        refine pure_ (i:=2) (N:=some 19) (v:=?_) (a':=?_) #[true,true,true,false,false,false,false,false,false,false] rfl rfl (any_of HT_.out (by kernel_rfl)) (fun _ _ _ h=>h) (Or.inl ⟨by rfl,?_⟩) ?_ ?_
        rotate_left
        ·intro w'
         go_simp
         with_reducible rfl
        rotate_left
        ·simp only[Act.put,pu_]
         rfl
        refine pure_ (i:=4) (N:=some 21) (v:=?_) (a':=?_) #[true,true,true,false,true,false,false,false,false,false] rfl rfl (any_of HT_.out (by kernel_rfl)) (fun _ _ _ h=>h) (Or.inl ⟨by rfl,?_⟩) ?_ ?_
        rotate_left
        ·intro w'
         go_simp
         with_reducible rfl
        rotate_left
        ·simp only[Act.put,pu_]
         rfl
        refine pure_ (i:=5) (N:=some 22) (v:=?_) (a':=?_) #[true,true,true,false,true,true,false,false,false,false] rfl rfl (any_of HT_.out (by kernel_rfl)) (fun _ _ _ h=>h) (Or.inl ⟨by rfl,?_⟩) ?_ ?_
        rotate_left
        ·intro w'
         go_simp
         with_reducible rfl
        rotate_left
        ·simp only[Act.put,pu_]
         rfl
        refine pure_ (i:=6) (N:=some 23) (v:=?_) (a':=?_) #[true,true,true,false,true,true,true,false,false,false] rfl rfl (any_of HT_.out (by kernel_rfl)) (fun _ _ _ h=>h) (Or.inl ⟨by rfl,?_⟩) ?_ ?_
        rotate_left
        ·intro w'
         go_simp
         with_reducible rfl
        rotate_left
        ·simp only[Act.put,pu_]
         rfl
        refine take_ (i:=3) (N:=some 20) (v:=?_) (a':=?_) #[true,true,true,true,true,true,true,false,false,false] rfl rfl (take_ofW HT_.out HW_.out (by kernel_rfl)) (fun _ _ _ h=>h) (Or.inl ⟨by rfl,?_⟩) hHeld ?_ ?_
        rotate_left
        ·rintro w' ⟨s0,s1,s2,s3,s4,s5⟩
         go_simp
         with_reducible rfl
        rotate_left
        ·simp only[Act.put,pu_]
         rfl
        refine take_ (i:=7) (N:=some 24) (v:=?_) (a':=?_) #[true,true,true,true,true,true,true,true,false,false] rfl rfl (take_ofW HT_.out HW_.out (by kernel_rfl)) (fun _ _ _ h=>h) (Or.inl ⟨by rfl,?_⟩) hHeld ?_ ?_
        rotate_left
        ·rintro w' ⟨s0,s1,s2,s3,s4,s5⟩
         go_simp
         with_reducible rfl
        rotate_left
        ·simp only[Act.put,pu_]
         rfl
        refine one_ (i:=8) (N:=some 25) #[true,true,true,true,true,true,true,true,true,false] rfl rfl (one_of HT_.out (by kernel_rfl)) (by decide) (fun K hK=>?_)
        refine goes_ Try.func27 (by kernel_rfl) rfl #[.agg #[.int .i64 ((rd_T47 l0 x5_1).f0), .int .i64 ((rd_T47 l0 x5_1).f1), .int .i64 ((rd_T47 l0 x5_1).f2)], .agg #[.int .i64 ((rd_T47 l1 x5_1).f0), .int .i64 ((rd_T47 l1 x5_1).f1), .int .i64 ((rd_T47 l1 x5_1).f2)]] (by rfl) rfl rfl (by(try simp only[List.map_toArray,List.map_cons,List.map_nil]);first | done | rfl | (simp only[List.length_drop,List.length_take];rfl)) ?_
        with_reducible refine(laws_eqHole.calls ((rd_T47 l0 x5_1).f0) ((rd_T47 l0 x5_1).f1) ((rd_T47 l0 x5_1).f2) ((rd_T47 l1 x5_1).f0) ((rd_T47 l1 x5_1).f1) ((rd_T47 l1 x5_1).f2) true _ A7.out).mono ?_
        rintro e w10 ⟨rfl,hb⟩
        refine⟨_,rfl,?_⟩
        replace HB:=am_ (below_step (a0_) hb)
        (try clear hb)
        (try clear hb2)
        (try clear hk)
        (try clear hi)
        refine hK.out _ _ ⟨((HB.out.cell (World.block_lt_of_cell? w _ hw254_0)).trans hw254_0),((HB.out.cell (World.block_lt_of_cell? w _ hw254_1)).trans hw254_1),((HB.out.cell (World.block_lt_of_cell? w _ hw254_2)).trans hw254_2),((HB.out.cell (World.block_lt_of_cell? w _ hw255_0)).trans hw255_0),((HB.out.cell (World.block_lt_of_cell? w _ hw255_1)).trans hw255_1),((HB.out.cell (World.block_lt_of_cell? w _ hw255_2)).trans hw255_2)⟩ (fun hHeld=>?_)
        clear hK K
        refine norm_ (a':=?_) ?_ ?_
        rotate_left
        ·show Act.put _ (some 25) _=_
         simp only[Act.put,pu_]
         rfl
        refine pure_ (i:=9) (N:=some 26) (v:=?_) (a':=?_) #[true,true,true,true,true,true,true,true,true,true] rfl rfl (any_of HT_.out (by kernel_rfl)) (fun _ _ _ h=>h) (Or.inl ⟨by rfl,?_⟩) ?_ ?_
        rotate_left
        ·intro w'
         go_simp
         with_reducible rfl
        rotate_left
        ·simp only[Act.put,pu_]
         rfl
        refine done_ (done_of HT_.out (by kernel_rfl)) ?_
        try go_wp2
        go_roundg k1
        case measure=>have:=HK1.out;omega
        case rel=>exact⟨(wrap64 (x5_1+1)),(a6_),H',⟨by have:=HK1.out;omega⟩,⟨a0_⟩⟩
       ·replace c8:=Bool.eq_false_iff.mpr c8
        subst c8
        replace H:(some false)=some r:=by rw[if_neg (show ¬(false=true) by decide)]at H;exact H
        obtain rfl:=Option.some.inj H
        try go_wp2
        replace HB:=am_ (below_drew1 HB.out)
        have p254:0≤(x5_1:Int):=of_decide_eq_true (a4_)
        have q254:x5_1<(l0.length:Int):=of_decide_eq_true (a4_)
        obtain⟨ad254,e254,hx254_0,hx254_1,hx254_2⟩:=at_T47 HR0.out x5_1 p254 q254
        have hw254_2:=hx254_2
        have hw254_1:=hx254_1
        have hw254_0:=hx254_0
        cases e254
        replace hx254_0:=(HB.out.cell (World.block_lt_of_cell? w _ hx254_0)).trans hx254_0
        replace hx254_1:=(HB.out.cell (World.block_lt_of_cell? w _ hx254_1)).trans hx254_1
        replace hx254_2:=(HB.out.cell (World.block_lt_of_cell? w _ hx254_2)).trans hx254_2
        replace p254:=eq_true p254
        replace q254:=eq_true q254
        have p255:0≤(x5_1:Int):=of_decide_eq_true (a4_)
        have q255:x5_1<(l1.length:Int):=of_decide_eq_true (a4_)
        obtain⟨ad255,e255,hx255_0,hx255_1,hx255_2⟩:=at_T47 HR1.out x5_1 p255 q255
        have hw255_2:=hx255_2
        have hw255_1:=hx255_1
        have hw255_0:=hx255_0
        cases e255
        replace hx255_0:=(HB.out.cell (World.block_lt_of_cell? w _ hx255_0)).trans hx255_0
        replace hx255_1:=(HB.out.cell (World.block_lt_of_cell? w _ hx255_1)).trans hx255_1
        replace hx255_2:=(HB.out.cell (World.block_lt_of_cell? w _ hx255_2)).trans hx255_2
        replace p255:=eq_true p255
        replace q255:=eq_true q255
        refine start_ (n:=10) (S:=fun w'=>w'.cell? (ad254.add ((x5_1).toNat*3))=some (.int .i64 ((rd_T47 l0 x5_1).f0))∧w'.cell? ⟨(ad254.add ((x5_1).toNat*3)).block,(ad254.add ((x5_1).toNat*3)).off+1,none⟩=some (.int .i64 ((rd_T47 l0 x5_1).f1))∧w'.cell? ⟨(ad254.add ((x5_1).toNat*3)).block,(ad254.add ((x5_1).toNat*3)).off+2,none⟩=some (.int .i64 ((rd_T47 l0 x5_1).f2))∧w'.cell? (ad255.add ((x5_1).toNat*3))=some (.int .i64 ((rd_T47 l1 x5_1).f0))∧w'.cell? ⟨(ad255.add ((x5_1).toNat*3)).block,(ad255.add ((x5_1).toNat*3)).off+1,none⟩=some (.int .i64 ((rd_T47 l1 x5_1).f1))∧w'.cell? ⟨(ad255.add ((x5_1).toNat*3)).block,(ad255.add ((x5_1).toNat*3)).off+2,none⟩=some (.int .i64 ((rd_T47 l1 x5_1).f2))) (ds:=[]) #[false,false,false,false,false,false,false,false,false,false] (by kernel_rfl) rfl rfl ⟨((HB.out.cell (World.block_lt_of_cell? w _ hw254_0)).trans hw254_0),((HB.out.cell (World.block_lt_of_cell? w _ hw254_1)).trans hw254_1),((HB.out.cell (World.block_lt_of_cell? w _ hw254_2)).trans hw254_2),((HB.out.cell (World.block_lt_of_cell? w _ hw255_0)).trans hw255_0),((HB.out.cell (World.block_lt_of_cell? w _ hw255_1)).trans hw255_1),((HB.out.cell (World.block_lt_of_cell? w _ hw255_2)).trans hw255_2)⟩ (fun hHeld=>?_);refine with_tabW laws_eqHoleS.tab6 laws_eqHoleS.bits6 (fun HT_ HW_=>?_)
        generalize wr.drew=w11 at HB hx254_0 hx254_1 hx254_2 hx255_0 hx255_1 hx255_2 hHeld ⊢
        refine pure_ (i:=0) (N:=some 17) (v:=?_) (a':=?_) #[true,false,false,false,false,false,false,false,false,false] rfl rfl (any_of HT_.out (by kernel_rfl)) (fun _ _ _ h=>h) (Or.inl ⟨by rfl,?_⟩) ?_ ?_
        rotate_left
        ·intro w'
         go_simp
         with_reducible rfl
        rotate_left
        ·simp only[Act.put,pu_]
         rfl
        refine pure_ (i:=1) (N:=some 18) (v:=?_) (a':=?_) #[true,true,false,false,false,false,false,false,false,false] rfl rfl (any_of HT_.out (by kernel_rfl)) (fun _ _ _ h=>h) (Or.inl ⟨by rfl,?_⟩) ?_ ?_
        rotate_left
        ·intro w'
         go_simp
         with_reducible rfl
        rotate_left
        ·simp only[Act.put,pu_]
         rfl
        refine pure_ (i:=2) (N:=some 19) (v:=?_) (a':=?_) #[true,true,true,false,false,false,false,false,false,false] rfl rfl (any_of HT_.out (by kernel_rfl)) (fun _ _ _ h=>h) (Or.inl ⟨by rfl,?_⟩) ?_ ?_
        rotate_left
        ·intro w'
         go_simp
         with_reducible rfl
        rotate_left
        ·simp only[Act.put,pu_]
         rfl
        refine pure_ (i:=4) (N:=some 21) (v:=?_) (a':=?_) #[true,true,true,false,true,false,false,false,false,false] rfl rfl (any_of HT_.out (by kernel_rfl)) (fun _ _ _ h=>h) (Or.inl ⟨by rfl,?_⟩) ?_ ?_
        rotate_left
        ·intro w'
         go_simp
         with_reducible rfl
        rotate_left
        ·simp only[Act.put,pu_]
         rfl
        refine pure_ (i:=5) (N:=some 22) (v:=?_) (a':=?_) #[true,true,true,false,true,true,false,false,false,false] rfl rfl (any_of HT_.out (by kernel_rfl)) (fun _ _ _ h=>h) (Or.inl ⟨by rfl,?_⟩) ?_ ?_
        rotate_left
        ·intro w'
         go_simp
         with_reducible rfl
        rotate_left
        ·simp only[Act.put,pu_]
         rfl
        refine pure_ (i:=6) (N:=some 23) (v:=?_) (a':=?_) #[true,true,true,false,true,true,true,false,false,false] rfl rfl (any_of HT_.out (by kernel_rfl)) (fun _ _ _ h=>h) (Or.inl ⟨by rfl,?_⟩) ?_ ?_
        rotate_left
        ·intro w'
         go_simp
         with_reducible rfl
        rotate_left
        ·simp only[Act.put,pu_]
         rfl
        refine take_ (i:=3) (N:=some 20) (v:=?_) (a':=?_) #[true,true,true,true,true,true,true,false,false,false] rfl rfl (take_ofW HT_.out HW_.out (by kernel_rfl)) (fun _ _ _ h=>h) (Or.inl ⟨by rfl,?_⟩) hHeld ?_ ?_
        rotate_left
        ·rintro w' ⟨s0,s1,s2,s3,s4,s5⟩
         go_simp
         with_reducible rfl
        rotate_left
        ·simp only[Act.put,pu_]
         rfl
        refine take_ (i:=7) (N:=some 24) (v:=?_) (a':=?_) #[true,true,true,true,true,true,true,true,false,false] rfl rfl (take_ofW HT_.out HW_.out (by kernel_rfl)) (fun _ _ _ h=>h) (Or.inl ⟨by rfl,?_⟩) hHeld ?_ ?_
        rotate_left
        ·rintro w' ⟨s0,s1,s2,s3,s4,s5⟩
         go_simp
         with_reducible rfl
        rotate_left
        ·simp only[Act.put,pu_]
         rfl
        refine one_ (i:=8) (N:=some 25) #[true,true,true,true,true,true,true,true,true,false] rfl rfl (one_of HT_.out (by kernel_rfl)) (by decide) (fun K hK=>?_)
        refine goes_ Try.func27 (by kernel_rfl) rfl #[.agg #[.int .i64 ((rd_T47 l0 x5_1).f0), .int .i64 ((rd_T47 l0 x5_1).f1), .int .i64 ((rd_T47 l0 x5_1).f2)], .agg #[.int .i64 ((rd_T47 l1 x5_1).f0), .int .i64 ((rd_T47 l1 x5_1).f1), .int .i64 ((rd_T47 l1 x5_1).f2)]] (by rfl) rfl rfl (by(try simp only[List.map_toArray,List.map_cons,List.map_nil]);first | done | rfl | (simp only[List.length_drop,List.length_take];rfl)) ?_
        with_reducible refine(laws_eqHole.calls ((rd_T47 l0 x5_1).f0) ((rd_T47 l0 x5_1).f1) ((rd_T47 l0 x5_1).f2) ((rd_T47 l1 x5_1).f0) ((rd_T47 l1 x5_1).f1) ((rd_T47 l1 x5_1).f2) false _ A7.out).mono ?_
        rintro e w12 ⟨rfl,hb⟩
        refine⟨_,rfl,?_⟩
        replace HB:=am_ (below_step (a0_) hb)
        (try clear hb)
        (try clear hb2)
        (try clear hk)
        (try clear hi)
        refine hK.out _ _ ⟨((HB.out.cell (World.block_lt_of_cell? w _ hw254_0)).trans hw254_0),((HB.out.cell (World.block_lt_of_cell? w _ hw254_1)).trans hw254_1),((HB.out.cell (World.block_lt_of_cell? w _ hw254_2)).trans hw254_2),((HB.out.cell (World.block_lt_of_cell? w _ hw255_0)).trans hw255_0),((HB.out.cell (World.block_lt_of_cell? w _ hw255_1)).trans hw255_1),((HB.out.cell (World.block_lt_of_cell? w _ hw255_2)).trans hw255_2)⟩ (fun hHeld=>?_)
        clear hK K
        refine norm_ (a':=?_) ?_ ?_
        rotate_left
        ·show Act.put _ (some 25) _=_
         simp only[Act.put,pu_]
         rfl
        refine pure_ (i:=9) (N:=some 26) (v:=?_) (a':=?_) #[true,true,true,true,true,true,true,true,true,true] rfl rfl (any_of HT_.out (by kernel_rfl)) (fun _ _ _ h=>h) (Or.inl ⟨by rfl,?_⟩) ?_ ?_
        rotate_left
        ·intro w'
         go_simp
         with_reducible rfl
        rotate_left
        ·simp only[Act.put,pu_]
         rfl
        refine done_ (done_of HT_.out (by kernel_rfl)) ?_
        try go_wp2
        go_ret
        exact⟨a5_,a0_⟩
      ·rw[if_neg c6]at H
       exact absurd H (by simp)
     ·rw[if_neg c5]at H
      exact absurd H (by simp)
    ·rw[if_neg c4]at H
     have c4b0:decide (x5_1<(l0.length:Int))=false:=decide_eq_false c4
     clear c4
     obtain rfl:=Option.some.inj H
     go_wp2
     go_ret
     exact⟨a5_,a0_⟩
 ·rw[if_neg c3]at H
  have c3b0:((l0.length:Int) == (l1.length:Int))=false:=beq_eq_false_iff_ne.mpr c3
  have c3b1:((l0.length:Int) != (l1.length:Int))=true:=bne_iff_ne.mpr c3
  have c3b2:(l0.length == l1.length)=false:=a38_
  obtain rfl:=Option.some.inj H
  go_enter Try.func10,Try.ntmps10
  go_wp2
  go_ret
  exact⟨a5_,a0_⟩

/-! ### laws_eqHoleSS: function 11 -/
def laws_eqHoleSS.l0:Nat→List (List (S47))→List (List (S47))→Int→Option (Bool)
 | 0,_,_,_=>none
 | k+1,x0,x1,x5=>if x5<(x0.length:Int) then(if 0≤x5 then(if x5<(x1.length:Int) then((laws_eqHoleS.f k (rd_L6 x0 x5) (rd_L6 x1 x5)).bind fun t259=>(if t259=true then(laws_eqHoleSS.l0 k x0 x1 (wrap64 (x5+1))) else(some false))) else(none)) else(none)) else(some true)
def laws_eqHoleSS.f (k:Nat) (l0:List (List (S47))) (l1:List (List (S47))):Option (Bool):=if(l0.length:Int)=(l1.length:Int) then(laws_eqHoleSS.l0 k l0 l1 0) else(some false)
theorem laws_eqHoleSS.mono_l:∀k,(∀y0 y1 y2,LeO (laws_eqHoleSS.l0 k y0 y1 y2) (laws_eqHoleSS.l0 (k+1) y0 y1 y2))
 | 0=>fun _ _ _ r h=>by simp[laws_eqHoleSS.l0]at h
 | k+1=>by
  have ih0:=laws_eqHoleSS.mono_l k
  ·intro y0 y1 y2
   unfold laws_eqHoleSS.l0
   repeat' first
   | (with_reducible exact ih0 _ _ _)
   | (with_reducible exact laws_eqHoleS.mono _ _ _)
   | (with_reducible exact LeO.refl _)
   | (with_reducible exact LeO.none _)
   | (with_reducible refine LeO.ite ?_ ?_)
   | (with_reducible refine LeO.bind ?_ (fun _=>?_))
   | exact ih0 _ _ _
   | exact laws_eqHoleS.mono _ _ _
   | exact LeO.none _
   | refine LeO.ite ?_ ?_
   | refine LeO.bind ?_ (fun _=>?_)
theorem laws_eqHoleSS.mono:∀a0 a1 k,LeO (laws_eqHoleSS.f k a0 a1) (laws_eqHoleSS.f (k+1) a0 a1):=by
 intro a0 a1 k
 have ih0:=laws_eqHoleSS.mono_l k
 unfold laws_eqHoleSS.f
 repeat' first
  | (with_reducible exact ih0 _ _ _)
  | (with_reducible exact laws_eqHoleS.mono _ _ _)
  | (with_reducible exact LeO.refl _)
  | (with_reducible exact LeO.none _)
  | (with_reducible refine LeO.ite ?_ ?_)
  | (with_reducible refine LeO.bind ?_ (fun _=>?_))
  | exact ih0 _ _ _
  | exact laws_eqHoleS.mono _ _ _
  | exact LeO.none _
  | refine LeO.ite ?_ ?_
  | refine LeO.bind ?_ (fun _=>?_)
def laws_eqHoleSS.T6:Bool×List (List Nat×List Nat):=(true, [([], []),([], []),([0,1], [0,1]),([2], [2]),([], []),([], []),([4,5], [4,5]),([6], [6]),([3,7], [3,7]),([8], [8])])
def laws_eqHoleSS.B6:List Nat:=[0,0,3,7,0,0,48,112,255,511]
theorem laws_eqHoleSS.tab6:rtab .any (opsOf Try.f11 6)=laws_eqHoleSS.T6:=by kernel_rfl
theorem laws_eqHoleSS.bits6:waitsOk laws_eqHoleSS.T6.2 laws_eqHoleSS.B6=true:=by kernel_rfl
set_option maxHeartbeats 8000000 in
set_option maxRecDepth 100000 in
theorem laws_eqHoleSS.calls (k:Nat) (A0:Option Addr) (c0:Nat) (l0:List (List (S47))) (A1:Option Addr) (c1:Nat) (l1:List (List (S47))) (r:Bool) (w:World) (hr0:Kd.C (Kd.slice 47 k47) w A0 l0.length l0) (hc0:l0.length≤c0) (hr1:Kd.C (Kd.slice 47 k47) w A1 l1.length l1) (hc1:l1.length≤c1) (h:laws_eqHoleSS.f k l0 l1=some r) :
 Calls Try.prog 11 #[.slice A0 l0.length c0, .slice A1 l1.length c1] w fun e w'=>e = .returned (.bool r)∧Below w.heap.size w w':=by
 have HR0:=am_ hr0
 have HC0:=am_ hc0
 clear hr0 hc0
 have HR1:=am_ hr1
 have HC1:=am_ hc1
 clear hr1 hc1
 have HB:=am_ (Below.refl w.heap.size w)
 have H:(if(l0.length:Int)=(l1.length:Int) then(laws_eqHoleSS.l0 k l0 l1 0) else(some false))=some r:=h
 clear h
 by_cases c3:(l0.length:Int)=(l1.length:Int)
 ·rw[if_pos c3]at H
  have c3b0:((l0.length:Int) == (l1.length:Int))=true:=beq_iff_eq.mpr c3
  have c3b1:((l0.length:Int) != (l1.length:Int))=false:=bne_eq_false_iff_eq.mpr c3
  have c3b2:(l0.length == l1.length)=true:=a38_
  clear c3
  have H':=am_ H
  clear H
  go_enter Try.func11,Try.ntmps11
  go_wp2
  go_loopg [5] k (fun kq v5 w'=>∃(x5_1:Int),v5 = .int .i64 x5_1∧Aside0 (laws_eqHoleSS.l0 kq l0 l1 x5_1=some r)∧Aside0 (kq≤k)∧Aside0 (Below w.heap.size w w'))
  case atStart=>exact⟨(0),(a6_),H',⟨Nat.le_refl _⟩,⟨a0_⟩⟩
  case round=>
   clear H'
   try clear c1
   try clear p2
   try clear c3
   try clear c3b0
   try clear c3b1
   try clear c3b2
   obtain⟨x5_1,rfl,HA,HK1,HB⟩:=hrel
   cases gk with
   | zero=>exact absurd HA.out (by simp[laws_eqHoleSS.l0])
   | succ k1=>
    have H:=HA.out
    clear HA
    simp only[laws_eqHoleSS.l0]at H
    by_cases c4:x5_1<(l0.length:Int)
    ·rw[if_pos c4]at H
     have c4b0:decide (x5_1<(l0.length:Int))=true:=decide_eq_true c4
     clear c4
     by_cases c5:0≤x5_1
     ·rw[if_pos c5]at H
      have c5b0:decide (0≤x5_1)=true:=decide_eq_true c5
      clear c5
      by_cases c6:x5_1<(l1.length:Int)
      ·rw[if_pos c6]at H
       have c6b0:decide (x5_1<(l1.length:Int))=true:=decide_eq_true c6
       clear c6
       replace H:=Option.bind_eq_some_iff.mp H
       obtain⟨t259,A70,H⟩:=H
       replace H:(if t259=true then(laws_eqHoleSS.l0 k1 l0 l1 (wrap64 (x5_1+1))) else(some false))=some r:=H
       have A7:=am_ A70
       clear A70
       by_cases c8:t259=true
       ·subst c8
        replace H:(laws_eqHoleSS.l0 k1 l0 l1 (wrap64 (x5_1+1)))=some r:=by rw[if_pos rfl]at H;exact H
        have H':=am_ H
        clear H
        try go_wp2
        replace HB:=am_ (below_drew1 HB.out)
        have p257:0≤(x5_1:Int):=of_decide_eq_true (a4_)
        have q257:x5_1<(l0.length:Int):=of_decide_eq_true (a4_)
        obtain⟨ad257,A257_0,c257_0,e257,hx257_0,hl257_0,hi257_0⟩:=at_L6 HR0.out x5_1 p257 q257
        have hw257_0:=hx257_0
        cases e257
        replace hx257_0:=(HB.out.cell (World.block_lt_of_cell? w _ hx257_0)).trans hx257_0
        have HR257_0:=am_ hi257_0
        have HC257_0:=am_ hl257_0
        clear hi257_0 hl257_0
        replace p257:=eq_true p257
        replace q257:=eq_true q257
        have p258:0≤(x5_1:Int):=of_decide_eq_true (a4_)
        have q258:x5_1<(l1.length:Int):=of_decide_eq_true (a4_)
        obtain⟨ad258,A258_0,c258_0,e258,hx258_0,hl258_0,hi258_0⟩:=at_L6 HR1.out x5_1 p258 q258
        have hw258_0:=hx258_0
        cases e258
        replace hx258_0:=(HB.out.cell (World.block_lt_of_cell? w _ hx258_0)).trans hx258_0
        have HR258_0:=am_ hi258_0
        have HC258_0:=am_ hl258_0
        clear hi258_0 hl258_0
        replace p258:=eq_true p258
        replace q258:=eq_true q258
        refine start_ (n:=10) (S:=fun w'=>w'.cell? (ad257.add (x5_1).toNat)=some (.slice A257_0 (rd_L6 l0 x5_1).length c257_0)∧w'.cell? (ad258.add (x5_1).toNat)=some (.slice A258_0 (rd_L6 l1 x5_1).length c258_0)) (ds:=[]) #[false,false,false,false,false,false,false,false,false,false] (by kernel_rfl) rfl rfl ⟨((HB.out.cell (World.block_lt_of_cell? w _ hw257_0)).trans hw257_0),((HB.out.cell (World.block_lt_of_cell? w _ hw258_0)).trans hw258_0)⟩ (fun hHeld=>?_);refine with_tabW laws_eqHoleSS.tab6 laws_eqHoleSS.bits6 (fun HT_ HW_=>?_)
        generalize wr.drew=w9 at HB HR257_0 HR258_0 hx257_0 hx258_0 hHeld ⊢
        refine pure_ (i:=0) (N:=some 17) (v:=?_) (a':=?_) #[true,false,false,false,false,false,false,false,false,false] rfl rfl (any_of HT_.out (by kernel_rfl)) (fun _ _ _ h=>h) (Or.inl ⟨by rfl,?_⟩) ?_ ?_
        rotate_left
        ·intro w'
         go_simp
         with_reducible rfl
        rotate_left
        ·simp only[Act.put,pu_]
         rfl
        refine pure_ (i:=1) (N:=some 18) (v:=?_) (a':=?_) #[true,true,false,false,false,false,false,false,false,false] rfl rfl (any_of HT_.out (by kernel_rfl)) (fun _ _ _ h=>h) (Or.inl ⟨by rfl,?_⟩) ?_ ?_
        rotate_left
        ·intro w'
         go_simp
         with_reducible rfl
        rotate_left
        ·simp only[Act.put,pu_]
         rfl
        refine pure_ (i:=2) (N:=some 19) (v:=?_) (a':=?_) #[true,true,true,false,false,false,false,false,false,false] rfl rfl (any_of HT_.out (by kernel_rfl)) (fun _ _ _ h=>h) (Or.inl ⟨by rfl,?_⟩) ?_ ?_
        rotate_left
        ·intro w'
         go_simp
         with_reducible rfl
        rotate_left
        ·simp only[Act.put,pu_]
         rfl
        refine pure_ (i:=4) (N:=some 21) (v:=?_) (a':=?_) #[true,true,true,false,true,false,false,false,false,false] rfl rfl (any_of HT_.out (by kernel_rfl)) (fun _ _ _ h=>h) (Or.inl ⟨by rfl,?_⟩) ?_ ?_
        rotate_left
        ·intro w'
         go_simp
         with_reducible rfl
        rotate_left
        ·simp only[Act.put,pu_]
         rfl
        refine pure_ (i:=5) (N:=some 22) (v:=?_) (a':=?_) #[true,true,true,false,true,true,false,false,false,false] rfl rfl (any_of HT_.out (by kernel_rfl)) (fun _ _ _ h=>h) (Or.inl ⟨by rfl,?_⟩) ?_ ?_
        rotate_left
        ·intro w'
         go_simp
         with_reducible rfl
        rotate_left
        ·simp only[Act.put,pu_]
         rfl
        refine pure_ (i:=6) (N:=some 23) (v:=?_) (a':=?_) #[true,true,true,false,true,true,true,false,false,false] rfl rfl (any_of HT_.out (by kernel_rfl)) (fun _ _ _ h=>h) (Or.inl ⟨by rfl,?_⟩) ?_ ?_
        rotate_left
        ·intro w'
         go_simp
         with_reducible rfl
        rotate_left
        ·simp only[Act.put,pu_]
         rfl
        refine take_ (i:=3) (N:=some 20) (v:=?_) (a':=?_) #[true,true,true,true,true,true,true,false,false,false] rfl rfl (take_ofW HT_.out HW_.out (by kernel_rfl)) (fun _ _ _ h=>h) (Or.inl ⟨by rfl,?_⟩) hHeld ?_ ?_
        rotate_left
        ·rintro w' ⟨s0,s1⟩
         go_simp
         with_reducible rfl
        rotate_left
        ·simp only[Act.put,pu_]
         rfl
        refine take_ (i:=7) (N:=some 24) (v:=?_) (a':=?_) #[true,true,true,true,true,true,true,true,false,false] rfl rfl (take_ofW HT_.out HW_.out (by kernel_rfl)) (fun _ _ _ h=>h) (Or.inl ⟨by rfl,?_⟩) hHeld ?_ ?_
        rotate_left
        ·rintro w' ⟨s0,s1⟩
         go_simp
         with_reducible rfl
        rotate_left
        ·simp only[Act.put,pu_]
         rfl
        refine one_ (i:=8) (N:=some 25) #[true,true,true,true,true,true,true,true,true,false] rfl rfl (one_of HT_.out (by kernel_rfl)) (by decide) (fun K hK=>?_)
        refine goes_ Try.func10 (by kernel_rfl) rfl #[.slice A257_0 (rd_L6 l0 x5_1).length c257_0, .slice A258_0 (rd_L6 l1 x5_1).length c258_0] (by rfl) rfl rfl (by(try simp only[List.map_toArray,List.map_cons,List.map_nil]);first | done | rfl | (simp only[List.length_drop,List.length_take];rfl)) ?_
        with_reducible refine(laws_eqHoleS.calls k1 _ _ (rd_L6 l0 x5_1) _ _ (rd_L6 l1 x5_1) true _ ?side1 ?side2 ?side3 ?side4 A7.out).mono ?_
        (case side1=>exact(a11_ HR257_0.out))
        (case side2=>exact HC257_0.out)
        (case side3=>exact(a11_ HR258_0.out))
        (case side4=>exact HC258_0.out)
        rintro e w10 ⟨rfl,hb⟩
        refine⟨_,rfl,?_⟩
        replace HB:=am_ (below_step (a0_) hb)
        (try clear hb)
        (try clear hb2)
        (try clear hk)
        (try clear hi)
        refine hK.out _ _ ⟨((HB.out.cell (World.block_lt_of_cell? w _ hw257_0)).trans hw257_0),((HB.out.cell (World.block_lt_of_cell? w _ hw258_0)).trans hw258_0)⟩ (fun hHeld=>?_)
        clear hK K
        refine norm_ (a':=?_) ?_ ?_
        rotate_left
        ·show Act.put _ (some 25) _=_
         simp only[Act.put,pu_]
         rfl
        refine pure_ (i:=9) (N:=some 26) (v:=?_) (a':=?_) #[true,true,true,true,true,true,true,true,true,true] rfl rfl (any_of HT_.out (by kernel_rfl)) (fun _ _ _ h=>h) (Or.inl ⟨by rfl,?_⟩) ?_ ?_
        rotate_left
        ·intro w'
         go_simp
         with_reducible rfl
        rotate_left
        ·simp only[Act.put,pu_]
         rfl
        refine done_ (done_of HT_.out (by kernel_rfl)) ?_
        try go_wp2
        go_roundg k1
        case measure=>have:=HK1.out;omega
        case rel=>exact⟨(wrap64 (x5_1+1)),(a6_),H',⟨by have:=HK1.out;omega⟩,⟨a0_⟩⟩
       ·replace c8:=Bool.eq_false_iff.mpr c8
        subst c8
        replace H:(some false)=some r:=by rw[if_neg (show ¬(false=true) by decide)]at H;exact H
        obtain rfl:=Option.some.inj H
        try go_wp2
        replace HB:=am_ (below_drew1 HB.out)
        have p257:0≤(x5_1:Int):=of_decide_eq_true (a4_)
        have q257:x5_1<(l0.length:Int):=of_decide_eq_true (a4_)
        obtain⟨ad257,A257_0,c257_0,e257,hx257_0,hl257_0,hi257_0⟩:=at_L6 HR0.out x5_1 p257 q257
        have hw257_0:=hx257_0
        cases e257
        replace hx257_0:=(HB.out.cell (World.block_lt_of_cell? w _ hx257_0)).trans hx257_0
        have HR257_0:=am_ hi257_0
        have HC257_0:=am_ hl257_0
        clear hi257_0 hl257_0
        replace p257:=eq_true p257
        replace q257:=eq_true q257
        have p258:0≤(x5_1:Int):=of_decide_eq_true (a4_)
        have q258:x5_1<(l1.length:Int):=of_decide_eq_true (a4_)
        obtain⟨ad258,A258_0,c258_0,e258,hx258_0,hl258_0,hi258_0⟩:=at_L6 HR1.out x5_1 p258 q258
        have hw258_0:=hx258_0
        cases e258
        replace hx258_0:=(HB.out.cell (World.block_lt_of_cell? w _ hx258_0)).trans hx258_0
        have HR258_0:=am_ hi258_0
        have HC258_0:=am_ hl258_0
        clear hi258_0 hl258_0
        replace p258:=eq_true p258
        replace q258:=eq_true q258
        refine start_ (n:=10) (S:=fun w'=>w'.cell? (ad257.add (x5_1).toNat)=some (.slice A257_0 (rd_L6 l0 x5_1).length c257_0)∧w'.cell? (ad258.add (x5_1).toNat)=some (.slice A258_0 (rd_L6 l1 x5_1).length c258_0)) (ds:=[]) #[false,false,false,false,false,false,false,false,false,false] (by kernel_rfl) rfl rfl ⟨((HB.out.cell (World.block_lt_of_cell? w _ hw257_0)).trans hw257_0),((HB.out.cell (World.block_lt_of_cell? w _ hw258_0)).trans hw258_0)⟩ (fun hHeld=>?_);refine with_tabW laws_eqHoleSS.tab6 laws_eqHoleSS.bits6 (fun HT_ HW_=>?_)
        generalize wr.drew=w11 at HB HR257_0 HR258_0 hx257_0 hx258_0 hHeld ⊢
        refine pure_ (i:=0) (N:=some 17) (v:=?_) (a':=?_) #[true,false,false,false,false,false,false,false,false,false] rfl rfl (any_of HT_.out (by kernel_rfl)) (fun _ _ _ h=>h) (Or.inl ⟨by rfl,?_⟩) ?_ ?_
        rotate_left
        ·intro w'
         go_simp
         with_reducible rfl
        rotate_left
        ·simp only[Act.put,pu_]
         rfl
        refine pure_ (i:=1) (N:=some 18) (v:=?_) (a':=?_) #[true,true,false,false,false,false,false,false,false,false] rfl rfl (any_of HT_.out (by kernel_rfl)) (fun _ _ _ h=>h) (Or.inl ⟨by rfl,?_⟩) ?_ ?_
        rotate_left
        ·intro w'
         go_simp
         with_reducible rfl
        rotate_left
        ·simp only[Act.put,pu_]
         rfl
        refine pure_ (i:=2) (N:=some 19) (v:=?_) (a':=?_) #[true,true,true,false,false,false,false,false,false,false] rfl rfl (any_of HT_.out (by kernel_rfl)) (fun _ _ _ h=>h) (Or.inl ⟨by rfl,?_⟩) ?_ ?_
        rotate_left
        ·intro w'
         go_simp
         with_reducible rfl
        rotate_left
        ·simp only[Act.put,pu_]
         rfl
        refine pure_ (i:=4) (N:=some 21) (v:=?_) (a':=?_) #[true,true,true,false,true,false,false,false,false,false] rfl rfl (any_of HT_.out (by kernel_rfl)) (fun _ _ _ h=>h) (Or.inl ⟨by rfl,?_⟩) ?_ ?_
        rotate_left
        ·intro w'
         go_simp
         with_reducible rfl
        rotate_left
        ·simp only[Act.put,pu_]
         rfl
        refine pure_ (i:=5) (N:=some 22) (v:=?_) (a':=?_) #[true,true,true,false,true,true,false,false,false,false] rfl rfl (any_of HT_.out (by kernel_rfl)) (fun _ _ _ h=>h) (Or.inl ⟨by rfl,?_⟩) ?_ ?_
        rotate_left
        ·intro w'
         go_simp
         with_reducible rfl
        rotate_left
        ·simp only[Act.put,pu_]
         rfl
        refine pure_ (i:=6) (N:=some 23) (v:=?_) (a':=?_) #[true,true,true,false,true,true,true,false,false,false] rfl rfl (any_of HT_.out (by kernel_rfl)) (fun _ _ _ h=>h) (Or.inl ⟨by rfl,?_⟩) ?_ ?_
        rotate_left
        ·intro w'
         go_simp
         with_reducible rfl
        rotate_left
        ·simp only[Act.put,pu_]
         rfl
        refine take_ (i:=3) (N:=some 20) (v:=?_) (a':=?_) #[true,true,true,true,true,true,true,false,false,false] rfl rfl (take_ofW HT_.out HW_.out (by kernel_rfl)) (fun _ _ _ h=>h) (Or.inl ⟨by rfl,?_⟩) hHeld ?_ ?_
        rotate_left
        ·rintro w' ⟨s0,s1⟩
         go_simp
         with_reducible rfl
        rotate_left
        ·simp only[Act.put,pu_]
         rfl
        refine take_ (i:=7) (N:=some 24) (v:=?_) (a':=?_) #[true,true,true,true,true,true,true,true,false,false] rfl rfl (take_ofW HT_.out HW_.out (by kernel_rfl)) (fun _ _ _ h=>h) (Or.inl ⟨by rfl,?_⟩) hHeld ?_ ?_
        rotate_left
        ·rintro w' ⟨s0,s1⟩
         go_simp
         with_reducible rfl
        rotate_left
        ·simp only[Act.put,pu_]
         rfl
        refine one_ (i:=8) (N:=some 25) #[true,true,true,true,true,true,true,true,true,false] rfl rfl (one_of HT_.out (by kernel_rfl)) (by decide) (fun K hK=>?_)
        refine goes_ Try.func10 (by kernel_rfl) rfl #[.slice A257_0 (rd_L6 l0 x5_1).length c257_0, .slice A258_0 (rd_L6 l1 x5_1).length c258_0] (by rfl) rfl rfl (by(try simp only[List.map_toArray,List.map_cons,List.map_nil]);first | done | rfl | (simp only[List.length_drop,List.length_take];rfl)) ?_
        with_reducible refine(laws_eqHoleS.calls k1 _ _ (rd_L6 l0 x5_1) _ _ (rd_L6 l1 x5_1) false _ ?side1 ?side2 ?side3 ?side4 A7.out).mono ?_
        (case side1=>exact(a11_ HR257_0.out))
        (case side2=>exact HC257_0.out)
        (case side3=>exact(a11_ HR258_0.out))
        (case side4=>exact HC258_0.out)
        rintro e w12 ⟨rfl,hb⟩
        refine⟨_,rfl,?_⟩
        replace HB:=am_ (below_step (a0_) hb)
        (try clear hb)
        (try clear hb2)
        (try clear hk)
        (try clear hi)
        refine hK.out _ _ ⟨((HB.out.cell (World.block_lt_of_cell? w _ hw257_0)).trans hw257_0),((HB.out.cell (World.block_lt_of_cell? w _ hw258_0)).trans hw258_0)⟩ (fun hHeld=>?_)
        clear hK K
        refine norm_ (a':=?_) ?_ ?_
        rotate_left
        ·show Act.put _ (some 25) _=_
         simp only[Act.put,pu_]
         rfl
        refine pure_ (i:=9) (N:=some 26) (v:=?_) (a':=?_) #[true,true,true,true,true,true,true,true,true,true] rfl rfl (any_of HT_.out (by kernel_rfl)) (fun _ _ _ h=>h) (Or.inl ⟨by rfl,?_⟩) ?_ ?_
        rotate_left
        ·intro w'
         go_simp
         with_reducible rfl
        rotate_left
        ·simp only[Act.put,pu_]
         rfl
        refine done_ (done_of HT_.out (by kernel_rfl)) ?_
        try go_wp2
        go_ret
        exact⟨a5_,a0_⟩
      ·rw[if_neg c6]at H
       exact absurd H (by simp)
     ·rw[if_neg c5]at H
      exact absurd H (by simp)
    ·rw[if_neg c4]at H
     have c4b0:decide (x5_1<(l0.length:Int))=false:=decide_eq_false c4
     clear c4
     obtain rfl:=Option.some.inj H
     go_wp2
     go_ret
     exact⟨a5_,a0_⟩
 ·rw[if_neg c3]at H
  have c3b0:((l0.length:Int) == (l1.length:Int))=false:=beq_eq_false_iff_ne.mpr c3
  have c3b1:((l0.length:Int) != (l1.length:Int))=true:=bne_iff_ne.mpr c3
  have c3b2:(l0.length == l1.length)=false:=a38_
  obtain rfl:=Option.some.inj H
  go_enter Try.func11,Try.ntmps11
  go_wp2
  go_ret
  exact⟨a5_,a0_⟩

/-! ### laws_eqPart: function 28 -/
def laws_eqPart.f (a0_0:Int) (a0_1:Int) (a0_2:Int) (a1_0:Int) (a1_1:Int) (a1_2:Int):Option (Bool):=if a0_0=a1_0 then(if a0_1=a1_1 then(if a0_2=a1_2 then(some true) else(some false)) else(some false)) else(some false)
set_option maxHeartbeats 8000000 in
set_option maxRecDepth 100000 in
theorem laws_eqPart.calls (a0_0:Int) (a0_1:Int) (a0_2:Int) (a1_0:Int) (a1_1:Int) (a1_2:Int) (r:Bool) (w:World) (h:laws_eqPart.f a0_0 a0_1 a0_2 a1_0 a1_1 a1_2=some r) :
 Calls Try.prog 28 #[.agg #[.int .i64 a0_0, .int .i64 a0_1, .int .i64 a0_2], .agg #[.int .i64 a1_0, .int .i64 a1_1, .int .i64 a1_2]] w fun e w'=>e = .returned (.bool r)∧Below w.heap.size w w':=by
 have hu44:=Try.underlying44
 have HB:=am_ (Below.refl w.heap.size w)
 have H:(if a0_0=a1_0 then(if a0_1=a1_1 then(if a0_2=a1_2 then(some true) else(some false)) else(some false)) else(some false))=some r:=h
 clear h
 by_cases c3:a0_0=a1_0
 ·rw[if_pos c3]at H
  have c3b0:(a0_0 == a1_0)=true:=beq_iff_eq.mpr c3
  have c3b1:(a0_0 != a1_0)=false:=bne_eq_false_iff_eq.mpr c3
  clear c3
  by_cases c4:a0_1=a1_1
  ·rw[if_pos c4]at H
   have c4b0:(a0_1 == a1_1)=true:=beq_iff_eq.mpr c4
   have c4b1:(a0_1 != a1_1)=false:=bne_eq_false_iff_eq.mpr c4
   clear c4
   by_cases c5:a0_2=a1_2
   ·rw[if_pos c5]at H
    have c5b0:(a0_2 == a1_2)=true:=beq_iff_eq.mpr c5
    have c5b1:(a0_2 != a1_2)=false:=bne_eq_false_iff_eq.mpr c5
    clear c5
    obtain rfl:=Option.some.inj H
    go_enter Try.func28,Try.ntmps28
    go_wp2_with (first | ((with_reducible refine gate_dst (N:=2) rfl ?_);refine box_event ?hg (N:=2) ?hd (cs:= #[.int .i64 a0_0, .int .i64 a0_1, .int .i64 a0_2]) (t:=44) ?hr ?_;(case hd=>rfl);(case hg=>rfl);(case hr=>exact a12_);intro gb260 hg w6 hbox hb;have BK260:=am_ (hbox);have GW260:=am_ ((by rw[hg];exact(below_size (a0_)):w.heap.size≤gb260));have GE260:=am_ ((by rw[hg];exact(below_size (a0_)):w.heap.size≤gb260));replace HB:=am_ (below_step (a0_) hb);clear hb hbox hg) | ((with_reducible refine gate_dst (N:=3) rfl ?_);refine box_event ?hg (N:=3) ?hd (cs:= #[.int .i64 a1_0, .int .i64 a1_1, .int .i64 a1_2]) (t:=44) ?hr ?_;(case hd=>rfl);(case hg=>rfl);(case hr=>exact a12_);intro gb261 hg w7 hbox hb;have BK261:=am_ (hbox);have GW261:=am_ ((by rw[hg];exact(below_size ((a1_ GE260.out))):w.heap.size≤gb261));have GE261:=am_ ((by rw[hg];exact(below_size ((a1_ GE260.out))):w.heap.size≤gb261));replace HB:=am_ (below_step ((a1_ GE260.out)) hb);have NB260_261:=am_ ((by rw[hg];exact Nat.ne_of_lt (blk_lt (g:=gb260) (o:= .cells #[.int .i64 a0_0, .int .i64 a0_1, .int .i64 a0_2] 44 (0,0)) ((a3_ BK260.out))):gb260≠gb261));have NB261_260:=am_ ((by rw[hg];exact Nat.ne_of_gt (blk_lt (g:=gb260) (o:= .cells #[.int .i64 a0_0, .int .i64 a0_1, .int .i64 a0_2] 44 (0,0)) ((a3_ BK260.out))):gb261≠gb260));replace BK260:=am_ (blk_below (g:=gb260) (o:= .cells #[.int .i64 a0_0, .int .i64 a0_1, .int .i64 a0_2] 44 (0,0)) ((a3_ BK260.out)) hb);clear hb hbox hg;have hnb8:=NB260_261.out;have hnc8:=NB261_260.out;have hcz9_0:w7.cell? ⟨gb260,0,none⟩=some (.int .i64 a0_0):=(blk_cell BK260.out 0).trans rfl;have hcz9_1:w7.cell? ⟨gb260,1,none⟩=some (.int .i64 a0_1):=(blk_cell BK260.out 1).trans rfl;have hcz9_2:w7.cell? ⟨gb260,2,none⟩=some (.int .i64 a0_2):=(blk_cell BK260.out 2).trans rfl;have hfz9_0:=blk_frozen BK260.out 0;have hfz9_1:=blk_frozen BK260.out 1;have hfz9_2:=blk_frozen BK260.out 2;have hcz10_0:w7.cell? ⟨gb261,0,none⟩=some (.int .i64 a1_0):=(blk_cell BK261.out 0).trans rfl;have hcz10_1:w7.cell? ⟨gb261,1,none⟩=some (.int .i64 a1_1):=(blk_cell BK261.out 1).trans rfl;have hcz10_2:w7.cell? ⟨gb261,2,none⟩=some (.int .i64 a1_2):=(blk_cell BK261.out 2).trans rfl;have hfz10_0:=blk_frozen BK261.out 0;have hfz10_1:=blk_frozen BK261.out 1;have hfz10_2:=blk_frozen BK261.out 2))
    go_ret
    exact⟨a5_,(a7_ GE260.out GE261.out)⟩
   ·rw[if_neg c5]at H
    have c5b0:(a0_2 == a1_2)=false:=beq_eq_false_iff_ne.mpr c5
    have c5b1:(a0_2 != a1_2)=true:=bne_iff_ne.mpr c5
    obtain rfl:=Option.some.inj H
    go_enter Try.func28,Try.ntmps28
    go_wp2_with (first | ((with_reducible refine gate_dst (N:=2) rfl ?_);refine box_event ?hg (N:=2) ?hd (cs:= #[.int .i64 a0_0, .int .i64 a0_1, .int .i64 a0_2]) (t:=44) ?hr ?_;(case hd=>rfl);(case hg=>rfl);(case hr=>exact a12_);intro gb260 hg w11 hbox hb;have BK260:=am_ (hbox);have GW260:=am_ ((by rw[hg];exact(below_size (a0_)):w.heap.size≤gb260));have GE260:=am_ ((by rw[hg];exact(below_size (a0_)):w.heap.size≤gb260));replace HB:=am_ (below_step (a0_) hb);clear hb hbox hg) | ((with_reducible refine gate_dst (N:=3) rfl ?_);refine box_event ?hg (N:=3) ?hd (cs:= #[.int .i64 a1_0, .int .i64 a1_1, .int .i64 a1_2]) (t:=44) ?hr ?_;(case hd=>rfl);(case hg=>rfl);(case hr=>exact a12_);intro gb261 hg w12 hbox hb;have BK261:=am_ (hbox);have GW261:=am_ ((by rw[hg];exact(below_size ((a1_ GE260.out))):w.heap.size≤gb261));have GE261:=am_ ((by rw[hg];exact(below_size ((a1_ GE260.out))):w.heap.size≤gb261));replace HB:=am_ (below_step ((a1_ GE260.out)) hb);have NB260_261:=am_ ((by rw[hg];exact Nat.ne_of_lt (blk_lt (g:=gb260) (o:= .cells #[.int .i64 a0_0, .int .i64 a0_1, .int .i64 a0_2] 44 (0,0)) ((a3_ BK260.out))):gb260≠gb261));have NB261_260:=am_ ((by rw[hg];exact Nat.ne_of_gt (blk_lt (g:=gb260) (o:= .cells #[.int .i64 a0_0, .int .i64 a0_1, .int .i64 a0_2] 44 (0,0)) ((a3_ BK260.out))):gb261≠gb260));replace BK260:=am_ (blk_below (g:=gb260) (o:= .cells #[.int .i64 a0_0, .int .i64 a0_1, .int .i64 a0_2] 44 (0,0)) ((a3_ BK260.out)) hb);clear hb hbox hg;have hnb13:=NB260_261.out;have hnc13:=NB261_260.out;have hcz14_0:w12.cell? ⟨gb260,0,none⟩=some (.int .i64 a0_0):=(blk_cell BK260.out 0).trans rfl;have hcz14_1:w12.cell? ⟨gb260,1,none⟩=some (.int .i64 a0_1):=(blk_cell BK260.out 1).trans rfl;have hcz14_2:w12.cell? ⟨gb260,2,none⟩=some (.int .i64 a0_2):=(blk_cell BK260.out 2).trans rfl;have hfz14_0:=blk_frozen BK260.out 0;have hfz14_1:=blk_frozen BK260.out 1;have hfz14_2:=blk_frozen BK260.out 2;have hcz15_0:w12.cell? ⟨gb261,0,none⟩=some (.int .i64 a1_0):=(blk_cell BK261.out 0).trans rfl;have hcz15_1:w12.cell? ⟨gb261,1,none⟩=some (.int .i64 a1_1):=(blk_cell BK261.out 1).trans rfl;have hcz15_2:w12.cell? ⟨gb261,2,none⟩=some (.int .i64 a1_2):=(blk_cell BK261.out 2).trans rfl;have hfz15_0:=blk_frozen BK261.out 0;have hfz15_1:=blk_frozen BK261.out 1;have hfz15_2:=blk_frozen BK261.out 2))
    go_ret
    exact⟨a5_,(a7_ GE260.out GE261.out)⟩
  ·rw[if_neg c4]at H
   have c4b0:(a0_1 == a1_1)=false:=beq_eq_false_iff_ne.mpr c4
   have c4b1:(a0_1 != a1_1)=true:=bne_iff_ne.mpr c4
   obtain rfl:=Option.some.inj H
   go_enter Try.func28,Try.ntmps28
   go_wp2_with (first | ((with_reducible refine gate_dst (N:=2) rfl ?_);refine box_event ?hg (N:=2) ?hd (cs:= #[.int .i64 a0_0, .int .i64 a0_1, .int .i64 a0_2]) (t:=44) ?hr ?_;(case hd=>rfl);(case hg=>rfl);(case hr=>exact a12_);intro gb260 hg w16 hbox hb;have BK260:=am_ (hbox);have GW260:=am_ ((by rw[hg];exact(below_size (a0_)):w.heap.size≤gb260));have GE260:=am_ ((by rw[hg];exact(below_size (a0_)):w.heap.size≤gb260));replace HB:=am_ (below_step (a0_) hb);clear hb hbox hg) | ((with_reducible refine gate_dst (N:=3) rfl ?_);refine box_event ?hg (N:=3) ?hd (cs:= #[.int .i64 a1_0, .int .i64 a1_1, .int .i64 a1_2]) (t:=44) ?hr ?_;(case hd=>rfl);(case hg=>rfl);(case hr=>exact a12_);intro gb261 hg w17 hbox hb;have BK261:=am_ (hbox);have GW261:=am_ ((by rw[hg];exact(below_size ((a1_ GE260.out))):w.heap.size≤gb261));have GE261:=am_ ((by rw[hg];exact(below_size ((a1_ GE260.out))):w.heap.size≤gb261));replace HB:=am_ (below_step ((a1_ GE260.out)) hb);have NB260_261:=am_ ((by rw[hg];exact Nat.ne_of_lt (blk_lt (g:=gb260) (o:= .cells #[.int .i64 a0_0, .int .i64 a0_1, .int .i64 a0_2] 44 (0,0)) ((a3_ BK260.out))):gb260≠gb261));have NB261_260:=am_ ((by rw[hg];exact Nat.ne_of_gt (blk_lt (g:=gb260) (o:= .cells #[.int .i64 a0_0, .int .i64 a0_1, .int .i64 a0_2] 44 (0,0)) ((a3_ BK260.out))):gb261≠gb260));replace BK260:=am_ (blk_below (g:=gb260) (o:= .cells #[.int .i64 a0_0, .int .i64 a0_1, .int .i64 a0_2] 44 (0,0)) ((a3_ BK260.out)) hb);clear hb hbox hg;have hnb18:=NB260_261.out;have hnc18:=NB261_260.out;have hcz19_0:w17.cell? ⟨gb260,0,none⟩=some (.int .i64 a0_0):=(blk_cell BK260.out 0).trans rfl;have hcz19_1:w17.cell? ⟨gb260,1,none⟩=some (.int .i64 a0_1):=(blk_cell BK260.out 1).trans rfl;have hcz19_2:w17.cell? ⟨gb260,2,none⟩=some (.int .i64 a0_2):=(blk_cell BK260.out 2).trans rfl;have hfz19_0:=blk_frozen BK260.out 0;have hfz19_1:=blk_frozen BK260.out 1;have hfz19_2:=blk_frozen BK260.out 2;have hcz20_0:w17.cell? ⟨gb261,0,none⟩=some (.int .i64 a1_0):=(blk_cell BK261.out 0).trans rfl;have hcz20_1:w17.cell? ⟨gb261,1,none⟩=some (.int .i64 a1_1):=(blk_cell BK261.out 1).trans rfl;have hcz20_2:w17.cell? ⟨gb261,2,none⟩=some (.int .i64 a1_2):=(blk_cell BK261.out 2).trans rfl;have hfz20_0:=blk_frozen BK261.out 0;have hfz20_1:=blk_frozen BK261.out 1;have hfz20_2:=blk_frozen BK261.out 2))
   go_ret
   exact⟨a5_,(a7_ GE260.out GE261.out)⟩
 ·rw[if_neg c3]at H
  have c3b0:(a0_0 == a1_0)=false:=beq_eq_false_iff_ne.mpr c3
  have c3b1:(a0_0 != a1_0)=true:=bne_iff_ne.mpr c3
  obtain rfl:=Option.some.inj H
  go_enter Try.func28,Try.ntmps28
  go_wp2_with (first | ((with_reducible refine gate_dst (N:=2) rfl ?_);refine box_event ?hg (N:=2) ?hd (cs:= #[.int .i64 a0_0, .int .i64 a0_1, .int .i64 a0_2]) (t:=44) ?hr ?_;(case hd=>rfl);(case hg=>rfl);(case hr=>exact a12_);intro gb260 hg w21 hbox hb;have BK260:=am_ (hbox);have GW260:=am_ ((by rw[hg];exact(below_size (a0_)):w.heap.size≤gb260));have GE260:=am_ ((by rw[hg];exact(below_size (a0_)):w.heap.size≤gb260));replace HB:=am_ (below_step (a0_) hb);clear hb hbox hg) | ((with_reducible refine gate_dst (N:=3) rfl ?_);refine box_event ?hg (N:=3) ?hd (cs:= #[.int .i64 a1_0, .int .i64 a1_1, .int .i64 a1_2]) (t:=44) ?hr ?_;(case hd=>rfl);(case hg=>rfl);(case hr=>exact a12_);intro gb261 hg w22 hbox hb;have BK261:=am_ (hbox);have GW261:=am_ ((by rw[hg];exact(below_size ((a1_ GE260.out))):w.heap.size≤gb261));have GE261:=am_ ((by rw[hg];exact(below_size ((a1_ GE260.out))):w.heap.size≤gb261));replace HB:=am_ (below_step ((a1_ GE260.out)) hb);have NB260_261:=am_ ((by rw[hg];exact Nat.ne_of_lt (blk_lt (g:=gb260) (o:= .cells #[.int .i64 a0_0, .int .i64 a0_1, .int .i64 a0_2] 44 (0,0)) ((a3_ BK260.out))):gb260≠gb261));have NB261_260:=am_ ((by rw[hg];exact Nat.ne_of_gt (blk_lt (g:=gb260) (o:= .cells #[.int .i64 a0_0, .int .i64 a0_1, .int .i64 a0_2] 44 (0,0)) ((a3_ BK260.out))):gb261≠gb260));replace BK260:=am_ (blk_below (g:=gb260) (o:= .cells #[.int .i64 a0_0, .int .i64 a0_1, .int .i64 a0_2] 44 (0,0)) ((a3_ BK260.out)) hb);clear hb hbox hg;have hnb23:=NB260_261.out;have hnc23:=NB261_260.out;have hcz24_0:w22.cell? ⟨gb260,0,none⟩=some (.int .i64 a0_0):=(blk_cell BK260.out 0).trans rfl;have hcz24_1:w22.cell? ⟨gb260,1,none⟩=some (.int .i64 a0_1):=(blk_cell BK260.out 1).trans rfl;have hcz24_2:w22.cell? ⟨gb260,2,none⟩=some (.int .i64 a0_2):=(blk_cell BK260.out 2).trans rfl;have hfz24_0:=blk_frozen BK260.out 0;have hfz24_1:=blk_frozen BK260.out 1;have hfz24_2:=blk_frozen BK260.out 2;have hcz25_0:w22.cell? ⟨gb261,0,none⟩=some (.int .i64 a1_0):=(blk_cell BK261.out 0).trans rfl;have hcz25_1:w22.cell? ⟨gb261,1,none⟩=some (.int .i64 a1_1):=(blk_cell BK261.out 1).trans rfl;have hcz25_2:w22.cell? ⟨gb261,2,none⟩=some (.int .i64 a1_2):=(blk_cell BK261.out 2).trans rfl;have hfz25_0:=blk_frozen BK261.out 0;have hfz25_1:=blk_frozen BK261.out 1;have hfz25_2:=blk_frozen BK261.out 2))
  go_ret
  exact⟨a5_,(a7_ GE260.out GE261.out)⟩

end Go.Proofs.Ytbbiihhaljigjaa.QFnExactMakeEdition
