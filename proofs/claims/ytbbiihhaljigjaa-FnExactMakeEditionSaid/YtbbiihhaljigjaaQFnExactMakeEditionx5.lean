/- Written by a program of this session (the kit's printer, with leaf contracts proved by hand put in): what each Go function computes, and that the call computes it. No condition but those that each theorem names. -/
import Derived.Test.YtbbiihhaljigjaaQFnExactMakeEditionx0
import Derived.Test.YtbbiihhaljigjaaQFnExactMakeEditionx3
import Derived.Test.YtbbiihhaljigjaaQFnExactMakeEditionx4
namespace Go.Proofs.Ytbbiihhaljigjaa.QFnExactMakeEdition
open Go.RowKit Go.Proofs.YtbbiihhaljigjaaW.PrintWords Go.Proofs.YtbbiihhaljigjaaW.PrintLast Go.Proofs.YtbbiihhaljigjaaW.PrintMore
attribute [local go_sem] max2_int min2_int max_two min_two max_three min_three max_four min_four   -- for this text's walks alone
set_option linter.unusedVariables false
set_option linter.unusedSimpArgs false

/-! ### spec_l1Most: function 31 -/
def spec_l1Most.f (a0:Int) (a1:Int):Option (Int):=if a0>a1 then(some a0) else(some a1)
set_option maxHeartbeats 8000000 in
set_option maxRecDepth 100000 in
theorem spec_l1Most.calls (a0:Int) (a1:Int) (r:Int) (w:World) (h:spec_l1Most.f a0 a1=some r) :
 Calls Try.prog 31 #[.int .i64 a0, .int .i64 a1] w fun e w'=>e = .returned (.int .i64 r)∧Drawn0 w w':=by
 have H:(if a0>a1 then(some a0) else(some a1))=some r:=h
 clear h
 by_cases c3:a0>a1
 ·rw[if_pos c3]at H
  have c3b0:decide (a1<a0)=true:=decide_eq_true c3
  clear c3
  obtain rfl:=Option.some.inj H
  go_enter Try.func31,Try.ntmps31
  go_wp2
  go_ret
  exact⟨a6_,a25_⟩
 ·rw[if_neg c3]at H
  have c3b0:decide (a1<a0)=false:=decide_eq_false c3
  clear c3
  obtain rfl:=Option.some.inj H
  go_enter Try.func31,Try.ntmps31
  go_wp2
  go_ret
  exact⟨a6_,a25_⟩

/-! ### spec_l1Least: function 32 -/
def spec_l1Least.f (a0:Int) (a1:Int):Option (Int):=if a0<a1 then(some a0) else(some a1)
set_option maxHeartbeats 8000000 in
set_option maxRecDepth 100000 in
theorem spec_l1Least.calls (a0:Int) (a1:Int) (r:Int) (w:World) (h:spec_l1Least.f a0 a1=some r) :
 Calls Try.prog 32 #[.int .i64 a0, .int .i64 a1] w fun e w'=>e = .returned (.int .i64 r)∧Drawn0 w w':=by
 have H:(if a0<a1 then(some a0) else(some a1))=some r:=h
 clear h
 by_cases c3:a0<a1
 ·rw[if_pos c3]at H
  have c3b0:decide (a0<a1)=true:=decide_eq_true c3
  clear c3
  obtain rfl:=Option.some.inj H
  go_enter Try.func32,Try.ntmps32
  go_wp2
  go_ret
  exact⟨a6_,a25_⟩
 ·rw[if_neg c3]at H
  have c3b0:decide (a0<a1)=false:=decide_eq_false c3
  clear c3
  obtain rfl:=Option.some.inj H
  go_enter Try.func32,Try.ntmps32
  go_wp2
  go_ret
  exact⟨a6_,a25_⟩

/-! ### spec_shCut: function 19 -/
def spec_shCut.l0:Nat→Int→Int→List (S47)→List (S47)→Int→Int→Option ((List (S47)))
 | 0,_,_,_,_,_,_=>none
 | k+1,x1,x2,x7,x14,x15,x16=>if x16<x15 then(if 0≤x16 then(if x16<(x14.length:Int) then((spec_l1Most.f ((rd_T47 x14 x16).f1) x1).bind fun t195=>((spec_l1Least.f ((rd_T47 x14 x16).f2) x2).bind fun t196=>(if t195<t196 then(if x7.length<5864062014805 then(spec_shCut.l0 k x1 x2 (x7 ++ [(⟨(rd_T47 x14 x16).f0,wrap64 (t195-x1),wrap64 (t196-x1)⟩:S47)]) x14 x15 (wrap64 (x16+1))) else(none)) else(spec_shCut.l0 k x1 x2 x7 x14 x15 (wrap64 (x16+1)))))) else(none)) else(none)) else((spec_shSorted.f k x7).bind fun bt189=>(some bt189.1))
def spec_shCut.f (k:Nat) (l0:List (S47)) (a1:Int) (a2:Int):Option ((List (S47))):=spec_shCut.l0 k a1 a2 ([]:List (S47)) l0 (l0.length:Int) 0
theorem spec_shCut.mono_l:∀k,(∀y0 y1 y2 y3 y4 y5,LeO (spec_shCut.l0 k y0 y1 y2 y3 y4 y5) (spec_shCut.l0 (k+1) y0 y1 y2 y3 y4 y5))
 | 0=>fun _ _ _ _ _ _ r h=>by simp[spec_shCut.l0]at h
 | k+1=>by
  have ih0:=spec_shCut.mono_l k
  ·intro y0 y1 y2 y3 y4 y5
   unfold spec_shCut.l0
   repeat' first
   | (with_reducible exact ih0 _ _ _ _ _ _)
   | (with_reducible exact spec_shSorted.mono _ _)
   | (with_reducible exact LeO.refl _)
   | (with_reducible exact LeO.none _)
   | (with_reducible refine LeO.ite ?_ ?_)
   | (with_reducible refine LeO.bind ?_ (fun _=>?_))
   | exact ih0 _ _ _ _ _ _
   | exact spec_shSorted.mono _ _
   | exact LeO.none _
   | refine LeO.ite ?_ ?_
   | refine LeO.bind ?_ (fun _=>?_)
theorem spec_shCut.mono:∀a0 a1 a2 k,LeO (spec_shCut.f k a0 a1 a2) (spec_shCut.f (k+1) a0 a1 a2):=by
 intro a0 a1 a2 k
 have ih0:=spec_shCut.mono_l k
 unfold spec_shCut.f
 repeat' first
  | (with_reducible exact ih0 _ _ _ _ _ _)
  | (with_reducible exact spec_shSorted.mono _ _)
  | (with_reducible exact LeO.refl _)
  | (with_reducible exact LeO.none _)
  | (with_reducible refine LeO.ite ?_ ?_)
  | (with_reducible refine LeO.bind ?_ (fun _=>?_))
  | exact ih0 _ _ _ _ _ _
  | exact spec_shSorted.mono _ _
  | exact LeO.none _
  | refine LeO.ite ?_ ?_
  | refine LeO.bind ?_ (fun _=>?_)
set_option maxHeartbeats 8000000 in
set_option maxRecDepth 100000 in
theorem spec_shCut.calls (k:Nat) (A0:Option Addr) (c0:Nat) (l0:List (S47)) (a1:Int) (a2:Int) (r:List (S47)) (w:World) (hr0:Kd.C k47 w A0 l0.length l0) (hc0:l0.length≤c0) (h:spec_shCut.f k l0 a1 a2=some r) :
 Calls Try.prog 19 #[.slice A0 l0.length c0, .int .i64 a1, .int .i64 a2] w fun e w'=>∃v0_:Value,e = .returned (v0_)∧Kd.R k47 47 w' w.heap.size (fun _=>True) v0_ r∧Below w.heap.size w w':=by
 have hu47:=Try.underlying47
 have HR0:=am_ hr0
 have HC0:=am_ hc0
 clear hr0 hc0
 have HB:=am_ (Below.refl w.heap.size w)
 have H:(spec_shCut.l0 k a1 a2 ([]:List (S47)) l0 (l0.length:Int) 0)=some r:=h
 clear h
 have H':=am_ H
 clear H
 go_enter Try.func19,Try.ntmps19
 go_wp2
 repeat (go_quiet (fail);try go_wp2)
 go_loopg [7,16] k (fun kq v7 v16 w'=>∃(x7_1:List (S47)) (x16_1:Int),v16 = .int .i64 x16_1∧Aside0 (spec_shCut.l0 kq a1 a2 x7_1 l0 (l0.length:Int) x16_1=some r)∧Aside0 (kq≤k)∧Aside0 (Kd.R k47 47 w' w.heap.size (fun _=>True) v7 x7_1)∧Aside0 (Below w.heap.size w w'))
 case atStart=>exact⟨(([]:List (S47))),(0),(a6_),H',⟨Nat.le_refl _⟩,⟨a34_⟩,⟨a0_⟩⟩
 case round=>
  clear H'
  try clear c1
  try clear p2
  obtain⟨x7_1,x16_1,rfl,HA,HK1,HO_7,HB⟩:=hrel
  cases gk with
  | zero=>exact absurd HA.out (by simp[spec_shCut.l0])
  | succ k1=>
   have H:=HA.out
   clear HA
   simp only[spec_shCut.l0]at H
   by_cases c4:x16_1<(l0.length:Int)
   ·rw[if_pos c4]at H
    have c4b0:decide (x16_1<(l0.length:Int))=true:=decide_eq_true c4
    clear c4
    by_cases c5:0≤x16_1
    ·rw[if_pos c5]at H
     have c5b0:decide (0≤x16_1)=true:=decide_eq_true c5
     clear c5
     by_cases c6:x16_1<(l0.length:Int)
     ·rw[if_pos c6]at H
      have c6b0:decide (x16_1<(l0.length:Int))=true:=decide_eq_true c6
      clear c6
      replace H:=Option.bind_eq_some_iff.mp H
      obtain⟨t195,A70,H⟩:=H
      replace H:((spec_l1Least.f ((rd_T47 l0 x16_1).f2) a2).bind fun t196=>(if t195<t196 then(if x7_1.length<5864062014805 then(spec_shCut.l0 k1 a1 a2 (x7_1 ++ [(⟨(rd_T47 l0 x16_1).f0,wrap64 (t195-a1),wrap64 (t196-a1)⟩:S47)]) l0 (l0.length:Int) (wrap64 (x16_1+1))) else(none)) else(spec_shCut.l0 k1 a1 a2 x7_1 l0 (l0.length:Int) (wrap64 (x16_1+1)))))=some r:=H
      have A7:=am_ A70
      clear A70
      replace H:=Option.bind_eq_some_iff.mp H
      obtain⟨t196,A80,H⟩:=H
      replace H:(if t195<t196 then(if x7_1.length<5864062014805 then(spec_shCut.l0 k1 a1 a2 (x7_1 ++ [(⟨(rd_T47 l0 x16_1).f0,wrap64 (t195-a1),wrap64 (t196-a1)⟩:S47)]) l0 (l0.length:Int) (wrap64 (x16_1+1))) else(none)) else(spec_shCut.l0 k1 a1 a2 x7_1 l0 (l0.length:Int) (wrap64 (x16_1+1))))=some r:=H
      have A8:=am_ A80
      clear A80
      by_cases c9:t195<t196
      ·rw[if_pos c9]at H
       have c9b0:decide (t195<t196)=true:=decide_eq_true c9
       clear c9
       by_cases c10:x7_1.length<5864062014805
       ·rw[if_pos c10]at H
        have LMc10:=am_ c10
        clear c10
        obtain⟨y197,hy197⟩:∃y_:List (S47),y_=(x7_1 ++ [(⟨(rd_T47 l0 x16_1).f0,wrap64 (t195-a1),wrap64 (t196-a1)⟩:S47)]):=⟨_,rfl⟩
        replace H:(spec_shCut.l0 k1 a1 a2 y197 l0 (l0.length:Int) (wrap64 (x16_1+1)))=some r:=by first | (rw[hy197];with_reducible exact H) | (have H2_:=(Option.bind_some _ _).symm.trans H;rw[hy197];with_reducible exact H2_) | (have H2_:=(Option.bind_some _ _).symm.trans H;with_reducible exact H2_) | with_reducible exact H | (rw[hy197];exact H) | exact H
        have Ny197:=am_ hy197
        clear hy197
        have H':=am_ H
        clear H
        have p193:0≤(x16_1:Int):=of_decide_eq_true (a4_)
        have q193:x16_1<(l0.length:Int):=of_decide_eq_true (a4_)
        obtain⟨ad193,e193,hx193_0,hx193_1,hx193_2⟩:=at_T47 HR0.out x16_1 p193 q193
        cases e193
        replace hx193_0:=(HB.out.cell (World.block_lt_of_cell? w _ hx193_0)).trans hx193_0
        replace hx193_1:=(HB.out.cell (World.block_lt_of_cell? w _ hx193_1)).trans hx193_1
        replace hx193_2:=(HB.out.cell (World.block_lt_of_cell? w _ hx193_2)).trans hx193_2
        replace p193:=eq_true p193
        replace q193:=eq_true q193
        iterate 6 (go_wp2_with (first | ((with_reducible refine gate_dst (N:=9) rfl ?_);refine box_event ?hg (N:=9) ?hd (cs:= #[.int .i64 0, .int .i64 0, .int .i64 0]) (t:=47) ?hr ?_;(case hd=>rfl);(case hg=>rfl);(case hr=>exact a12_);intro gb194 hg w11 hbox hb;replace HO_7:=am_ (Kd.R_below (Kd.R_elderB ((a2_ HO_7.out)) gb194 (Nat.le_of_eq hg.symm)) hb);have BK194:=am_ (hbox);have GW194:=am_ ((by rw[hg];exact(below_size (a0_)):w.heap.size≤gb194));have GE194:=am_ ((by rw[hg];exact(below_size (a0_)):w.heap.size≤gb194));replace HB:=am_ (below_step (a0_) hb);clear hb hbox hg;have hcz12_0:w11.cell? ⟨gb194,0,none⟩=some (.int .i64 0):=(blk_cell BK194.out 0).trans rfl;have hcz12_1:w11.cell? ⟨gb194,1,none⟩=some (.int .i64 0):=(blk_cell BK194.out 1).trans rfl;have hcz12_2:w11.cell? ⟨gb194,2,none⟩=some (.int .i64 0):=(blk_cell BK194.out 2).trans rfl;have hfz12_0:=blk_frozen BK194.out 0;have hfz12_1:=blk_frozen BK194.out 1;have hfz12_2:=blk_frozen BK194.out 2) | (go_at_call 31;(with_reducible refine(spec_l1Most.calls ((rd_T47 l0 x16_1).f1) a1 t195 _ A7.out).mono ?_);rintro e w' ⟨rfl,⟨nd,rfl⟩⟩;(try first | exact⟨rfl,_,World.drewN_drewN _ _ _⟩ | exact⟨rfl,_,Eq.trans (World.drewN_drewN _ _ _) (congrArg (World.drewN _) (Nat.add_assoc _ _ _))⟩)) | (go_at_call 32;(with_reducible refine(spec_l1Least.calls ((rd_T47 l0 x16_1).f2) a2 t196 _ A8.out).mono ?_);rintro e w' ⟨rfl,⟨nd,rfl⟩⟩;(try first | exact⟨rfl,_,World.drewN_drewN _ _ _⟩ | exact⟨rfl,_,Eq.trans (World.drewN_drewN _ _ _) (congrArg (World.drewN _) (Nat.add_assoc _ _ _))⟩)) | ((with_reducible refine gate_builtin (b:= .append) (xs:= #[.tmp 31, .tmp 41]) rfl ?_);at_builtin;refine Kd.R_append k47 (w0:=w) w.heap.size rfl (.tmp 31) (.tmp 41) 26 47 (.agg #[(.int .i64 0),(.int .i64 0),(.int .i64 0)]) 24 rfl Try.underlying26 info47 rfl (by decide) (by omega) u7 x7_1 (⟨(rd_T47 l0 x16_1).f0,wrap64 (t195-a1),wrap64 (t196-a1)⟩:S47) [.int .i64 ((rd_T47 l0 x16_1).f0), .int .i64 (wrap64 (t195-a1)), .int .i64 (wrap64 (t196-a1))] (fun k_=>k_≠gb194) (fun _=>False) rfl (a12_) ?aP (fun _ hk=>hk.elim) ?aF ?aO ?aB ?aS ?aL ?_;(case aP=>exact k47_mkM _ _ _ (⟨(rd_T47 l0 x16_1).f0,wrap64 (t195-a1),wrap64 (t196-a1)⟩:S47));(case aB=>exact((a1_ GE194.out)));(case aF=>exact(fun k_ hk=>Kd.freshB (g:=gb194) (o:= .cells #[.int .i64 ((rd_T47 l0 x16_1).f0), .int .i64 ((rd_T47 l0 x16_1).f1), .int .i64 ((rd_T47 l0 x16_1).f2)] 47 (0,0)) ((a23_ BK194.out)) k_ hk));(case aO=>exact(by(with_reducible repeat (first | apply Kd.R_alloc | apply Kd.R_drewN | apply Kd.R_drew));exact Kd.R_mono (Kd.R_far (p:=⟨gb194,2,none⟩) (Kd.R_far (p:=⟨gb194,1,none⟩) (Kd.R_far (p:=⟨gb194,0,none⟩) (Kd.R_mono HO_7.out (fun k_ hk=>(⟨hk,hk.2⟩:_∧k_≠gb194))) (fun _ hk=>hk.2) (.int .i64 ((rd_T47 l0 x16_1).f0))) (fun _ hk=>hk.2) (.int .i64 ((rd_T47 l0 x16_1).f1))) (fun _ hk=>hk.2) (.int .i64 ((rd_T47 l0 x16_1).f2))) (fun _ hk=>hk.1.2)));(case aS=>exact(below_size ((a1_ GE194.out))));(case aL=>have:=LMc10.out;omega);intro v198 w13 ho hb hg hat;rw[← Ny197.out]at ho;have n0_:=am_ (blk_grown (g:=gb194) (o:= .cells #[.int .i64 ((rd_T47 l0 x16_1).f0), .int .i64 ((rd_T47 l0 x16_1).f1), .int .i64 ((rd_T47 l0 x16_1).f2)] 47 (0,0)) ((a23_ BK194.out)) hg (Kd.R_away HO_7.out (fun _ hk=>hk.2)));have n1_:=am_ (hb);have n2_:=am_ (ho);clear BK194 HB HO_7;have BK194:=n0_;have HB:=n1_;have HO199:=n2_;clear n0_ n1_ n2_ ho hb hg hat));try go_quiet (first|(go_at_call 31;(with_reducible refine(spec_l1Most.calls ((rd_T47 l0 x16_1).f1) a1 t195 _ A7.out).mono ?_);rintro e w' ⟨rfl,⟨nd,rfl⟩⟩;(try first | exact⟨rfl,_,World.drewN_drewN _ _ _⟩ | exact⟨rfl,_,Eq.trans (World.drewN_drewN _ _ _) (congrArg (World.drewN _) (Nat.add_assoc _ _ _))⟩))|(go_at_call 32;(with_reducible refine(spec_l1Least.calls ((rd_T47 l0 x16_1).f2) a2 t196 _ A8.out).mono ?_);rintro e w' ⟨rfl,⟨nd,rfl⟩⟩;(try first | exact⟨rfl,_,World.drewN_drewN _ _ _⟩ | exact⟨rfl,_,Eq.trans (World.drewN_drewN _ _ _) (congrArg (World.drewN _) (Nat.add_assoc _ _ _))⟩))))
        go_roundg k1
        case measure=>have:=HK1.out;omega
        case rel=>exact⟨(y197),(wrap64 (x16_1+1)),(a6_),H',⟨by have:=HK1.out;omega⟩,⟨(a26_ HO199.out)⟩,⟨(a1_ GE194.out)⟩⟩
       ·rw[if_neg c10]at H
        exact absurd H (by simp)
      ·rw[if_neg c9]at H
       have c9b0:decide (t195<t196)=false:=decide_eq_false c9
       clear c9
       have H':=am_ H
       clear H
       have p193:0≤(x16_1:Int):=of_decide_eq_true (a4_)
       have q193:x16_1<(l0.length:Int):=of_decide_eq_true (a4_)
       obtain⟨ad193,e193,hx193_0,hx193_1,hx193_2⟩:=at_T47 HR0.out x16_1 p193 q193
       cases e193
       replace hx193_0:=(HB.out.cell (World.block_lt_of_cell? w _ hx193_0)).trans hx193_0
       replace hx193_1:=(HB.out.cell (World.block_lt_of_cell? w _ hx193_1)).trans hx193_1
       replace hx193_2:=(HB.out.cell (World.block_lt_of_cell? w _ hx193_2)).trans hx193_2
       replace p193:=eq_true p193
       replace q193:=eq_true q193
       iterate 6 (go_wp2_with (first | ((with_reducible refine gate_dst (N:=9) rfl ?_);refine box_event ?hg (N:=9) ?hd (cs:= #[.int .i64 0, .int .i64 0, .int .i64 0]) (t:=47) ?hr ?_;(case hd=>rfl);(case hg=>rfl);(case hr=>exact a12_);intro gb194 hg w14 hbox hb;replace HO_7:=am_ (Kd.R_below (Kd.R_elderB ((a2_ HO_7.out)) gb194 (Nat.le_of_eq hg.symm)) hb);have BK194:=am_ (hbox);have GW194:=am_ ((by rw[hg];exact(below_size (a0_)):w.heap.size≤gb194));have GE194:=am_ ((by rw[hg];exact(below_size (a0_)):w.heap.size≤gb194));replace HB:=am_ (below_step (a0_) hb);clear hb hbox hg;have hcz15_0:w14.cell? ⟨gb194,0,none⟩=some (.int .i64 0):=(blk_cell BK194.out 0).trans rfl;have hcz15_1:w14.cell? ⟨gb194,1,none⟩=some (.int .i64 0):=(blk_cell BK194.out 1).trans rfl;have hcz15_2:w14.cell? ⟨gb194,2,none⟩=some (.int .i64 0):=(blk_cell BK194.out 2).trans rfl;have hfz15_0:=blk_frozen BK194.out 0;have hfz15_1:=blk_frozen BK194.out 1;have hfz15_2:=blk_frozen BK194.out 2) | (go_at_call 31;(with_reducible refine(spec_l1Most.calls ((rd_T47 l0 x16_1).f1) a1 t195 _ A7.out).mono ?_);rintro e w' ⟨rfl,⟨nd,rfl⟩⟩;(try first | exact⟨rfl,_,World.drewN_drewN _ _ _⟩ | exact⟨rfl,_,Eq.trans (World.drewN_drewN _ _ _) (congrArg (World.drewN _) (Nat.add_assoc _ _ _))⟩)) | (go_at_call 32;(with_reducible refine(spec_l1Least.calls ((rd_T47 l0 x16_1).f2) a2 t196 _ A8.out).mono ?_);rintro e w' ⟨rfl,⟨nd,rfl⟩⟩;(try first | exact⟨rfl,_,World.drewN_drewN _ _ _⟩ | exact⟨rfl,_,Eq.trans (World.drewN_drewN _ _ _) (congrArg (World.drewN _) (Nat.add_assoc _ _ _))⟩)));try go_quiet (first|(go_at_call 31;(with_reducible refine(spec_l1Most.calls ((rd_T47 l0 x16_1).f1) a1 t195 _ A7.out).mono ?_);rintro e w' ⟨rfl,⟨nd,rfl⟩⟩;(try first | exact⟨rfl,_,World.drewN_drewN _ _ _⟩ | exact⟨rfl,_,Eq.trans (World.drewN_drewN _ _ _) (congrArg (World.drewN _) (Nat.add_assoc _ _ _))⟩))|(go_at_call 32;(with_reducible refine(spec_l1Least.calls ((rd_T47 l0 x16_1).f2) a2 t196 _ A8.out).mono ?_);rintro e w' ⟨rfl,⟨nd,rfl⟩⟩;(try first | exact⟨rfl,_,World.drewN_drewN _ _ _⟩ | exact⟨rfl,_,Eq.trans (World.drewN_drewN _ _ _) (congrArg (World.drewN _) (Nat.add_assoc _ _ _))⟩))))
       go_roundg k1
       case measure=>have:=HK1.out;omega
       case rel=>exact⟨(x7_1),(wrap64 (x16_1+1)),(a6_),H',⟨by have:=HK1.out;omega⟩,⟨by(with_reducible repeat (first | apply Kd.R_alloc | apply Kd.R_drewN | apply Kd.R_drew));exact Kd.R_mono (Kd.R_far (p:=⟨gb194,2,none⟩) (Kd.R_far (p:=⟨gb194,1,none⟩) (Kd.R_far (p:=⟨gb194,0,none⟩) (Kd.R_mono HO_7.out (fun k_ hk=>(⟨hk,hk.2⟩:_∧k_≠gb194))) (fun _ hk=>hk.2) (.int .i64 ((rd_T47 l0 x16_1).f0))) (fun _ hk=>hk.2) (.int .i64 ((rd_T47 l0 x16_1).f1))) (fun _ hk=>hk.2) (.int .i64 ((rd_T47 l0 x16_1).f2))) (fun _ hk=>trivial)⟩,⟨(a1_ GE194.out)⟩⟩
     ·rw[if_neg c6]at H
      exact absurd H (by simp)
    ·rw[if_neg c5]at H
     exact absurd H (by simp)
   ·rw[if_neg c4]at H
    have c4b0:decide (x16_1<(l0.length:Int))=false:=decide_eq_false c4
    clear c4
    replace H:=Option.bind_eq_some_iff.mp H
    obtain⟨⟨t189,t190⟩,A160,H⟩:=H
    replace H:(some t189)=some r:=H
    have A16:=am_ A160
    clear A160
    obtain rfl:=Option.some.inj H
    obtain⟨Ao17,co17,eo17⟩:=Kd.R_slice HO_7.out
    subst eo17
    iterate 6 (go_wp2_with (first | (go_at_call 21;(with_reducible refine(spec_shSorted.calls k1 _ _ x7_1 t189 t190 _ ?side1 ?side2 A16.out).mono ?_);(case side1=>exact(a9_ HO_7.out));(case side2=>exact(Kd.R_reads' HO_7.out).2.1);rintro e w18 ⟨v191,rfl,ho0,hb⟩;have HO192:=am_ (Kd.R_lower (Kd.R_new' ho0 (Kd.R_lt ((a2_ HO_7.out)))) (below_size (a0_)));replace HO_7:=am_ (Kd.R_elder' ((a2_ HO_7.out)) (Kd.R_base ho0) hb);replace HB:=am_ (below_step (a0_) hb);(try clear hb);(try clear hb2);(try clear hk);(try clear hi);(try clear ho0)));try go_quiet (fail))
    go_ret
    exact⟨_,a5_,(a26_ HO192.out),a0_⟩

-- NOT PRINTED: function 20 (spec_edJoin)

/-! ### spec_MakeEdition: function 6 (by hand: holes joined where they touch) -/
theorem spec_MakeEdition.gen {P:Program} {c:Code} {Q:Exit→Act→World→Prop} {a:Act} {S:World→Prop} (W:World) (hS:S W) (h:∀W',S W'→c.wp P Q a W'):c.wp P Q a W:=h W hS
def spec_MakeEdition.join:List (S47)→S47→List (S47)
 | [],x=> [x]
 | y :: l,x=>if y.f0=x.f0∧y.f2=x.f1 then(⟨y.f0,y.f1,x.f2⟩:S47) :: l else y :: spec_MakeEdition.join l x
theorem spec_MakeEdition.step (l:List (S47)) (kk:Nat) (h:kk<l.length):l.drop kk=rd_T47 l (kk:Int) :: l.drop (kk+1):=by
 rw[List.drop_eq_getElem_cons h]
 congr 1
 simp[rd_T47,List.getD_eq_getElem?_getD,List.getElem?_eq_getElem h]
theorem spec_MakeEdition.hit (l:List (S47)) (x:S47) (kk:Nat) (h:kk<l.length) (h1:(rd_T47 l (kk:Int)).f0=x.f0) (h2:(rd_T47 l (kk:Int)).f2=x.f1) :
 l.take kk ++ spec_MakeEdition.join (l.drop kk) x=l.set (kk:Int).toNat (⟨(rd_T47 l (kk:Int)).f0,(rd_T47 l (kk:Int)).f1,x.f2⟩:S47):=by
 rw[spec_MakeEdition.step l kk h,spec_MakeEdition.join,if_pos ⟨h1,h2⟩,Int.toNat_natCast,List.set_eq_take_append_cons_drop,if_pos h]
theorem spec_MakeEdition.miss (l:List (S47)) (x:S47) (kk:Nat) (h:kk<l.length) (h1:¬((rd_T47 l (kk:Int)).f0=x.f0∧(rd_T47 l (kk:Int)).f2=x.f1)) :
 l.take kk ++ spec_MakeEdition.join (l.drop kk) x=l.take (kk+1) ++ spec_MakeEdition.join (l.drop (kk+1)) x:=by
 rw[spec_MakeEdition.step l kk h,spec_MakeEdition.join,if_neg h1]
 have e:l.take (kk+1)=l.take kk ++ [rd_T47 l (kk:Int)]:=by
  have e2:=spec_MakeEdition.step l kk h
  have e3:l.take (kk+1)=l.take kk ++ (l.drop kk).take 1:=List.take_add ..
  rw[e3,e2];rfl
 rw[e,List.append_assoc];rfl
set_option maxHeartbeats 8000000 in
set_option maxRecDepth 100000 in
theorem spec_MakeEdition.joins (okP:Nat→Prop) (u:Value) (l0:List (S47)) (x:S47) (w0 w:World) (hB0:Below w0.heap.size w0 w) (hF:∀k,w.heap.size≤k→okP k) (hO:Kd.R k47 47 w w0.heap.size okP u l0) (hl:l0.length<5864062014805) :
 Calls Try.prog 20 #[u, .agg #[.int .i64 x.f0, .int .i64 x.f1, .int .i64 x.f2]] w fun e w'=>∃v:Value,e = .returned v∧Kd.R k47 47 w' w0.heap.size okP v (spec_MakeEdition.join l0 x)∧Below w0.heap.size w0 w'∧w.grownBy w' u.ownBlock∧(v.ownBlock=u.ownBlock∨∃b,v.ownBlock=some b∧w.heap.size≤b):=by
 have hu47:=Try.underlying47
 have HB0:=am_ hB0
 have HF:=am_ hF
 have HL:=am_ hl
 clear hB0 hF hl
 obtain⟨A0,c0,eo⟩:=Kd.R_slice hO
 subst eo
 have HOw:=am_ hO
 clear hO
 go_enter Try.func20,Try.ntmps20
 go_upto_region 1 with (fail)
 have BKX:=am_ (show(w.alloc (.cells #[.int .i64 x.f0, .int .i64 x.f1, .int .i64 x.f2] 47)).heap[w.heap.size]? = some (.cells #[.int .i64 x.f0, .int .i64 x.f1, .int .i64 x.f2] 47 (0,0)) from Array.getElem?_push_size)
 have HB1:=am_ (below_alloc (Below.refl w.heap.size w) (.cells #[.int .i64 x.f0, .int .i64 x.f1, .int .i64 x.f2] 47))
 have GX:=am_ (Nat.le_refl w.heap.size)
 obtain⟨X,hX⟩:∃X,X=w.heap.size:=⟨_,rfl⟩
 rw[← hX]at BKX ⊢
 generalize w.alloc (.cells #[.int .i64 x.f0, .int .i64 x.f1, .int .i64 x.f2] 47)=w1 at BKX HB1 ⊢
 have HXW:=am_ hX
 clear hX GX
 have HO1:=am_ (Kd.R_below HOw.out HB1.out)
 have HBx:=am_ (Below.refl w1.heap.size w1)
 go_wp2
 go_loopg [9] l0.length (fun gg v9 wr=>∃kk:Nat,kk≤l0.length∧l0.length-kk≤gg∧v9 = .int .i64 kk∧Aside0 (Below w1.heap.size w1 wr)∧Aside0 (spec_MakeEdition.join l0 x=l0.take kk ++ spec_MakeEdition.join (l0.drop kk) x))
 case atStart=>exact⟨0,Nat.zero_le _,by omega,rfl,⟨by repeat (first | (with_reducible first | exact HBx.out | apply below_alloc | apply pw_below_drewN | apply below_drew1) | exact HBx.out)⟩,⟨rfl⟩⟩
 case round=>
  obtain⟨kk,hkk,hg,rfl,HB,HI⟩:=hrel
  have BX:=am_ (blk_below BKX.out HB.out)
  by_cases hlt:kk<l0.length
  ·have hltz:(kk:Int)<(l0.length:Int):=by omega
   have hltb:=decide_eq_true hltz
   have h0z:(0:Int)≤(kk:Int):=by omega
   obtain⟨ad,e1,hx0,hx1,hx2⟩:=at_T47 (Kd.R_reads' HO1.out).2.2 (kk:Int) h0z hltz
   cases e1
   simp only[Int.toNat_natCast]at hx0 hx1 hx2
   replace hx0:=(HB.out.cell (World.block_lt_of_cell? w1 _ hx0)).trans hx0
   replace hx1:=(HB.out.cell (World.block_lt_of_cell? w1 _ hx1)).trans hx1
   replace hx2:=(HB.out.cell (World.block_lt_of_cell? w1 _ hx2)).trans hx2
   by_cases c1:(rd_T47 l0 (kk:Int)).f0=x.f0
   ·by_cases c2:(rd_T47 l0 (kk:Int)).f2=x.f1
    ·have HM:=am_ (HI.out.trans (spec_MakeEdition.hit l0 x kk hlt c1 c2))
     clear HI
     have c1b:((rd_T47 l0 (kk:Int)).f0 == x.f0)=true:=beq_iff_eq.mpr c1
     have c1d:=decide_eq_true c1
     have c2b:((rd_T47 l0 (kk:Int)).f2 == x.f1)=true:=beq_iff_eq.mpr c2
     have c2d:=decide_eq_true c2
     clear c1 c2
     go_upto_region 5 with (first | ((with_reducible refine gate_dst (N:=6) rfl ?_);refine box_event ?hg (N:=6) ?hd (cs:= #[.int .i64 0, .int .i64 0, .int .i64 0]) (t:=47) ?hr ?_;(case hd=>rfl);(case hg=>rfl);(case hr=>exact a12_);intro gb hg w22 hbox hb;have GE:=am_ (show w1.heap.size≤gb from by rw[hg];exact HB.out.size);have NX:=am_ (show X≠gb from by rw[hg];exact Nat.ne_of_lt (blk_lt BX.out));have n0_:=am_ (below_step HB.out hb);have n1_:=am_ (blk_below BX.out hb);have BG:=am_ hbox;clear HB BX;have HB:=n0_;have BX:=n1_;clear n0_ n1_ hb hbox hg;have hnb:=NX.out;have hnc:=Ne.symm NX.out;have hz0:w22.cell? ⟨gb,0,none⟩=some (.int .i64 0):=(blk_cell BG.out 0).trans rfl;have hz1:w22.cell? ⟨gb,1,none⟩=some (.int .i64 0):=(blk_cell BG.out 1).trans rfl;have hz2:w22.cell? ⟨gb,2,none⟩=some (.int .i64 0):=(blk_cell BG.out 2).trans rfl;have hf0:=blk_frozen BG.out 0;have hf1:=blk_frozen BG.out 1;have hf2:=blk_frozen BG.out 2;have hcx0:w22.cell? ⟨X,0,none⟩=some (.int .i64 x.f0):=(blk_cell BX.out 0).trans rfl;have hcx1:w22.cell? ⟨X,1,none⟩=some (.int .i64 x.f1):=(blk_cell BX.out 1).trans rfl;have hcx2:w22.cell? ⟨X,2,none⟩=some (.int .i64 x.f2):=(blk_cell BX.out 2).trans rfl))
     refine spec_MakeEdition.gen (S:=fun W=>Below w1.heap.size w1 W) _ (a36_) (fun wq hq=>?_)
     have HQ:=am_ hq
     clear hq
     have HOq:=am_ (Kd.R_below HO1.out HQ.out)
     have BXq:=blk_below BKX.out HQ.out
     have hcx0:wq.cell? ⟨X,0,none⟩=some (.int .i64 x.f0):=(blk_cell BXq 0).trans rfl
     have hcx1:wq.cell? ⟨X,1,none⟩=some (.int .i64 x.f1):=(blk_cell BXq 1).trans rfl
     have hcx2:wq.cell? ⟨X,2,none⟩=some (.int .i64 x.f2):=(blk_cell BXq 2).trans rfl
     clear BXq
     obtain⟨go5,co5,eo5,gb5,gl5,cl5,HG5⟩:=Kd.R_form HOq.out (by omega)
     (first | cases eo5 | (injection eo5 with ea_ en_ ec_;(first | subst ea_ | (injection ea_ with ea_;subst ea_));subst ec_;clear en_))
     clear HG5 gb5 gl5
     obtain⟨ce9,hcl9,hM9,hcc9,hfr9⟩:=Kd.R_elem HOq.out z47 (kk:Int) h0z hltz
     obtain rfl:=k47_openM hM9
     have HP9:=am_ (Kd.R_seg HOq.out (kk:Int) h0z hltz (seg:=[.int .i64 x.f2]) (j:=2) hcl9 hcc9 (show 3≤3 from by decide) (x':=(⟨(rd_T47 l0 (kk:Int)).f0,(rd_T47 l0 (kk:Int)).f1,x.f2⟩:S47)) (k47_mkM _ _ _ (⟨(rd_T47 l0 (kk:Int)).f0,(rd_T47 l0 (kk:Int)).f1,x.f2⟩:S47)) (fun _ hk=>hk))
     have hx9_2:wq.cell? ⟨go5,kk*3+2,none⟩=some (.int .i64 ((rd_T47 l0 (kk:Int)).f2)):=hcc9 2 _ rfl
     have hf9_2:wq.frozen? ⟨go5,kk*3+2,none⟩=false:=hfr9 2
     clear hcl9 hcc9 hfr9;(try clear hM9)
     have HWW:=am_ (below_step HB1.out HQ.out)
     have HBq:=am_ (HB0.out.trans (HWW.out.mono HB0.out.size))
     have HGO:=am_ (Kd.R_base HOw.out)
     replace h0z:=eq_true h0z
     replace hltz:=eq_true hltz
     go_wp2_with (first | ((with_reducible refine gate_store (t:=3) (p:=31) rfl ?_);refine store_event (t:=3) (p:=31) (v:=?vo_w10) (w1:=(wq.setCell ⟨go5,kk*3+2,none⟩ (.int .i64 x.f2))) ?hg ?ho ?hn ?hr ?_;(case ho=>rfl);(case hg=>rfl);(case hn=>rfl);(case hr=>exact a12_);intro w10 hw;have n0_:=am_ (show Kd.R k47 47 w10 w0.heap.size okP (.slice (some ⟨go5,0,none⟩) l0.length c0) _ from by rw[hw];exact HP9.out.1);have n1_:=am_ (show wq.grownBy w10 (some go5) from by rw[hw];exact HP9.out.2);clear hw))
     go_ret
     exact⟨_,rfl,by rw[HM.out];exact n0_.out,HBq.out.grown n1_.out (Nat.le_trans HB0.out.size HWW.out.size) (fun j e=>HGO.out j e),World.grownBy.trans (grown_of_below HWW.out _) n1_.out, .inl rfl⟩
    ·have hne:¬((rd_T47 l0 (kk:Int)).f0=x.f0∧(rd_T47 l0 (kk:Int)).f2=x.f1):=fun h=>c2 h.2
     have c1b:((rd_T47 l0 (kk:Int)).f0 == x.f0)=true:=beq_iff_eq.mpr c1
     have c1d:=decide_eq_true c1
     have c2b:((rd_T47 l0 (kk:Int)).f2 == x.f1)=false:=beq_eq_false_iff_ne.mpr c2
     have c2d:=decide_eq_false c2
     clear c1 c2
     have HM:=am_ (HI.out.trans (spec_MakeEdition.miss l0 x kk hlt hne))
     clear HI
     go_wp2_with (first | ((with_reducible refine gate_dst (N:=6) rfl ?_);refine box_event ?hg (N:=6) ?hd (cs:= #[.int .i64 0, .int .i64 0, .int .i64 0]) (t:=47) ?hr ?_;(case hd=>rfl);(case hg=>rfl);(case hr=>exact a12_);intro gb hg w22 hbox hb;have GE:=am_ (show w1.heap.size≤gb from by rw[hg];exact HB.out.size);have NX:=am_ (show X≠gb from by rw[hg];exact Nat.ne_of_lt (blk_lt BX.out));have n0_:=am_ (below_step HB.out hb);have n1_:=am_ (blk_below BX.out hb);have BG:=am_ hbox;clear HB BX;have HB:=n0_;have BX:=n1_;clear n0_ n1_ hb hbox hg;have hnb:=NX.out;have hnc:=Ne.symm NX.out;have hz0:w22.cell? ⟨gb,0,none⟩=some (.int .i64 0):=(blk_cell BG.out 0).trans rfl;have hz1:w22.cell? ⟨gb,1,none⟩=some (.int .i64 0):=(blk_cell BG.out 1).trans rfl;have hz2:w22.cell? ⟨gb,2,none⟩=some (.int .i64 0):=(blk_cell BG.out 2).trans rfl;have hf0:=blk_frozen BG.out 0;have hf1:=blk_frozen BG.out 1;have hf2:=blk_frozen BG.out 2;have hcx0:w22.cell? ⟨X,0,none⟩=some (.int .i64 x.f0):=(blk_cell BX.out 0).trans rfl;have hcx1:w22.cell? ⟨X,1,none⟩=some (.int .i64 x.f1):=(blk_cell BX.out 1).trans rfl;have hcx2:w22.cell? ⟨X,2,none⟩=some (.int .i64 x.f2):=(blk_cell BX.out 2).trans rfl))
     go_roundg (l0.length-(kk+1))
     case measure=>omega
     case rel=>have hmx:=HL.out;exact⟨kk+1,by omega,by omega,(by have e_:wrap64 ((kk:Int)+1)=((kk+1:Nat):Int):=(by unfold wrap64;omega);first | (rw[e_];done) | (simp only[e_];done) | (simp[e_];done)),⟨(a36_)⟩,HM⟩
   ·have hne:¬((rd_T47 l0 (kk:Int)).f0=x.f0∧(rd_T47 l0 (kk:Int)).f2=x.f1):=fun h=>c1 h.1
    have c1b:((rd_T47 l0 (kk:Int)).f0 == x.f0)=false:=beq_eq_false_iff_ne.mpr c1
    have c1d:=decide_eq_false c1
    clear c1
    have HM:=am_ (HI.out.trans (spec_MakeEdition.miss l0 x kk hlt hne))
    clear HI
    go_wp2_with (first | ((with_reducible refine gate_dst (N:=6) rfl ?_);refine box_event ?hg (N:=6) ?hd (cs:= #[.int .i64 0, .int .i64 0, .int .i64 0]) (t:=47) ?hr ?_;(case hd=>rfl);(case hg=>rfl);(case hr=>exact a12_);intro gb hg w22 hbox hb;have GE:=am_ (show w1.heap.size≤gb from by rw[hg];exact HB.out.size);have NX:=am_ (show X≠gb from by rw[hg];exact Nat.ne_of_lt (blk_lt BX.out));have n0_:=am_ (below_step HB.out hb);have n1_:=am_ (blk_below BX.out hb);have BG:=am_ hbox;clear HB BX;have HB:=n0_;have BX:=n1_;clear n0_ n1_ hb hbox hg;have hnb:=NX.out;have hnc:=Ne.symm NX.out;have hz0:w22.cell? ⟨gb,0,none⟩=some (.int .i64 0):=(blk_cell BG.out 0).trans rfl;have hz1:w22.cell? ⟨gb,1,none⟩=some (.int .i64 0):=(blk_cell BG.out 1).trans rfl;have hz2:w22.cell? ⟨gb,2,none⟩=some (.int .i64 0):=(blk_cell BG.out 2).trans rfl;have hf0:=blk_frozen BG.out 0;have hf1:=blk_frozen BG.out 1;have hf2:=blk_frozen BG.out 2;have hcx0:w22.cell? ⟨X,0,none⟩=some (.int .i64 x.f0):=(blk_cell BX.out 0).trans rfl;have hcx1:w22.cell? ⟨X,1,none⟩=some (.int .i64 x.f1):=(blk_cell BX.out 1).trans rfl;have hcx2:w22.cell? ⟨X,2,none⟩=some (.int .i64 x.f2):=(blk_cell BX.out 2).trans rfl))
    go_roundg (l0.length-(kk+1))
    case measure=>omega
    case rel=>have hmx:=HL.out;exact⟨kk+1,by omega,by omega,(by have e_:wrap64 ((kk:Int)+1)=((kk+1:Nat):Int):=(by unfold wrap64;omega);first | (rw[e_];done) | (simp only[e_];done) | (simp[e_];done)),⟨(a36_)⟩,HM⟩
  ·have hkl:kk=l0.length:=by omega
   have hltz:¬(kk:Int)<(l0.length:Int):=by omega
   have hltb:=decide_eq_false hltz
   have HM:Aside0 (spec_MakeEdition.join l0 x=l0 ++ [x]):=⟨by rw[HI.out,hkl,List.take_length,List.drop_length];rfl⟩
   have hcx0:wr.cell? ⟨X,0,none⟩=some (.int .i64 x.f0):=(blk_cell BX.out 0).trans rfl
   have hcx1:wr.cell? ⟨X,1,none⟩=some (.int .i64 x.f1):=(blk_cell BX.out 1).trans rfl
   have hcx2:wr.cell? ⟨X,2,none⟩=some (.int .i64 x.f2):=(blk_cell BX.out 2).trans rfl
   have HWW:=am_ (below_step HB1.out HB.out)
   have HOq:=am_ (Kd.R_below HO1.out HB.out)
   have HBq:=am_ (HB0.out.trans (HWW.out.mono HB0.out.size))
   have HSq:=am_ (Nat.le_trans HB0.out.size HWW.out.size)
   have HWq:=am_ HWW.out.size
   clear HI hkl
   go_wp2_with (first | ((with_reducible refine gate_builtin (b:= .append) (xs:= #[.tmp 34, .tmp 36]) rfl ?_);at_builtin;refine Kd.R_append k47 (w0:=w0) w0.heap.size rfl (.tmp 34) (.tmp 36) 26 47 (.agg #[(.int .i64 0),(.int .i64 0),(.int .i64 0)]) 24 rfl Try.underlying26 info47 rfl (by decide) (by omega) (.slice A0 l0.length c0) l0 x [.int .i64 x.f0, .int .i64 x.f1, .int .i64 x.f2] okP (fun _=>False) rfl (a12_) ?aP (fun _ hk=>hk.elim) ?aF ?aO ?aB ?aS ?aL ?_;(case aP=>exact k47_mkM _ _ _ x);(case aB=>exact HBq.out);(case aF=>exact(fun k_ hk=>HF.out k_ (by have:=HWq.out;omega)));(case aO=>exact HOq.out);(case aS=>exact HSq.out);(case aL=>have:=HL.out;omega);intro v214 w25 ho hb hg hat;have n0_:=am_ ho;have n1_:=am_ hb;have n2_:=am_ hg;have n3_:=am_ hat;clear ho hb hg hat))
   go_ret
   exact⟨_,rfl,by rw[HM.out];exact n0_.out,n1_.out,World.grownBy.trans (grown_of_below HWW.out _) n2_.out,n3_.out.imp id (fun⟨b,e,h⟩=>⟨b,e,Nat.le_trans HWW.out.size h⟩)⟩
mutual
def spec_MakeEdition.l0:Nat→List (List (S47))→List (S47)→Int→List (S44)→Int→Int→Option ((List (S47))×Bool)
 | 0,_,_,_,_,_,_=>none
 | k+1,x0,x6,x7,x16,x17,x18=>if x18<x17 then(if 0≤x18 then(if x18<(x16.length:Int) then(if 0≤((rd_T44 x16 x18).f0) then(if((rd_T44 x16 x18).f0)<(x0.length:Int) then((spec_shCut.f k (rd_L6 x0 ((rd_T44 x16 x18).f0)) ((rd_T44 x16 x18).f1) ((rd_T44 x16 x18).f2)).bind fun t208=>(spec_MakeEdition.l1 k x0 x6 x7 x16 x17 x18 t208 (t208.length:Int) 0 ((rd_T44 x16 x18).f0) ((rd_T44 x16 x18).f1) ((rd_T44 x16 x18).f2))) else(none)) else(none)) else(none)) else(none)) else((spec_shSorted.f k x6).bind fun bt201=>(some (bt201.1,bt201.2)))
def spec_MakeEdition.l1:Nat→List (List (S47))→List (S47)→Int→List (S44)→Int→Int→List (S47)→Int→Int→Int→Int→Int→Option ((List (S47))×Bool)
 | 0,_,_,_,_,_,_,_,_,_,_,_,_=>none
 | k+1,x0,x6,x7,x16,x17,x18,x31,x32,x33,x207000,x207001,x207002=>if x33<x32 then(if 0≤x33 then(if x33<(x31.length:Int) then(if x6.length<5864062014805 then(spec_MakeEdition.l1 k x0 (spec_MakeEdition.join x6 (⟨(rd_T47 x31 x33).f0,wrap64 (((rd_T47 x31 x33).f1)+x7),wrap64 (((rd_T47 x31 x33).f2)+x7)⟩:S47)) x7 x16 x17 x18 x31 x32 (wrap64 (x33+1)) x207000 x207001 x207002) else(none)) else(none)) else(none)) else(spec_MakeEdition.l0 k x0 x6 (wrap64 (x7+(wrap64 (x207002-x207001)))) x16 x17 (wrap64 (x18+1)))
end
def spec_MakeEdition.f (k:Nat) (l0:List (List (S47))) (l1:List (S44)):Option ((List (S47))×Bool):=(spec_edSheets.f k l0 l1).bind fun t200=>(if t200=true then(spec_MakeEdition.l0 k l0 ([]:List (S47)) 0 l1 (l1.length:Int) 0) else(some (([]:List (S47)),false)))
theorem spec_MakeEdition.mono_l:∀k,(∀y0 y1 y2 y3 y4 y5,LeO (spec_MakeEdition.l0 k y0 y1 y2 y3 y4 y5) (spec_MakeEdition.l0 (k+1) y0 y1 y2 y3 y4 y5))∧(∀y0 y1 y2 y3 y4 y5 y6 y7 y8 y9 y10 y11,LeO (spec_MakeEdition.l1 k y0 y1 y2 y3 y4 y5 y6 y7 y8 y9 y10 y11) (spec_MakeEdition.l1 (k+1) y0 y1 y2 y3 y4 y5 y6 y7 y8 y9 y10 y11))
 | 0=>⟨fun _ _ _ _ _ _ r h=>by simp[spec_MakeEdition.l0]at h,fun _ _ _ _ _ _ _ _ _ _ _ _ r h=>by simp[spec_MakeEdition.l1]at h⟩
 | k+1=>by
  obtain⟨ih0,ih1⟩:=spec_MakeEdition.mono_l k
  refine⟨?_,?_⟩
  ·intro y0 y1 y2 y3 y4 y5
   unfold spec_MakeEdition.l0
   repeat' first
   | (with_reducible exact ih0 _ _ _ _ _ _)
   | (with_reducible exact ih1 _ _ _ _ _ _ _ _ _ _ _ _)
   | (with_reducible exact spec_edSheets.mono _ _ _)
   | (with_reducible exact spec_shCut.mono _ _ _ _)
   | (with_reducible exact spec_shSorted.mono _ _)
   | (with_reducible exact LeO.refl _)
   | (with_reducible exact LeO.none _)
   | (with_reducible refine LeO.ite ?_ ?_)
   | (with_reducible refine LeO.bind ?_ (fun _=>?_))
   | exact ih0 _ _ _ _ _ _
   | exact ih1 _ _ _ _ _ _ _ _ _ _ _ _
   | exact spec_edSheets.mono _ _ _
   | exact spec_shCut.mono _ _ _ _
   | exact spec_shSorted.mono _ _
   | exact LeO.none _
   | refine LeO.ite ?_ ?_
   | refine LeO.bind ?_ (fun _=>?_)
  ·intro y0 y1 y2 y3 y4 y5 y6 y7 y8 y9 y10 y11
   unfold spec_MakeEdition.l1
   repeat' first
   | (with_reducible exact ih0 _ _ _ _ _ _)
   | (with_reducible exact ih1 _ _ _ _ _ _ _ _ _ _ _ _)
   | (with_reducible exact spec_edSheets.mono _ _ _)
   | (with_reducible exact spec_shCut.mono _ _ _ _)
   | (with_reducible exact spec_shSorted.mono _ _)
   | (with_reducible exact LeO.refl _)
   | (with_reducible exact LeO.none _)
   | (with_reducible refine LeO.ite ?_ ?_)
   | (with_reducible refine LeO.bind ?_ (fun _=>?_))
   | exact ih0 _ _ _ _ _ _
   | exact ih1 _ _ _ _ _ _ _ _ _ _ _ _
   | exact spec_edSheets.mono _ _ _
   | exact spec_shCut.mono _ _ _ _
   | exact spec_shSorted.mono _ _
   | exact LeO.none _
   | refine LeO.ite ?_ ?_
   | refine LeO.bind ?_ (fun _=>?_)
theorem spec_MakeEdition.mono:∀a0 a1 k,LeO (spec_MakeEdition.f k a0 a1) (spec_MakeEdition.f (k+1) a0 a1):=by
 intro a0 a1 k
 obtain⟨ih0,ih1⟩:=spec_MakeEdition.mono_l k
 unfold spec_MakeEdition.f
 repeat' first
  | (with_reducible exact ih0 _ _ _ _ _ _)
  | (with_reducible exact ih1 _ _ _ _ _ _ _ _ _ _ _ _)
  | (with_reducible exact spec_edSheets.mono _ _ _)
  | (with_reducible exact spec_shCut.mono _ _ _ _)
  | (with_reducible exact spec_shSorted.mono _ _)
  | (with_reducible exact LeO.refl _)
  | (with_reducible exact LeO.none _)
  | (with_reducible refine LeO.ite ?_ ?_)
  | (with_reducible refine LeO.bind ?_ (fun _=>?_))
  | exact ih0 _ _ _ _ _ _
  | exact ih1 _ _ _ _ _ _ _ _ _ _ _ _
  | exact spec_edSheets.mono _ _ _
  | exact spec_shCut.mono _ _ _ _
  | exact spec_shSorted.mono _ _
  | exact LeO.none _
  | refine LeO.ite ?_ ?_
  | refine LeO.bind ?_ (fun _=>?_)
def spec_MakeEdition.T8:Bool×List (List Nat×List Nat):=(true, [([], []),([], []),([1], [1]),([0,2], [0,2]),([3], [3]),([], []),([5], [5]),([], []),([7], [7]),([4,6,8], [4,6,8]),([9], [9]),([], [])])
def spec_MakeEdition.B8:List Nat:=[0,0,2,7,15,0,32,0,128,511,1023,0]
theorem spec_MakeEdition.tab8:rtab .any (opsOf Try.f6 8)=spec_MakeEdition.T8:=by kernel_rfl
theorem spec_MakeEdition.bits8:waitsOk spec_MakeEdition.T8.2 spec_MakeEdition.B8=true:=by kernel_rfl
set_option maxHeartbeats 8000000 in
set_option maxRecDepth 100000 in
theorem spec_MakeEdition.calls (k:Nat) (A0:Option Addr) (c0:Nat) (l0:List (List (S47))) (A1:Option Addr) (c1:Nat) (l1:List (S44)) (r1:List (S47)) (r2:Bool) (w:World) (hr0:Kd.C (Kd.slice 47 k47) w A0 l0.length l0) (hc0:l0.length≤c0) (hr1:Kd.C k44 w A1 l1.length l1) (hc1:l1.length≤c1) (h:spec_MakeEdition.f k l0 l1=some (r1,r2)) :
 Calls Try.prog 6 #[.slice A0 l0.length c0, .slice A1 l1.length c1] w fun e w'=>∃v0_:Value,e = .returned (.tuple #[v0_, .bool r2])∧Kd.R k47 47 w' w.heap.size (fun _=>True) v0_ r1∧Below w.heap.size w w':=by
 have hu44:=Try.underlying44
 have hu47:=Try.underlying47
 have HR0:=am_ hr0
 have HC0:=am_ hc0
 clear hr0 hc0
 have HR1:=am_ hr1
 have HC1:=am_ hc1
 clear hr1 hc1
 have HB:=am_ (Below.refl w.heap.size w)
 have H:((spec_edSheets.f k l0 l1).bind fun t200=>(if t200=true then(spec_MakeEdition.l0 k l0 ([]:List (S47)) 0 l1 (l1.length:Int) 0) else(some (([]:List (S47)),false))))=some (r1,r2):=h
 clear h
 replace H:=Option.bind_eq_some_iff.mp H
 obtain⟨t200,A30,H⟩:=H
 replace H:(if t200=true then(spec_MakeEdition.l0 k l0 ([]:List (S47)) 0 l1 (l1.length:Int) 0) else(some (([]:List (S47)),false)))=some (r1,r2):=H
 have A3:=am_ A30
 clear A30
 by_cases c4:t200=true
 ·subst c4
  replace H:(spec_MakeEdition.l0 k l0 ([]:List (S47)) 0 l1 (l1.length:Int) 0)=some (r1,r2):=by rw[if_pos rfl]at H;exact H
  have H':=am_ H
  clear H
  go_enter Try.func6,Try.ntmps6
  go_wp2_with (first | ((with_reducible refine gate_callee (f:=18) rfl ?_);refine goesL_ (some 14) rfl rfl Try.func18 (by kernel_rfl) rfl #[.slice A0 l0.length c0, .slice A1 l1.length c1] rfl (by(try simp only[List.map_toArray,List.map_cons,List.map_nil]);first | done | rfl | (simp only[List.length_drop,List.length_take];rfl)) ?_;(with_reducible refine(spec_edSheets.calls k _ _ l0 _ _ l1 true _ ?side1 ?side2 ?side3 ?side4 A3.out).mono ?_);(case side1=>exact(a18_ HR0.out));(case side2=>exact HC0.out);(case side3=>exact(a18_ HR1.out));(case side4=>exact HC1.out);rintro e w5 ⟨rfl,hb⟩;refine⟨_,rfl,?_⟩;replace HB:=am_ (below_step (a0_) hb);(try clear hb);(try clear hb2);(try clear hk);(try clear hi)))
  go_loopg [6,7,18] k (fun kq v6 v7 v18 w'=>∃(x6_1:List (S47)) (x7_1:Int) (x18_1:Int),v7 = .int .i64 x7_1∧v18 = .int .i64 x18_1∧Aside0 (spec_MakeEdition.l0 kq l0 x6_1 x7_1 l1 (l1.length:Int) x18_1=some (r1,r2))∧Aside0 (kq≤k)∧Aside0 (Kd.R k47 47 w' w.heap.size (fun _=>True) v6 x6_1)∧Aside0 (Below w.heap.size w w'))
  case atStart=>exact⟨(([]:List (S47))),(0),(0),(a6_),(a6_),H',⟨Nat.le_refl _⟩,⟨a34_⟩,⟨a0_⟩⟩
  case round=>
   clear H'
   try clear c1
   try clear p2
   try clear c4
   obtain⟨x6_1,x7_1,x18_1,rfl,rfl,HA,HK1,HO_6,HB⟩:=hrel
   cases gk with
   | zero=>exact absurd HA.out (by simp[spec_MakeEdition.l0])
   | succ k1=>
    have H:=HA.out
    clear HA
    simp only[spec_MakeEdition.l0]at H
    by_cases c6:x18_1<(l1.length:Int)
    ·rw[if_pos c6]at H
     have c6b0:decide (x18_1<(l1.length:Int))=true:=decide_eq_true c6
     clear c6
     by_cases c7:0≤x18_1
     ·rw[if_pos c7]at H
      have c7b0:decide (0≤x18_1)=true:=decide_eq_true c7
      clear c7
      by_cases c8:x18_1<(l1.length:Int)
      ·rw[if_pos c8]at H
       have c8b0:decide (x18_1<(l1.length:Int))=true:=decide_eq_true c8
       clear c8
       by_cases c9:0≤((rd_T44 l1 x18_1).f0)
       ·rw[if_pos c9]at H
        have c9b0:decide (0≤((rd_T44 l1 x18_1).f0))=true:=decide_eq_true c9
        clear c9
        by_cases c10:((rd_T44 l1 x18_1).f0)<(l0.length:Int)
        ·rw[if_pos c10]at H
         have c10b0:decide (((rd_T44 l1 x18_1).f0)<(l0.length:Int))=true:=decide_eq_true c10
         clear c10
         replace H:=Option.bind_eq_some_iff.mp H
         obtain⟨t208,A110,H⟩:=H
         replace H:(spec_MakeEdition.l1 k1 l0 x6_1 x7_1 l1 (l1.length:Int) x18_1 t208 (t208.length:Int) 0 ((rd_T44 l1 x18_1).f0) ((rd_T44 l1 x18_1).f1) ((rd_T44 l1 x18_1).f2))=some (r1,r2):=H
         have A11:=am_ A110
         clear A110
         have H':=am_ H
         clear H
         have p205:0≤(x18_1:Int):=of_decide_eq_true (a4_)
         have q205:x18_1<(l1.length:Int):=of_decide_eq_true (a4_)
         obtain⟨ad205,e205,hx205_0,hx205_1,hx205_2⟩:=at_T44 HR1.out x18_1 p205 q205
         cases e205
         replace hx205_0:=(HB.out.cell (World.block_lt_of_cell? w _ hx205_0)).trans hx205_0
         replace hx205_1:=(HB.out.cell (World.block_lt_of_cell? w _ hx205_1)).trans hx205_1
         replace hx205_2:=(HB.out.cell (World.block_lt_of_cell? w _ hx205_2)).trans hx205_2
         replace p205:=eq_true p205
         replace q205:=eq_true q205
         try go_wp2_with (first | ((with_reducible refine gate_dst (N:=9) rfl ?_);refine box_event ?hg (N:=9) ?hd (cs:= #[.int .i64 0, .int .i64 0, .int .i64 0]) (t:=44) ?hr ?_;(case hd=>rfl);(case hg=>rfl);(case hr=>exact a12_);intro gb206 hg w12 hbox hb;replace HO_6:=am_ (Kd.R_below ((a2_ HO_6.out)) hb);have BK206:=am_ (hbox);have GW206:=am_ ((by rw[hg];exact(below_size (a0_)):w.heap.size≤gb206));have GE206:=am_ ((by rw[hg];exact(below_size (a0_)):w.heap.size≤gb206));replace HB:=am_ (below_step (a0_) hb);clear hb hbox hg;have hcz13_0:w12.cell? ⟨gb206,0,none⟩=some (.int .i64 0):=(blk_cell BK206.out 0).trans rfl;have hcz13_1:w12.cell? ⟨gb206,1,none⟩=some (.int .i64 0):=(blk_cell BK206.out 1).trans rfl;have hcz13_2:w12.cell? ⟨gb206,2,none⟩=some (.int .i64 0):=(blk_cell BK206.out 2).trans rfl;have hfz13_0:=blk_frozen BK206.out 0;have hfz13_1:=blk_frozen BK206.out 1;have hfz13_2:=blk_frozen BK206.out 2))
         have n0_:Aside0 (Kd.R k47 47 (((w12.setCell ⟨gb206,0,none⟩ (.int .i64 ((rd_T44 l1 x18_1).f0))).setCell ⟨gb206,1,none⟩ (.int .i64 ((rd_T44 l1 x18_1).f1))).setCell ⟨gb206,2,none⟩ (.int .i64 ((rd_T44 l1 x18_1).f2))) w.heap.size (fun _=>True) u6 x6_1):=⟨by(with_reducible repeat (first | apply Kd.R_alloc | apply Kd.R_drewN | apply Kd.R_drew));exact Kd.R_mono (Kd.R_far (p:=⟨gb206,2,none⟩) (Kd.R_far (p:=⟨gb206,1,none⟩) (Kd.R_far (p:=⟨gb206,0,none⟩) (Kd.R_types HO_6.out BK206.out (by decide)) (fun _ hk=>hk.2) (.int .i64 ((rd_T44 l1 x18_1).f0))) (fun _ hk=>hk.2) (.int .i64 ((rd_T44 l1 x18_1).f1))) (fun _ hk=>hk.2) (.int .i64 ((rd_T44 l1 x18_1).f2))) (fun _ hk=>trivial)⟩
         have n1_:Aside0 ((((w12.setCell ⟨gb206,0,none⟩ (.int .i64 ((rd_T44 l1 x18_1).f0))).setCell ⟨gb206,1,none⟩ (.int .i64 ((rd_T44 l1 x18_1).f1))).setCell ⟨gb206,2,none⟩ (.int .i64 ((rd_T44 l1 x18_1).f2))).heap[gb206]? = some (.cells #[.int .i64 ((rd_T44 l1 x18_1).f0), .int .i64 ((rd_T44 l1 x18_1).f1), .int .i64 ((rd_T44 l1 x18_1).f2)] 44 (0,0))):=⟨by(with_reducible repeat (first | refine blk_drewN ?_ _ | refine blk_drew ?_ | refine blk_alloc ?_ _));refine blk_put (cs:= #[.int .i64 ((rd_T44 l1 x18_1).f0), .int .i64 ((rd_T44 l1 x18_1).f1), .int .i64 0]) ?_ 2 _ rfl;(with_reducible repeat (first | refine blk_drewN ?_ _ | refine blk_drew ?_ | refine blk_alloc ?_ _));refine blk_put (cs:= #[.int .i64 ((rd_T44 l1 x18_1).f0), .int .i64 0, .int .i64 0]) ?_ 1 _ rfl;(with_reducible repeat (first | refine blk_drewN ?_ _ | refine blk_drew ?_ | refine blk_alloc ?_ _));refine blk_put (cs:= #[.int .i64 0, .int .i64 0, .int .i64 0]) ?_ 0 _ rfl;(with_reducible repeat (first | refine blk_drewN ?_ _ | refine blk_drew ?_ | refine blk_alloc ?_ _));exact BK206.out⟩
         have n2_:Aside0 (Below w.heap.size w (((w12.setCell ⟨gb206,0,none⟩ (.int .i64 ((rd_T44 l1 x18_1).f0))).setCell ⟨gb206,1,none⟩ (.int .i64 ((rd_T44 l1 x18_1).f1))).setCell ⟨gb206,2,none⟩ (.int .i64 ((rd_T44 l1 x18_1).f2)))):=⟨(a1_ GE206.out)⟩
         (try clear HO_6)
         (try clear BK206)
         (try clear HB)
         generalize (((w12.setCell ⟨gb206,0,none⟩ (.int .i64 ((rd_T44 l1 x18_1).f0))).setCell ⟨gb206,1,none⟩ (.int .i64 ((rd_T44 l1 x18_1).f1))).setCell ⟨gb206,2,none⟩ (.int .i64 ((rd_T44 l1 x18_1).f2)))=w14 at n0_ n1_ n2_ ⊢
         have HO_6:=n0_
         have BK206:=n1_
         have HB:=n2_
         clear n0_ n1_ n2_
         replace HO_6:=am_ (Kd.R_drew HO_6.out)
         replace BK206:=am_ (blk_drew BK206.out)
         replace HB:=am_ (below_drew1 HB.out)
         have p207:0≤(((rd_T44 l1 x18_1).f0):Int):=of_decide_eq_true (a4_)
         have q207:((rd_T44 l1 x18_1).f0)<(l0.length:Int):=of_decide_eq_true (a4_)
         obtain⟨ad207,A207_0,c207_0,e207,hx207_0,hl207_0,hi207_0⟩:=at_L6 HR0.out ((rd_T44 l1 x18_1).f0) p207 q207
         have hw207_0:=hx207_0
         cases e207
         replace hx207_0:=(HB.out.cell (World.block_lt_of_cell? w _ hx207_0)).trans hx207_0
         have HR207_0:=am_ hi207_0
         have HC207_0:=am_ hl207_0
         clear hi207_0 hl207_0
         replace p207:=eq_true p207
         replace q207:=eq_true q207
         refine start_ (n:=12) (S:=fun w'=>w'.cell? ⟨gb206,0,none⟩=some (.int .i64 ((rd_T44 l1 x18_1).f0))∧w'.cell? ⟨gb206,1,none⟩=some (.int .i64 ((rd_T44 l1 x18_1).f1))∧w'.cell? ⟨gb206,2,none⟩=some (.int .i64 ((rd_T44 l1 x18_1).f2))∧w'.cell? (ad207.add (((rd_T44 l1 x18_1).f0)).toNat)=some (.slice A207_0 (rd_L6 l0 ((rd_T44 l1 x18_1).f0)).length c207_0)) (ds:=[]) #[false,false,false,false,false,false,false,false,false,false,false,false] (by kernel_rfl) rfl rfl ⟨(blk_cell BK206.out 0).trans rfl,(blk_cell BK206.out 1).trans rfl,(blk_cell BK206.out 2).trans rfl,((HB.out.cell (World.block_lt_of_cell? w _ hw207_0)).trans hw207_0)⟩ (fun hHeld=>?_);refine with_tabW spec_MakeEdition.tab8 spec_MakeEdition.bits8 (fun HT_ HW_=>?_)
         generalize w14.drew=w15 at HO_6 BK206 HB HR207_0 hx207_0 hHeld ⊢
         refine pure_ (i:=0) (N:=some 22) (v:=?_) (a':=?_) #[true,false,false,false,false,false,false,false,false,false,false,false] rfl rfl (any_of HT_.out (by kernel_rfl)) (fun _ _ _ h=>h) (Or.inl ⟨by rfl,?_⟩) ?_ ?_
         rotate_left
         ·intro w'
          go_simp
          with_reducible rfl
         rotate_left
         ·simp only[Act.put,pu_]
          rfl
         refine pure_ (i:=1) (N:=some 23) (v:=?_) (a':=?_) #[true,true,false,false,false,false,false,false,false,false,false,false] rfl rfl (any_of HT_.out (by kernel_rfl)) (fun _ _ _ h=>h) (Or.inl ⟨by rfl,?_⟩) ?_ ?_
         rotate_left
         ·intro w'
          go_simp
          with_reducible rfl
         rotate_left
         ·simp only[Act.put,pu_]
          rfl
         refine pure_ (i:=5) (N:=some 27) (v:=?_) (a':=?_) #[true,true,false,false,false,true,false,false,false,false,false,false] rfl rfl (any_of HT_.out (by kernel_rfl)) (fun _ _ _ h=>h) (Or.inl ⟨by rfl,?_⟩) ?_ ?_
         rotate_left
         ·intro w'
          go_simp
          with_reducible rfl
         rotate_left
         ·simp only[Act.put,pu_]
          rfl
         refine pure_ (i:=7) (N:=some 29) (v:=?_) (a':=?_) #[true,true,false,false,false,true,false,true,false,false,false,false] rfl rfl (any_of HT_.out (by kernel_rfl)) (fun _ _ _ h=>h) (Or.inl ⟨by rfl,?_⟩) ?_ ?_
         rotate_left
         ·intro w'
          go_simp
          with_reducible rfl
         rotate_left
         ·simp only[Act.put,pu_]
          rfl
         refine pure_ (i:=11) (N:=some 33) (v:=?_) (a':=?_) #[true,true,false,false,false,true,false,true,false,false,false,true] rfl rfl (any_of HT_.out (by kernel_rfl)) (fun _ _ _ h=>h) (Or.inl ⟨by rfl,?_⟩) ?_ ?_
         rotate_left
         ·intro w'
          go_simp
          with_reducible rfl
         rotate_left
         ·simp only[Act.put,pu_]
          rfl
         refine take_ (i:=2) (N:=some 24) (v:=?_) (a':=?_) #[true,true,true,false,false,true,false,true,false,false,false,true] rfl rfl (take_ofW HT_.out HW_.out (by kernel_rfl)) (fun _ _ _ h=>h) (Or.inl ⟨by rfl,?_⟩) hHeld ?_ ?_
         rotate_left
         ·rintro w' ⟨s0,s1,s2,s3⟩
          go_simp
          with_reducible rfl
         rotate_left
         ·simp only[Act.put,pu_]
          rfl
         refine pure_ (i:=3) (N:=some 25) (v:=?_) (a':=?_) #[true,true,true,true,false,true,false,true,false,false,false,true] rfl rfl (any_of HT_.out (by kernel_rfl)) (fun _ _ _ h=>h) (Or.inl ⟨by rfl,?_⟩) ?_ ?_
         rotate_left
         ·intro w'
          go_simp
          with_reducible rfl
         rotate_left
         ·simp only[Act.put,pu_]
          rfl
         refine take_ (i:=4) (N:=some 26) (v:=?_) (a':=?_) #[true,true,true,true,true,true,false,true,false,false,false,true] rfl rfl (take_ofW HT_.out HW_.out (by kernel_rfl)) (fun _ _ _ h=>h) (Or.inl ⟨by rfl,?_⟩) hHeld ?_ ?_
         rotate_left
         ·rintro w' ⟨s0,s1,s2,s3⟩
          go_simp
          with_reducible rfl
         rotate_left
         ·simp only[Act.put,pu_]
          rfl
         refine take_ (i:=6) (N:=some 28) (v:=?_) (a':=?_) #[true,true,true,true,true,true,true,true,false,false,false,true] rfl rfl (take_ofW HT_.out HW_.out (by kernel_rfl)) (fun _ _ _ h=>h) (Or.inl ⟨by rfl,?_⟩) hHeld ?_ ?_
         rotate_left
         ·rintro w' ⟨s0,s1,s2,s3⟩
          go_simp
          with_reducible rfl
         rotate_left
         ·simp only[Act.put,pu_]
          rfl
         refine take_ (i:=8) (N:=some 30) (v:=?_) (a':=?_) #[true,true,true,true,true,true,true,true,true,false,false,true] rfl rfl (take_ofW HT_.out HW_.out (by kernel_rfl)) (fun _ _ _ h=>h) (Or.inl ⟨by rfl,?_⟩) hHeld ?_ ?_
         rotate_left
         ·rintro w' ⟨s0,s1,s2,s3⟩
          go_simp
          with_reducible rfl
         rotate_left
         ·simp only[Act.put,pu_]
          rfl
         refine one_ (i:=9) (N:=some 31) #[true,true,true,true,true,true,true,true,true,true,false,true] rfl rfl (one_of HT_.out (by kernel_rfl)) (by decide) (fun K hK=>?_)
         refine goes_ Try.func19 (by kernel_rfl) rfl #[.slice A207_0 (rd_L6 l0 ((rd_T44 l1 x18_1).f0)).length c207_0, .int .i64 ((rd_T44 l1 x18_1).f1), .int .i64 ((rd_T44 l1 x18_1).f2)] (by rfl) rfl rfl (by(try simp only[List.map_toArray,List.map_cons,List.map_nil]);first | done | rfl | (simp only[List.length_drop,List.length_take];rfl)) ?_
         with_reducible refine(spec_shCut.calls k1 _ _ (rd_L6 l0 ((rd_T44 l1 x18_1).f0)) ((rd_T44 l1 x18_1).f1) ((rd_T44 l1 x18_1).f2) t208 _ ?side1 ?side2 A11.out).mono ?_
         (case side1=>exact(a11_ HR207_0.out))
         (case side2=>exact HC207_0.out)
         rintro e w16 ⟨v209,rfl,ho0,hb⟩
         refine⟨_,rfl,?_⟩
         have HO210:=am_ (Kd.R_lower (Kd.R_new' ho0 (Kd.R_lt ((a2_ HO_6.out)))) (below_size ((a1_ GE206.out))))
         replace HO_6:=am_ (Kd.R_elder' ((a2_ HO_6.out)) (Kd.R_base ho0) hb)
         replace BK206:=am_ (blk_below (g:=gb206) (o:= .cells #[.int .i64 ((rd_T44 l1 x18_1).f0), .int .i64 ((rd_T44 l1 x18_1).f1), .int .i64 ((rd_T44 l1 x18_1).f2)] 44 (0,0)) ((a3_ BK206.out)) hb)
         replace HB:=am_ (below_step ((a1_ GE206.out)) hb)
         (try clear hb)
         (try clear hb2)
         (try clear hk)
         (try clear hi)
         (try clear ho0)
         obtain⟨Ao17,co17,eo17⟩:=Kd.R_slice HO210.out
         (first | subst eo17 | (injection eo17 with f1_ f2_ f3_;have f4_:=f1_.symm;have f5_:=f3_.symm;clear f1_ f2_ f3_;subst f4_;subst f5_))
         refine hK.out _ _ ⟨(blk_cell BK206.out 0).trans rfl,(blk_cell BK206.out 1).trans rfl,(blk_cell BK206.out 2).trans rfl,((HB.out.cell (World.block_lt_of_cell? w _ hw207_0)).trans hw207_0)⟩ (fun hHeld=>?_)
         clear hK K
         refine norm_ (a':=?_) ?_ ?_
         rotate_left
         ·show Act.put _ (some 31) _=_
          simp only[Act.put,pu_]
          rfl
         refine pure_ (i:=10) (N:=some 32) (v:=?_) (a':=?_) #[true,true,true,true,true,true,true,true,true,true,true,true] rfl rfl (any_of HT_.out (by kernel_rfl)) (fun _ _ _ h=>h) (Or.inl ⟨by rfl,?_⟩) ?_ ?_
         rotate_left
         ·intro w'
          go_simp
          with_reducible rfl
         rotate_left
         ·simp only[Act.put,pu_]
          rfl
         refine done_ (done_of HT_.out (by kernel_rfl)) ?_
         try go_wp2
         go_loopg [6,33] k1 (fun kq v6 v33 w'=>∃(x6_2:List (S47)) (x33_2:Int),v33 = .int .i64 x33_2∧Aside0 (spec_MakeEdition.l1 kq l0 x6_2 x7_1 l1 (l1.length:Int) x18_1 t208 (t208.length:Int) x33_2 ((rd_T44 l1 x18_1).f0) ((rd_T44 l1 x18_1).f1) ((rd_T44 l1 x18_1).f2)=some (r1,r2))∧Aside0 (kq≤k1)∧Aside0 (Kd.R k47 47 w' w.heap.size (fun k_=>some k_≠((.slice Ao17 t208.length co17):Value).ownBlock) v6 x6_2)∧Aside0 (Kd.R k47 47 w' w.heap.size (fun k_=>some k_≠(v6:Value).ownBlock) (.slice Ao17 t208.length co17) t208)∧Aside0 (w'.heap[gb206]? = some (.cells #[.int .i64 ((rd_T44 l1 x18_1).f0), .int .i64 ((rd_T44 l1 x18_1).f1), .int .i64 ((rd_T44 l1 x18_1).f2)] 44 (0,0)))∧Aside0 (Below w.heap.size w w'))
         case atStart=>exact⟨(x6_1),(0),(a6_),H',⟨Nat.le_refl _⟩,⟨(a32_ HO_6.out)⟩,⟨(a32_ HO210.out)⟩,⟨(a3_ BK206.out)⟩,⟨(a1_ GE206.out)⟩⟩
         case round=>
          clear H'
          try clear c1
          try clear c2
          try clear p2
          try clear q2
          try clear hx2
          try clear c4
          try clear c6
          try clear c6b0
          try clear c7
          try clear c7b0
          try clear c8
          try clear c8b0
          try clear c9
          try clear c9b0
          try clear c10
          try clear c10b0
          try clear hcz13_0
          try clear hcz13_1
          try clear hcz13_2
          try clear hfz13_0
          try clear hfz13_1
          try clear hfz13_2
          try clear hx205_0
          try clear hx205_1
          try clear hx205_2
          try clear hx207_0
          try clear p2
          try clear p205
          try clear p207
          try clear q205
          try clear q207
          obtain⟨x6_2,x33_2,rfl,HA,HK2,HO_6,HO_31,BK206,HB⟩:=hrel
          cases gk with
          | zero=>exact absurd HA.out (by simp[spec_MakeEdition.l1])
          | succ k2=>
           have H:=HA.out
           clear HA
           simp only[spec_MakeEdition.l1]at H
           by_cases c18:x33_2<(t208.length:Int)
           ·rw[if_pos c18]at H
            have c18b0:decide (x33_2<(t208.length:Int))=true:=decide_eq_true c18
            clear c18
            by_cases c19:0≤x33_2
            ·rw[if_pos c19]at H
             have c19b0:decide (0≤x33_2)=true:=decide_eq_true c19
             clear c19
             by_cases c20:x33_2<(t208.length:Int)
             ·rw[if_pos c20]at H
              have c20b0:decide (x33_2<(t208.length:Int))=true:=decide_eq_true c20
              clear c20
              by_cases c21:x6_2.length<5864062014805
              ·rw[if_pos c21]at H
               have LMc21:=am_ c21
               clear c21
               obtain⟨y213,hy213⟩:∃y_:List (S47),y_=(spec_MakeEdition.join x6_2 (⟨(rd_T47 t208 x33_2).f0,wrap64 (((rd_T47 t208 x33_2).f1)+x7_1),wrap64 (((rd_T47 t208 x33_2).f2)+x7_1)⟩:S47)):=⟨_,rfl⟩
               replace H:(spec_MakeEdition.l1 k2 l0 y213 x7_1 l1 (l1.length:Int) x18_1 t208 (t208.length:Int) (wrap64 (x33_2+1)) ((rd_T44 l1 x18_1).f0) ((rd_T44 l1 x18_1).f1) ((rd_T44 l1 x18_1).f2))=some (r1,r2):=by first | (rw[hy213];with_reducible exact H) | (have H2_:=(Option.bind_some _ _).symm.trans H;rw[hy213];with_reducible exact H2_) | (have H2_:=(Option.bind_some _ _).symm.trans H;with_reducible exact H2_) | with_reducible exact H | (rw[hy213];exact H) | exact H
               have Ny213:=am_ hy213
               clear hy213
               have H':=am_ H
               clear H
               have p211:0≤(x33_2:Int):=of_decide_eq_true (a4_)
               have q211:x33_2<(t208.length:Int):=of_decide_eq_true (a4_)
               obtain⟨ad211,e211,hx211_0,hx211_1,hx211_2⟩:=at_T47 (Kd.R_reads' HO_31.out).2.2 x33_2 p211 q211
               cases e211
               replace p211:=eq_true p211
               replace q211:=eq_true q211
               go_upto_region 11 with (first | ((with_reducible refine gate_dst (N:=11) rfl ?_);refine box_event ?hg (N:=11) ?hd (cs:= #[.int .i64 0, .int .i64 0, .int .i64 0]) (t:=47) ?hr ?_;(case hd=>rfl);(case hg=>rfl);(case hr=>exact a12_);intro gb212 hg w22 hbox hb;replace HO_6:=am_ (Kd.R_below (Kd.R_elderB ((a2_ HO_6.out)) gb212 (Nat.le_of_eq hg.symm)) hb);replace HO_31:=am_ (Kd.R_below (Kd.R_elderB ((a2_ HO_31.out)) gb212 (Nat.le_of_eq hg.symm)) hb);have BK212:=am_ (hbox);have GW212:=am_ ((by rw[hg];exact(below_size ((a1_ GE206.out))):w.heap.size≤gb212));have GE212:=am_ ((by rw[hg];exact(below_size ((a1_ GE206.out))):w.heap.size≤gb212));replace HB:=am_ (below_step ((a1_ GE206.out)) hb);have NB206_212:=am_ ((by rw[hg];exact Nat.ne_of_lt (blk_lt (g:=gb206) (o:= .cells #[.int .i64 ((rd_T44 l1 x18_1).f0), .int .i64 ((rd_T44 l1 x18_1).f1), .int .i64 ((rd_T44 l1 x18_1).f2)] 44 (0,0)) ((a3_ BK206.out))):gb206≠gb212));have NB212_206:=am_ ((by rw[hg];exact Nat.ne_of_gt (blk_lt (g:=gb206) (o:= .cells #[.int .i64 ((rd_T44 l1 x18_1).f0), .int .i64 ((rd_T44 l1 x18_1).f1), .int .i64 ((rd_T44 l1 x18_1).f2)] 44 (0,0)) ((a3_ BK206.out))):gb212≠gb206));replace BK206:=am_ (blk_below (g:=gb206) (o:= .cells #[.int .i64 ((rd_T44 l1 x18_1).f0), .int .i64 ((rd_T44 l1 x18_1).f1), .int .i64 ((rd_T44 l1 x18_1).f2)] 44 (0,0)) ((a3_ BK206.out)) hb);clear hb hbox hg;have hnb23:=NB212_206.out;have hnc23:=NB206_212.out;have hcz24_0:w22.cell? ⟨gb212,0,none⟩=some (.int .i64 0):=(blk_cell BK212.out 0).trans rfl;have hcz24_1:w22.cell? ⟨gb212,1,none⟩=some (.int .i64 0):=(blk_cell BK212.out 1).trans rfl;have hcz24_2:w22.cell? ⟨gb212,2,none⟩=some (.int .i64 0):=(blk_cell BK212.out 2).trans rfl;have hfz24_0:=blk_frozen BK212.out 0;have hfz24_1:=blk_frozen BK212.out 1;have hfz24_2:=blk_frozen BK212.out 2))
               refine spec_MakeEdition.gen (S:=(fun W=>W.heap[gb212]? = some (.cells #[.int .i64 ((rd_T47 t208 x33_2).f0), .int .i64 ((rd_T47 t208 x33_2).f1), .int .i64 ((rd_T47 t208 x33_2).f2)] 47 (0,0))∧W.heap[gb206]? = some (.cells #[.int .i64 ((rd_T44 l1 x18_1).f0), .int .i64 ((rd_T44 l1 x18_1).f1), .int .i64 ((rd_T44 l1 x18_1).f2)] 44 (0,0))∧Kd.R k47 47 W w.heap.size (fun k_=>some k_≠((.slice (some ad211) t208.length co17):Value).ownBlock∧k_≠gb212) u6 x6_2∧Kd.R k47 47 W w.heap.size (fun k_=>some k_≠(u6:Value).ownBlock∧k_≠gb212) (.slice (some ad211) t208.length co17) t208∧Below w.heap.size w W)) _ ⟨(by(with_reducible repeat (first | refine blk_drewN ?_ _ | refine blk_drew ?_ | refine blk_alloc ?_ _));refine blk_put (cs:= #[.int .i64 ((rd_T47 t208 x33_2).f0), .int .i64 ((rd_T47 t208 x33_2).f1), .int .i64 0]) ?_ 2 _ rfl;(with_reducible repeat (first | refine blk_drewN ?_ _ | refine blk_drew ?_ | refine blk_alloc ?_ _));refine blk_put (cs:= #[.int .i64 ((rd_T47 t208 x33_2).f0), .int .i64 0, .int .i64 0]) ?_ 1 _ rfl;(with_reducible repeat (first | refine blk_drewN ?_ _ | refine blk_drew ?_ | refine blk_alloc ?_ _));refine blk_put (cs:= #[.int .i64 0, .int .i64 0, .int .i64 0]) ?_ 0 _ rfl;(with_reducible repeat (first | refine blk_drewN ?_ _ | refine blk_drew ?_ | refine blk_alloc ?_ _));exact BK212.out),((a13_ NB206_212.out BK206.out)),(Kd.R_mono (Kd.R_far (p:=⟨gb212,2,none⟩) (Kd.R_far (p:=⟨gb212,1,none⟩) (Kd.R_far (p:=⟨gb212,0,none⟩) (Kd.R_mono HO_6.out (fun k_ hk=>(⟨hk,hk.2⟩:_∧k_≠gb212))) (fun _ hk=>hk.2) (.int .i64 ((rd_T47 t208 x33_2).f0))) (fun _ hk=>hk.2) (.int .i64 ((rd_T47 t208 x33_2).f1))) (fun _ hk=>hk.2) (.int .i64 ((rd_T47 t208 x33_2).f2))) (fun _ hk=>hk.1)),(Kd.R_mono (Kd.R_far (p:=⟨gb212,2,none⟩) (Kd.R_far (p:=⟨gb212,1,none⟩) (Kd.R_far (p:=⟨gb212,0,none⟩) (Kd.R_mono HO_31.out (fun k_ hk=>(⟨hk,hk.2⟩:_∧k_≠gb212))) (fun _ hk=>hk.2) (.int .i64 ((rd_T47 t208 x33_2).f0))) (fun _ hk=>hk.2) (.int .i64 ((rd_T47 t208 x33_2).f1))) (fun _ hk=>hk.2) (.int .i64 ((rd_T47 t208 x33_2).f2))) (fun _ hk=>hk.1)),((a7_ GE206.out GE212.out))⟩ (fun wa hq=>?_)
               obtain⟨q1_,q2_,q3_,q4_,q5_⟩:=hq
               clear BK212 BK206 HO_6 HO_31 HB
               have BK212:=am_ q1_
               have BK206:=am_ q2_
               have HO_6:=am_ q3_
               have HO_31:=am_ q4_
               have HB:=am_ q5_
               clear q1_ q2_ q3_ q4_ q5_
               have ha0:wa.cell? ⟨gb212,0,none⟩=some (.int .i64 ((rd_T47 t208 x33_2).f0)):=(blk_cell BK212.out 0).trans rfl
               have ha1:wa.cell? ⟨gb212,1,none⟩=some (.int .i64 ((rd_T47 t208 x33_2).f1)):=(blk_cell BK212.out 1).trans rfl
               have ha2:wa.cell? ⟨gb212,2,none⟩=some (.int .i64 ((rd_T47 t208 x33_2).f2)):=(blk_cell BK212.out 2).trans rfl
               have haf0:=blk_frozen BK212.out 0
               have haf1:=blk_frozen BK212.out 1
               have haf2:=blk_frozen BK212.out 2
               go_upto_region 12 with (fail)
               refine spec_MakeEdition.gen (S:=(fun W=>W.heap[gb212]? = some (.cells #[.int .i64 ((rd_T47 t208 x33_2).f0), .int .i64 (wrap64 (((rd_T47 t208 x33_2).f1)+x7_1)), .int .i64 ((rd_T47 t208 x33_2).f2)] 47 (0,0))∧W.heap[gb206]? = some (.cells #[.int .i64 ((rd_T44 l1 x18_1).f0), .int .i64 ((rd_T44 l1 x18_1).f1), .int .i64 ((rd_T44 l1 x18_1).f2)] 44 (0,0))∧Kd.R k47 47 W w.heap.size (fun k_=>some k_≠((.slice (some ad211) t208.length co17):Value).ownBlock∧k_≠gb212) u6 x6_2∧Kd.R k47 47 W w.heap.size (fun k_=>some k_≠(u6:Value).ownBlock∧k_≠gb212) (.slice (some ad211) t208.length co17) t208∧Below w.heap.size w W)) _ ⟨(by(with_reducible repeat (first | refine blk_drewN ?_ _ | refine blk_drew ?_ | refine blk_alloc ?_ _));refine blk_put (cs:= #[.int .i64 ((rd_T47 t208 x33_2).f0), .int .i64 ((rd_T47 t208 x33_2).f1), .int .i64 ((rd_T47 t208 x33_2).f2)]) ?_ 1 _ rfl;(with_reducible repeat (first | refine blk_drewN ?_ _ | refine blk_drew ?_ | refine blk_alloc ?_ _));exact BK212.out),((a31_ NB206_212.out BK206.out)),(Kd.R_mono (Kd.R_far (p:=⟨gb212,1,none⟩) (Kd.R_mono HO_6.out (fun k_ hk=>(⟨hk,hk.2⟩:_∧k_≠gb212))) (fun _ hk=>hk.2) (.int .i64 (wrap64 (((rd_T47 t208 x33_2).f1)+x7_1)))) (fun _ hk=>hk.1)),(Kd.R_mono (Kd.R_far (p:=⟨gb212,1,none⟩) (Kd.R_mono HO_31.out (fun k_ hk=>(⟨hk,hk.2⟩:_∧k_≠gb212))) (fun _ hk=>hk.2) (.int .i64 (wrap64 (((rd_T47 t208 x33_2).f1)+x7_1)))) (fun _ hk=>hk.1)),((a7_ GE206.out GE212.out))⟩ (fun wb hq=>?_)
               clear ha0 haf0 ha1 haf1 ha2 haf2
               obtain⟨q1_,q2_,q3_,q4_,q5_⟩:=hq
               clear BK212 BK206 HO_6 HO_31 HB
               have BK212:=am_ q1_
               have BK206:=am_ q2_
               have HO_6:=am_ q3_
               have HO_31:=am_ q4_
               have HB:=am_ q5_
               clear q1_ q2_ q3_ q4_ q5_
               have hb0:wb.cell? ⟨gb212,0,none⟩=some (.int .i64 ((rd_T47 t208 x33_2).f0)):=(blk_cell BK212.out 0).trans rfl
               have hb1:wb.cell? ⟨gb212,1,none⟩=some (.int .i64 (wrap64 (((rd_T47 t208 x33_2).f1)+x7_1))):=(blk_cell BK212.out 1).trans rfl
               have hb2:wb.cell? ⟨gb212,2,none⟩=some (.int .i64 ((rd_T47 t208 x33_2).f2)):=(blk_cell BK212.out 2).trans rfl
               have hbf0:=blk_frozen BK212.out 0
               have hbf1:=blk_frozen BK212.out 1
               have hbf2:=blk_frozen BK212.out 2
               go_upto_region 13 with (fail)
               refine spec_MakeEdition.gen (S:=(fun W=>W.heap[gb212]? = some (.cells #[.int .i64 ((rd_T47 t208 x33_2).f0), .int .i64 (wrap64 (((rd_T47 t208 x33_2).f1)+x7_1)), .int .i64 (wrap64 (((rd_T47 t208 x33_2).f2)+x7_1))] 47 (0,0))∧W.heap[gb206]? = some (.cells #[.int .i64 ((rd_T44 l1 x18_1).f0), .int .i64 ((rd_T44 l1 x18_1).f1), .int .i64 ((rd_T44 l1 x18_1).f2)] 44 (0,0))∧Kd.R k47 47 W w.heap.size (fun k_=>some k_≠((.slice (some ad211) t208.length co17):Value).ownBlock∧k_≠gb212) u6 x6_2∧Kd.R k47 47 W w.heap.size (fun k_=>some k_≠(u6:Value).ownBlock∧k_≠gb212) (.slice (some ad211) t208.length co17) t208∧Below w.heap.size w W)) _ ⟨(by(with_reducible repeat (first | refine blk_drewN ?_ _ | refine blk_drew ?_ | refine blk_alloc ?_ _));refine blk_put (cs:= #[.int .i64 ((rd_T47 t208 x33_2).f0), .int .i64 (wrap64 (((rd_T47 t208 x33_2).f1)+x7_1)), .int .i64 ((rd_T47 t208 x33_2).f2)]) ?_ 2 _ rfl;(with_reducible repeat (first | refine blk_drewN ?_ _ | refine blk_drew ?_ | refine blk_alloc ?_ _));exact BK212.out),((a31_ NB206_212.out BK206.out)),(Kd.R_mono (Kd.R_far (p:=⟨gb212,2,none⟩) (Kd.R_mono HO_6.out (fun k_ hk=>(⟨hk,hk.2⟩:_∧k_≠gb212))) (fun _ hk=>hk.2) (.int .i64 (wrap64 (((rd_T47 t208 x33_2).f2)+x7_1)))) (fun _ hk=>hk.1)),(Kd.R_mono (Kd.R_far (p:=⟨gb212,2,none⟩) (Kd.R_mono HO_31.out (fun k_ hk=>(⟨hk,hk.2⟩:_∧k_≠gb212))) (fun _ hk=>hk.2) (.int .i64 (wrap64 (((rd_T47 t208 x33_2).f2)+x7_1)))) (fun _ hk=>hk.1)),((a7_ GE206.out GE212.out))⟩ (fun wc hq=>?_)
               clear hb0 hbf0 hb1 hbf1 hb2 hbf2
               obtain⟨q1_,q2_,q3_,q4_,q5_⟩:=hq
               clear BK212 BK206 HO_6 HO_31 HB
               have BK212:=am_ q1_
               have BK206:=am_ q2_
               have HO_6:=am_ q3_
               have HO_31:=am_ q4_
               have HB:=am_ q5_
               clear q1_ q2_ q3_ q4_ q5_
               have hc0:wc.cell? ⟨gb212,0,none⟩=some (.int .i64 ((rd_T47 t208 x33_2).f0)):=(blk_cell BK212.out 0).trans rfl
               have hc1:wc.cell? ⟨gb212,1,none⟩=some (.int .i64 (wrap64 (((rd_T47 t208 x33_2).f1)+x7_1))):=(blk_cell BK212.out 1).trans rfl
               have hc2:wc.cell? ⟨gb212,2,none⟩=some (.int .i64 (wrap64 (((rd_T47 t208 x33_2).f2)+x7_1))):=(blk_cell BK212.out 2).trans rfl
               have hcf0:=blk_frozen BK212.out 0
               have hcf1:=blk_frozen BK212.out 1
               have hcf2:=blk_frozen BK212.out 2
               go_wp2_with (first | (go_at_call 20;(with_reducible refine(spec_MakeEdition.joins (fun k_=>some k_≠((.slice (some ad211) t208.length co17):Value).ownBlock∧k_≠gb212) u6 x6_2 (⟨((rd_T47 t208 x33_2).f0),(wrap64 (((rd_T47 t208 x33_2).f1)+x7_1)),(wrap64 (((rd_T47 t208 x33_2).f2)+x7_1))⟩:S47) w _ ?aB ?aF ?aO ?aL).mono ?_);(case aB=>exact HB.out);(case aF=>exact(fun k_ hk=>⟨Kd.fresh' (Kd.R_lt HO_31.out) k_ hk,Kd.freshB (g:=gb212) (o:= .cells #[.int .i64 ((rd_T47 t208 x33_2).f0), .int .i64 (wrap64 (((rd_T47 t208 x33_2).f1)+x7_1)), .int .i64 (wrap64 (((rd_T47 t208 x33_2).f2)+x7_1))] 47 (0,0)) BK212.out k_ hk⟩));(case aO=>exact HO_6.out);(case aL=>exact LMc21.out);rintro e w25 ⟨v214,rfl,ho,hb,hg,hat⟩;rw[← Ny213.out]at ho;have n0_:=am_ (Kd.R_after (ok:=(fun k_=>k_≠gb212)) (Kd.R_mono HO_31.out (fun _ hk=>⟨hk.2,hk.1⟩)) hg hat);have n1_:=am_ (blk_grown (g:=gb206) (o:= .cells #[.int .i64 ((rd_T44 l1 x18_1).f0), .int .i64 ((rd_T44 l1 x18_1).f1), .int .i64 ((rd_T44 l1 x18_1).f2)] 44 (0,0)) BK206.out hg (Kd.R_ne HO_6.out BK206.out (by decide)));have n2_:=am_ hb;have n3_:=am_ ho;clear HO_31 BK206 HB HO_6 BK212;have HO_31:=n0_;have BK206:=n1_;have HB:=n2_;have HO215:=n3_;clear n0_ n1_ n2_ n3_ ho hb hg hat))
               go_roundg k2
               case measure=>have:=HK1.out;have:=HK2.out;omega
               case rel=>exact⟨(y213),(wrap64 (x33_2+1)),(a6_),H',⟨by have:=HK1.out;have:=HK2.out;omega⟩,⟨by(with_reducible repeat (first | apply Kd.R_alloc | apply Kd.R_drewN | apply Kd.R_drew));exact Kd.R_mono HO215.out (fun _ hk=>hk.1)⟩,⟨(a32_ HO_31.out)⟩,⟨(a3_ BK206.out)⟩,⟨(a7_ GE206.out GE212.out)⟩⟩
              ·rw[if_neg c21]at H
               exact absurd H (by simp)
             ·rw[if_neg c20]at H
              exact absurd H (by simp)
            ·rw[if_neg c19]at H
             exact absurd H (by simp)
           ·rw[if_neg c18]at H
            have c18b0:decide (x33_2<(t208.length:Int))=false:=decide_eq_false c18
            clear c18
            have H':=am_ H
            clear H
            have hcz26_0:wr.cell? ⟨gb206,0,none⟩=some (.int .i64 ((rd_T44 l1 x18_1).f0)):=(blk_cell BK206.out 0).trans rfl
            have hcz26_1:wr.cell? ⟨gb206,1,none⟩=some (.int .i64 ((rd_T44 l1 x18_1).f1)):=(blk_cell BK206.out 1).trans rfl
            have hcz26_2:wr.cell? ⟨gb206,2,none⟩=some (.int .i64 ((rd_T44 l1 x18_1).f2)):=(blk_cell BK206.out 2).trans rfl
            have hfz26_0:=blk_frozen BK206.out 0
            have hfz26_1:=blk_frozen BK206.out 1
            have hfz26_2:=blk_frozen BK206.out 2
            go_wp2
            go_roundg k2
            case measure=>have:=HK1.out;have:=HK2.out;omega
            case rel=>exact⟨(x6_2),(wrap64 (x7_1+(wrap64 (((rd_T44 l1 x18_1).f2)-((rd_T44 l1 x18_1).f1))))),(wrap64 (x18_1+1)),(a6_),(a6_),H',⟨by have:=HK1.out;have:=HK2.out;omega⟩,⟨(a26_ HO_6.out)⟩,⟨(a1_ GE206.out)⟩⟩
        ·rw[if_neg c10]at H
         exact absurd H (by simp)
       ·rw[if_neg c9]at H
        exact absurd H (by simp)
      ·rw[if_neg c8]at H
       exact absurd H (by simp)
     ·rw[if_neg c7]at H
      exact absurd H (by simp)
    ·rw[if_neg c6]at H
     have c6b0:decide (x18_1<(l1.length:Int))=false:=decide_eq_false c6
     clear c6
     replace H:=Option.bind_eq_some_iff.mp H
     obtain⟨⟨t201,t202⟩,A270,H⟩:=H
     replace H:(some (t201,t202))=some (r1,r2):=H
     have A27:=am_ A270
     clear A270
     simp only[Option.some.injEq,Prod.mk.injEq]at H
     obtain⟨rfl,rfl⟩:=H
     obtain⟨Ao28,co28,eo28⟩:=Kd.R_slice HO_6.out
     subst eo28
     go_wp2_with (first | ((with_reducible refine gate_callee (f:=21) rfl ?_);refine goesL_ (some 60) rfl rfl Try.func21 (by kernel_rfl) rfl #[.slice Ao28 x6_1.length co28] rfl (by(try simp only[List.map_toArray,List.map_cons,List.map_nil]);first | done | rfl | (simp only[List.length_drop,List.length_take];rfl)) ?_;(with_reducible refine(spec_shSorted.calls k1 _ _ x6_1 t201 t202 _ ?side1 ?side2 A27.out).mono ?_);(case side1=>exact(a9_ HO_6.out));(case side2=>exact(Kd.R_reads' HO_6.out).2.1);rintro e w29 ⟨v203,rfl,ho0,hb⟩;refine⟨_,rfl,?_⟩;have HO204:=am_ (Kd.R_lower (Kd.R_new' ho0 (Kd.R_lt ((a2_ HO_6.out)))) (below_size (a0_)));replace HO_6:=am_ (Kd.R_elder' ((a2_ HO_6.out)) (Kd.R_base ho0) hb);replace HB:=am_ (below_step (a0_) hb);(try clear hb);(try clear hb2);(try clear hk);(try clear hi);(try clear ho0)))
     go_ret2
     exact⟨_,a5_,(a26_ HO204.out),a0_⟩
 ·replace c4:=Bool.eq_false_iff.mpr c4
  subst c4
  replace H:(some (([]:List (S47)),false))=some (r1,r2):=by rw[if_neg (show ¬(false=true) by decide)]at H;exact H
  simp only[Option.some.injEq,Prod.mk.injEq]at H
  obtain⟨rfl,rfl⟩:=H
  go_enter Try.func6,Try.ntmps6
  go_wp2_with (first | ((with_reducible refine gate_callee (f:=18) rfl ?_);refine goesL_ (some 14) rfl rfl Try.func18 (by kernel_rfl) rfl #[.slice A0 l0.length c0, .slice A1 l1.length c1] rfl (by(try simp only[List.map_toArray,List.map_cons,List.map_nil]);first | done | rfl | (simp only[List.length_drop,List.length_take];rfl)) ?_;(with_reducible refine(spec_edSheets.calls k _ _ l0 _ _ l1 false _ ?side1 ?side2 ?side3 ?side4 A3.out).mono ?_);(case side1=>exact(a18_ HR0.out));(case side2=>exact HC0.out);(case side3=>exact(a18_ HR1.out));(case side4=>exact HC1.out);rintro e w30 ⟨rfl,hb⟩;refine⟨_,rfl,?_⟩;replace HB:=am_ (below_step (a0_) hb);(try clear hb);(try clear hb2);(try clear hk);(try clear hi)))
  go_ret2
  exact⟨_,a5_,a34_,a0_⟩



/-! ### laws_toHole: function 34 -/
def laws_toHole.f (a0_0:Int) (a0_1:Int) (a0_2:Int):Option (Int×Int×Int):=some (a0_0,a0_1,a0_2)
set_option maxHeartbeats 8000000 in
set_option maxRecDepth 100000 in
theorem laws_toHole.calls (a0_0:Int) (a0_1:Int) (a0_2:Int) (r1:Int) (r2:Int) (r3:Int) (w:World) (h:laws_toHole.f a0_0 a0_1 a0_2=some (r1,r2,r3)) :
 Calls Try.prog 34 #[.agg #[.int .i64 a0_0, .int .i64 a0_1, .int .i64 a0_2]] w fun e w'=>e = .returned (.agg #[.int .i64 r1, .int .i64 r2, .int .i64 r3])∧Below w.heap.size w w':=by
 have hu65:=Try.underlying65
 have hu47:=Try.underlying47
 have HB:=am_ (Below.refl w.heap.size w)
 have H:(some (a0_0,a0_1,a0_2))=some (r1,r2,r3):=h
 clear h
 simp only[Option.some.injEq,Prod.mk.injEq]at H
 obtain⟨rfl,rfl,rfl⟩:=H
 go_enter Try.func34,Try.ntmps34
 go_wp2_with (first | ((with_reducible refine gate_dst (N:=1) rfl ?_);refine box_event ?hg (N:=1) ?hd (cs:= #[.int .i64 a0_0, .int .i64 a0_1, .int .i64 a0_2]) (t:=65) ?hr ?_;(case hd=>rfl);(case hg=>rfl);(case hr=>exact a12_);intro gb200 hg w2 hbox hb;have BK200:=am_ (hbox);have GW200:=am_ ((by rw[hg];exact(below_size (a0_)):w.heap.size≤gb200));have GE200:=am_ ((by rw[hg];exact(below_size (a0_)):w.heap.size≤gb200));replace HB:=am_ (below_step (a0_) hb);clear hb hbox hg) | ((with_reducible refine gate_dst (N:=2) rfl ?_);refine box_event ?hg (N:=2) ?hd (cs:= #[.int .i64 0, .int .i64 0, .int .i64 0]) (t:=47) ?hr ?_;(case hd=>rfl);(case hg=>rfl);(case hr=>exact a12_);intro gb201 hg w3 hbox hb;have BK201:=am_ (hbox);have GW201:=am_ ((by rw[hg];exact(below_size ((a1_ GE200.out))):w.heap.size≤gb201));have GE201:=am_ ((by rw[hg];exact(below_size ((a1_ GE200.out))):w.heap.size≤gb201));replace HB:=am_ (below_step ((a1_ GE200.out)) hb);have NB200_201:=am_ ((by rw[hg];exact Nat.ne_of_lt (blk_lt (g:=gb200) (o:= .cells #[.int .i64 a0_0, .int .i64 a0_1, .int .i64 a0_2] 65 (0,0)) ((a3_ BK200.out))):gb200≠gb201));have NB201_200:=am_ ((by rw[hg];exact Nat.ne_of_gt (blk_lt (g:=gb200) (o:= .cells #[.int .i64 a0_0, .int .i64 a0_1, .int .i64 a0_2] 65 (0,0)) ((a3_ BK200.out))):gb201≠gb200));replace BK200:=am_ (blk_below (g:=gb200) (o:= .cells #[.int .i64 a0_0, .int .i64 a0_1, .int .i64 a0_2] 65 (0,0)) ((a3_ BK200.out)) hb);clear hb hbox hg) | ((with_reducible refine gate_dst (N:=3) rfl ?_);refine box_event ?hg (N:=3) ?hd (cs:= #[.int .i64 0, .int .i64 0, .int .i64 0]) (t:=47) ?hr ?_;(case hd=>rfl);(case hg=>rfl);(case hr=>exact a12_);intro gb202 hg w4 hbox hb;have BK202:=am_ (hbox);have GW202:=am_ ((by rw[hg];exact(below_size ((a7_ GE200.out GE201.out))):w.heap.size≤gb202));have GE202:=am_ ((by rw[hg];exact(below_size ((a7_ GE200.out GE201.out))):w.heap.size≤gb202));replace HB:=am_ (below_step ((a7_ GE200.out GE201.out)) hb);have NB200_202:=am_ ((by rw[hg];exact Nat.ne_of_lt (blk_lt (g:=gb200) (o:= .cells #[.int .i64 a0_0, .int .i64 a0_1, .int .i64 a0_2] 65 (0,0)) ((a3_ BK200.out))):gb200≠gb202));have NB202_200:=am_ ((by rw[hg];exact Nat.ne_of_gt (blk_lt (g:=gb200) (o:= .cells #[.int .i64 a0_0, .int .i64 a0_1, .int .i64 a0_2] 65 (0,0)) ((a3_ BK200.out))):gb202≠gb200));replace BK200:=am_ (blk_below (g:=gb200) (o:= .cells #[.int .i64 a0_0, .int .i64 a0_1, .int .i64 a0_2] 65 (0,0)) ((a3_ BK200.out)) hb);have NB201_202:=am_ ((by rw[hg];exact Nat.ne_of_lt (blk_lt (g:=gb201) (o:= .cells #[.int .i64 0, .int .i64 0, .int .i64 0] 47 (0,0)) ((a3_ BK201.out))):gb201≠gb202));have NB202_201:=am_ ((by rw[hg];exact Nat.ne_of_gt (blk_lt (g:=gb201) (o:= .cells #[.int .i64 0, .int .i64 0, .int .i64 0] 47 (0,0)) ((a3_ BK201.out))):gb202≠gb201));replace BK201:=am_ (blk_below (g:=gb201) (o:= .cells #[.int .i64 0, .int .i64 0, .int .i64 0] 47 (0,0)) ((a3_ BK201.out)) hb);clear hb hbox hg;have hnb5:=NB200_201.out;have hnc5:=NB201_200.out;have hnb6:=NB200_202.out;have hnc6:=NB202_200.out;have hcz7_0:w4.cell? ⟨gb200,0,none⟩=some (.int .i64 a0_0):=(blk_cell BK200.out 0).trans rfl;have hcz7_1:w4.cell? ⟨gb200,1,none⟩=some (.int .i64 a0_1):=(blk_cell BK200.out 1).trans rfl;have hcz7_2:w4.cell? ⟨gb200,2,none⟩=some (.int .i64 a0_2):=(blk_cell BK200.out 2).trans rfl;have hfz7_0:=blk_frozen BK200.out 0;have hfz7_1:=blk_frozen BK200.out 1;have hfz7_2:=blk_frozen BK200.out 2;have hnb8:=NB202_201.out;have hnc8:=NB201_202.out;have hcz9_0:w4.cell? ⟨gb202,0,none⟩=some (.int .i64 0):=(blk_cell BK202.out 0).trans rfl;have hcz9_1:w4.cell? ⟨gb202,1,none⟩=some (.int .i64 0):=(blk_cell BK202.out 1).trans rfl;have hcz9_2:w4.cell? ⟨gb202,2,none⟩=some (.int .i64 0):=(blk_cell BK202.out 2).trans rfl;have hfz9_0:=blk_frozen BK202.out 0;have hfz9_1:=blk_frozen BK202.out 1;have hfz9_2:=blk_frozen BK202.out 2;have hcz10_0:w4.cell? ⟨gb201,0,none⟩=some (.int .i64 0):=(blk_cell BK201.out 0).trans rfl;have hcz10_1:w4.cell? ⟨gb201,1,none⟩=some (.int .i64 0):=(blk_cell BK201.out 1).trans rfl;have hcz10_2:w4.cell? ⟨gb201,2,none⟩=some (.int .i64 0):=(blk_cell BK201.out 2).trans rfl;have hfz10_0:=blk_frozen BK201.out 0;have hfz10_1:=blk_frozen BK201.out 1;have hfz10_2:=blk_frozen BK201.out 2))
 refine bodyPost_ret (results_cell_row rfl _ _ gb201 47 #[.int .i64 a0_0, .int .i64 a0_1, .int .i64 a0_2] (0,0) _ rfl ((a17_ NB201_202.out BK201.out)) Try.underlying47 rfl (by kernel_rfl)) rfl ?_
 exact⟨a5_,(a37_ GE200.out GE201.out GE202.out)⟩

end Go.Proofs.Ytbbiihhaljigjaa.QFnExactMakeEdition
