/- Written by a program of this session (the kit's printer, with leaf contracts proved by hand put in): what each Go function computes, and that the call computes it. No condition but those that each theorem names. -/
import Derived.Test.YtplpjmhmochcfaaQFnMergesx0
import Derived.Test.YtplpjmhmochcfaaQFnMergesx1
namespace Go.Proofs.Ytplpjmhmochcfaa.QFnMerges
open Go.RowKit Go.Proofs.YtplpjmhmochcfaaW.PrintWords Go.Proofs.YtplpjmhmochcfaaW.PrintLast Go.Proofs.YtplpjmhmochcfaaW.PrintMore
attribute [local go_sem] max2_int min2_int max_two min_two max_three min_three max_four min_four   -- for this text's walks alone
set_option linter.unusedVariables false
set_option linter.unusedSimpArgs false

attribute [local go_sem high] eqA42
/-! ### spec_mgHas: function 79 -/
def spec_mgHas.l0:Nat→List (S42)→Int→Int→Int→Int→Int→Option (Bool)
 | 0,_,_,_,_,_,_=>none
 | k+1,x7,x8,x9,x122000,x122001,x122002=>if x9<x8 then(if 0≤x9 then(if x9<(x7.length:Int) then(if(x122000 == ((rd_T42 x7 x9).f0) && (x122001 == ((rd_T42 x7 x9).f1) && (x122002 == ((rd_T42 x7 x9).f2))))=true then(some true) else(spec_mgHas.l0 k x7 x8 (wrap64 (x9+1)) x122000 x122001 x122002)) else(none)) else(none)) else(some false)
def spec_mgHas.f (k:Nat) (l0:List (S42)) (a1_0:Int) (a1_1:Int) (a1_2:Int):Option (Bool):=spec_mgHas.l0 k l0 (l0.length:Int) 0 a1_0 a1_1 a1_2
theorem spec_mgHas.mono_l:∀k,(∀y0 y1 y2 y3 y4 y5,LeO (spec_mgHas.l0 k y0 y1 y2 y3 y4 y5) (spec_mgHas.l0 (k+1) y0 y1 y2 y3 y4 y5))
 | 0=>fun _ _ _ _ _ _ r h=>by simp[spec_mgHas.l0]at h
 | k+1=>by
  have ih0:=spec_mgHas.mono_l k
  intros
  unfold spec_mgHas.l0
  rotate_left
  all_goals repeat' first|(with_reducible first|exact ih0 _ _ _ _ _ _|exact LeO.refl _|exact LeO.none _|refine LeO.ite ?_ ?_|refine LeO.bind ?_ (fun _=>?_))|exact ih0 _ _ _ _ _ _|exact LeO.none _|refine LeO.ite ?_ ?_|refine LeO.bind ?_ (fun _=>?_)
theorem spec_mgHas.mono:∀a0 a1 a2 a3 k,LeO (spec_mgHas.f k a0 a1 a2 a3) (spec_mgHas.f (k+1) a0 a1 a2 a3):=by
 intro a0 a1 a2 a3 k
 have ih0:=spec_mgHas.mono_l k
 unfold spec_mgHas.f
 repeat' first
  |(with_reducible exact ih0 _ _ _ _ _ _)
  |(with_reducible exact LeO.refl _)
  |(with_reducible exact LeO.none _)
  |(with_reducible refine LeO.ite ?_ ?_)
  |(with_reducible refine LeO.bind ?_ (fun _=>?_))
  |exact ih0 _ _ _ _ _ _
  |exact LeO.none _
   | refine LeO.ite ?_ ?_
   | refine LeO.bind ?_ (fun _=>?_)
set_option maxHeartbeats 8000000 in
set_option maxRecDepth 100000 in
theorem spec_mgHas.calls (k:Nat) (A0:Option Addr) (c0:Nat) (l0:List (S42)) (a1_0:Int) (a1_1:Int) (a1_2:Int) (r:Bool) (w:World) (hr0:Kd.C k42 w A0 l0.length l0) (hc0:l0.length≤c0) (h:spec_mgHas.f k l0 a1_0 a1_1 a1_2=some r) :
 Calls Try.prog 79 #[.slice A0 l0.length c0, .agg #[.int .i64 a1_0, .int .i64 a1_1, .int .i64 a1_2]] w fun e w'=>e = .returned (.bool r)∧Below w.heap.size w w':=by
 have hu42:=Try.underlying42
 have HR0:=am_ hr0
 have HC0:=am_ hc0
 clear hr0 hc0
 have HB:=am_ (Below.refl w.heap.size w)
 have H:(spec_mgHas.l0 k l0 (l0.length:Int) 0 a1_0 a1_1 a1_2)=some r:=h
 clear h
 have H':=am_ H
 clear H
 go_enter Try.func79,Try.ntmps79
 go_wp2_with (first|((with_reducible refine gate_dst (N:=3) rfl ?_);refine box_event ?hg (N:=3) ?hd (cs:= #[.int .i64 a1_0, .int .i64 a1_1, .int .i64 a1_2]) (t:=42) ?hr ?_;(case hd=>rfl);(case hg=>rfl);(case hr=>exact hr_);intro gb121 hg w3 hbox hb;have BK121:=am_ (hbox);have GW121:=am_ ((by rw[hg];exact(below_size (a1_)):w.heap.size≤gb121));have GE121:=am_ ((by rw[hg];exact(below_size (a1_)):w.heap.size≤gb121));replace HB:=am_ (below_step (a1_) hb);clear hb hbox hg))
 go_loopg [9] k (fun kq v9 w'=>∃(x9_1:Int),v9 = .int .i64 x9_1∧Aside0 (spec_mgHas.l0 kq l0 (l0.length:Int) x9_1 a1_0 a1_1 a1_2=some r)∧Aside0 (kq≤k)∧Aside0 (w'.heap[gb121]? = some (.cells #[.int .i64 a1_0, .int .i64 a1_1, .int .i64 a1_2] 42 (0,0)))∧Aside0 (Below w.heap.size w w'))
 case atStart=>exact⟨(0),(by first | rfl|(simp;done)|(simp[*];done)),H',⟨Nat.le_refl _⟩,⟨(a3_ BK121.out)⟩,⟨(a2_ GE121.out)⟩⟩
 case round=>
  clear H'
  try clear p2
  obtain⟨x9_1,rfl,HA,HK1,BK121,HB⟩:=hrel
  cases gk with
  | zero=>exact absurd HA.out (by simp[spec_mgHas.l0])
  | succ k1=>
   have H:=HA.out
   clear HA
   simp only[spec_mgHas.l0]at H
   by_cases c4:x9_1<(l0.length:Int)
   ·rw[if_pos c4]at H
    have c4b0:decide (x9_1<(l0.length:Int))=true:=decide_eq_true c4
    clear c4
    by_cases c5:0≤x9_1
    ·rw[if_pos c5]at H
     have c5b0:decide (0≤x9_1)=true:=decide_eq_true c5
     clear c5
     by_cases c6:x9_1<(l0.length:Int)
     ·rw[if_pos c6]at H
      have c6b0:decide (x9_1<(l0.length:Int))=true:=decide_eq_true c6
      clear c6
      by_cases c7:(a1_0 == ((rd_T42 l0 x9_1).f0) && (a1_1 == ((rd_T42 l0 x9_1).f1) && (a1_2 == ((rd_T42 l0 x9_1).f2))))=true
      ·rw[if_pos c7]at H
       have c7b0:(a1_0 == ((rd_T42 l0 x9_1).f0) && (a1_1 == ((rd_T42 l0 x9_1).f1) && (a1_2 == ((rd_T42 l0 x9_1).f2))))=true:=c7
       (try(have c7b1:decide (a1_0=((rd_T42 l0 x9_1).f0) && (a1_1 == ((rd_T42 l0 x9_1).f1) && (a1_2 == ((rd_T42 l0 x9_1).f2))))=true:=by simpa using c7))
       (try(have c7b2:(a1_0 == ((rd_T42 l0 x9_1).f0) && (a1_1 == ((rd_T42 l0 x9_1).f1) && (a1_2 == ((rd_T42 l0 x9_1).f2))))=true:=by simpa using c7))
       clear c7
       obtain rfl:=Option.some.inj H
       have p122:0≤(x9_1:Int):=of_decide_eq_true (a13_)
       have q122:x9_1<(l0.length:Int):=of_decide_eq_true (a13_)
       obtain⟨ad122,e122,hx122_0,hx122_1,hx122_2⟩:=at_T42 HR0.out x9_1 p122 q122
       cases e122
       replace hx122_0:=(HB.out.cell (World.block_lt_of_cell? w _ hx122_0)).trans hx122_0
       replace hx122_1:=(HB.out.cell (World.block_lt_of_cell? w _ hx122_1)).trans hx122_1
       replace hx122_2:=(HB.out.cell (World.block_lt_of_cell? w _ hx122_2)).trans hx122_2
       replace p122:=eq_true p122
       replace q122:=eq_true q122
       go_wp2_with (first|((with_reducible refine gate_dst (N:=6) rfl ?_);refine box_event ?hg (N:=6) ?hd (cs:= #[.int .i64 0, .int .i64 0, .int .i64 0]) (t:=42) ?hr ?_;(case hd=>rfl);(case hg=>rfl);(case hr=>exact hr_);intro gb123 hg w8 hbox hb;have BK123:=am_ (hbox);have GW123:=am_ ((by rw[hg];exact(below_size ((a2_ GE121.out))):w.heap.size≤gb123));have GE123:=am_ ((by rw[hg];exact(below_size ((a2_ GE121.out))):w.heap.size≤gb123));replace HB:=am_ (below_step ((a2_ GE121.out)) hb);have NB121_123:=am_ ((by rw[hg];exact Nat.ne_of_lt (blk_lt (g:=gb121) (o:= .cells #[.int .i64 a1_0, .int .i64 a1_1, .int .i64 a1_2] 42 (0,0)) ((a3_ BK121.out))):gb121≠gb123));have NB123_121:=am_ ((by rw[hg];exact Nat.ne_of_gt (blk_lt (g:=gb121) (o:= .cells #[.int .i64 a1_0, .int .i64 a1_1, .int .i64 a1_2] 42 (0,0)) ((a3_ BK121.out))):gb123≠gb121));replace BK121:=am_ (blk_below (g:=gb121) (o:= .cells #[.int .i64 a1_0, .int .i64 a1_1, .int .i64 a1_2] 42 (0,0)) ((a3_ BK121.out)) hb);clear hb hbox hg;have hnb9:=NB123_121.out;have hnc9:=NB121_123.out;have hcz10_0:w8.cell? ⟨gb123,0,none⟩=some (.int .i64 0):=(blk_cell BK123.out 0).trans rfl;have hcz10_1:w8.cell? ⟨gb123,1,none⟩=some (.int .i64 0):=(blk_cell BK123.out 1).trans rfl;have hcz10_2:w8.cell? ⟨gb123,2,none⟩=some (.int .i64 0):=(blk_cell BK123.out 2).trans rfl;have hfz10_0:=blk_frozen BK123.out 0;have hfz10_1:=blk_frozen BK123.out 1;have hfz10_2:=blk_frozen BK123.out 2;have hcz11_0:w8.cell? ⟨gb121,0,none⟩=some (.int .i64 a1_0):=(blk_cell BK121.out 0).trans rfl;have hcz11_1:w8.cell? ⟨gb121,1,none⟩=some (.int .i64 a1_1):=(blk_cell BK121.out 1).trans rfl;have hcz11_2:w8.cell? ⟨gb121,2,none⟩=some (.int .i64 a1_2):=(blk_cell BK121.out 2).trans rfl;have hfz11_0:=blk_frozen BK121.out 0;have hfz11_1:=blk_frozen BK121.out 1;have hfz11_2:=blk_frozen BK121.out 2))
       go_ret
       exact⟨a12_,(a14_ GE121.out GE123.out)⟩
      ·rw[if_neg c7]at H
       have c7b0:(a1_0 == ((rd_T42 l0 x9_1).f0) && (a1_1 == ((rd_T42 l0 x9_1).f1) && (a1_2 == ((rd_T42 l0 x9_1).f2))))=false:=by simpa using c7
       (try(have c7b1:decide (a1_0=((rd_T42 l0 x9_1).f0) && (a1_1 == ((rd_T42 l0 x9_1).f1) && (a1_2 == ((rd_T42 l0 x9_1).f2))))=false:=by simpa using c7))
       (try(have c7b2:(a1_0 == ((rd_T42 l0 x9_1).f0) && (a1_1 == ((rd_T42 l0 x9_1).f1) && (a1_2 == ((rd_T42 l0 x9_1).f2))))=false:=by simpa using c7))
       (try(have c7b3:¬(a1_0=((rd_T42 l0 x9_1).f0) && (a1_1 == ((rd_T42 l0 x9_1).f1) && (a1_2 == ((rd_T42 l0 x9_1).f2)))):=by simpa using c7))
       clear c7
       have H':=am_ H
       clear H
       have p122:0≤(x9_1:Int):=of_decide_eq_true (a13_)
       have q122:x9_1<(l0.length:Int):=of_decide_eq_true (a13_)
       obtain⟨ad122,e122,hx122_0,hx122_1,hx122_2⟩:=at_T42 HR0.out x9_1 p122 q122
       cases e122
       replace hx122_0:=(HB.out.cell (World.block_lt_of_cell? w _ hx122_0)).trans hx122_0
       replace hx122_1:=(HB.out.cell (World.block_lt_of_cell? w _ hx122_1)).trans hx122_1
       replace hx122_2:=(HB.out.cell (World.block_lt_of_cell? w _ hx122_2)).trans hx122_2
       replace p122:=eq_true p122
       replace q122:=eq_true q122
       go_wp2_with (first|((with_reducible refine gate_dst (N:=6) rfl ?_);refine box_event ?hg (N:=6) ?hd (cs:= #[.int .i64 0, .int .i64 0, .int .i64 0]) (t:=42) ?hr ?_;(case hd=>rfl);(case hg=>rfl);(case hr=>exact hr_);intro gb123 hg w12 hbox hb;have BK123:=am_ (hbox);have GW123:=am_ ((by rw[hg];exact(below_size ((a2_ GE121.out))):w.heap.size≤gb123));have GE123:=am_ ((by rw[hg];exact(below_size ((a2_ GE121.out))):w.heap.size≤gb123));replace HB:=am_ (below_step ((a2_ GE121.out)) hb);have NB121_123:=am_ ((by rw[hg];exact Nat.ne_of_lt (blk_lt (g:=gb121) (o:= .cells #[.int .i64 a1_0, .int .i64 a1_1, .int .i64 a1_2] 42 (0,0)) ((a3_ BK121.out))):gb121≠gb123));have NB123_121:=am_ ((by rw[hg];exact Nat.ne_of_gt (blk_lt (g:=gb121) (o:= .cells #[.int .i64 a1_0, .int .i64 a1_1, .int .i64 a1_2] 42 (0,0)) ((a3_ BK121.out))):gb123≠gb121));replace BK121:=am_ (blk_below (g:=gb121) (o:= .cells #[.int .i64 a1_0, .int .i64 a1_1, .int .i64 a1_2] 42 (0,0)) ((a3_ BK121.out)) hb);clear hb hbox hg;have hnb13:=NB123_121.out;have hnc13:=NB121_123.out;have hcz14_0:w12.cell? ⟨gb123,0,none⟩=some (.int .i64 0):=(blk_cell BK123.out 0).trans rfl;have hcz14_1:w12.cell? ⟨gb123,1,none⟩=some (.int .i64 0):=(blk_cell BK123.out 1).trans rfl;have hcz14_2:w12.cell? ⟨gb123,2,none⟩=some (.int .i64 0):=(blk_cell BK123.out 2).trans rfl;have hfz14_0:=blk_frozen BK123.out 0;have hfz14_1:=blk_frozen BK123.out 1;have hfz14_2:=blk_frozen BK123.out 2;have hcz15_0:w12.cell? ⟨gb121,0,none⟩=some (.int .i64 a1_0):=(blk_cell BK121.out 0).trans rfl;have hcz15_1:w12.cell? ⟨gb121,1,none⟩=some (.int .i64 a1_1):=(blk_cell BK121.out 1).trans rfl;have hcz15_2:w12.cell? ⟨gb121,2,none⟩=some (.int .i64 a1_2):=(blk_cell BK121.out 2).trans rfl;have hfz15_0:=blk_frozen BK121.out 0;have hfz15_1:=blk_frozen BK121.out 1;have hfz15_2:=blk_frozen BK121.out 2))
       go_roundg k1
       case measure=>have:=HK1.out;omega
       case rel=>exact⟨(wrap64 (x9_1+1)),(by first | rfl|(simp;done)|(simp[*];done)),H',⟨by have:=HK1.out;omega⟩,⟨(a15_ NB121_123.out BK121.out)⟩,⟨(a14_ GE121.out GE123.out)⟩⟩
     ·rw[if_neg c6]at H
      exact absurd H (by simp)
    ·rw[if_neg c5]at H
     exact absurd H (by simp)
   ·rw[if_neg c4]at H
    have c4b0:decide (x9_1<(l0.length:Int))=false:=decide_eq_false c4
    clear c4
    obtain rfl:=Option.some.inj H
    go_wp2
    go_ret
    exact⟨a12_,(a2_ GE121.out)⟩

/-! ### spec_mgLess: function 78 -/
def spec_mgLess.l0:Nat→List (S42)→List (S42)→List (S42)→Int→Int→Option ((List (S42)))
 | 0,_,_,_,_,_=>none
 | k+1,x1,x5,x8,x9,x10=>if x10<x9 then(if 0≤x10 then(if x10<(x8.length:Int) then((spec_mgHas.f k x1 ((rd_T42 x8 x10).f0) ((rd_T42 x8 x10).f1) ((rd_T42 x8 x10).f2)).bind fun t126=>(if t126=true then(spec_mgLess.l0 k x1 x5 x8 x9 (wrap64 (x10+1))) else(if x5.length<5864062014805 then(spec_mgLess.l0 k x1 (x5 ++ [(⟨(rd_T42 x8 x10).f0,(rd_T42 x8 x10).f1,(rd_T42 x8 x10).f2⟩:S42)]) x8 x9 (wrap64 (x10+1))) else(none)))) else(none)) else(none)) else(some x5)
def spec_mgLess.f (k:Nat) (l0:List (S42)) (l1:List (S42)):Option ((List (S42))):=spec_mgLess.l0 k l1 ([]:List (S42)) l0 (l0.length:Int) 0
theorem spec_mgLess.mono_l:∀k,(∀y0 y1 y2 y3 y4,LeO (spec_mgLess.l0 k y0 y1 y2 y3 y4) (spec_mgLess.l0 (k+1) y0 y1 y2 y3 y4))
 | 0=>fun _ _ _ _ _ r h=>by simp[spec_mgLess.l0]at h
 | k+1=>by
  have ih0:=spec_mgLess.mono_l k
  intros
  unfold spec_mgLess.l0
  rotate_left
  all_goals repeat' first|(with_reducible first|exact ih0 _ _ _ _ _|exact spec_mgHas.mono _ _ _ _ _|exact LeO.refl _|exact LeO.none _|refine LeO.ite ?_ ?_|refine LeO.bind ?_ (fun _=>?_))|exact ih0 _ _ _ _ _|exact spec_mgHas.mono _ _ _ _ _|exact LeO.none _|refine LeO.ite ?_ ?_|refine LeO.bind ?_ (fun _=>?_)
theorem spec_mgLess.mono:∀a0 a1 k,LeO (spec_mgLess.f k a0 a1) (spec_mgLess.f (k+1) a0 a1):=by
 intro a0 a1 k
 have ih0:=spec_mgLess.mono_l k
 unfold spec_mgLess.f
 repeat' first
  |(with_reducible exact ih0 _ _ _ _ _)
  |(with_reducible exact spec_mgHas.mono _ _ _ _ _)
  |(with_reducible exact LeO.refl _)
  |(with_reducible exact LeO.none _)
  |(with_reducible refine LeO.ite ?_ ?_)
  |(with_reducible refine LeO.bind ?_ (fun _=>?_))
  |exact ih0 _ _ _ _ _
  |exact spec_mgHas.mono _ _ _ _ _
  |exact LeO.none _
   | refine LeO.ite ?_ ?_
   | refine LeO.bind ?_ (fun _=>?_)
set_option maxHeartbeats 8000000 in
set_option maxRecDepth 100000 in
theorem spec_mgLess.calls (k:Nat) (A0:Option Addr) (c0:Nat) (l0:List (S42)) (A1:Option Addr) (c1:Nat) (l1:List (S42)) (r:List (S42)) (w:World) (hr0:Kd.C k42 w A0 l0.length l0) (hc0:l0.length≤c0) (hr1:Kd.C k42 w A1 l1.length l1) (hc1:l1.length≤c1) (h:spec_mgLess.f k l0 l1=some r) :
 Calls Try.prog 78 #[.slice A0 l0.length c0, .slice A1 l1.length c1] w fun e w'=>∃v0_:Value,e = .returned (v0_)∧Kd.R k42 42 w' w.heap.size (fun _=>True) v0_ r∧Below w.heap.size w w':=by
 have hu42:=Try.underlying42
 have HR0:=am_ hr0
 have HC0:=am_ hc0
 clear hr0 hc0
 have HR1:=am_ hr1
 have HC1:=am_ hc1
 clear hr1 hc1
 have HB:=am_ (Below.refl w.heap.size w)
 have H:(spec_mgLess.l0 k l1 ([]:List (S42)) l0 (l0.length:Int) 0)=some r:=h
 clear h
 have H':=am_ H
 clear H
 go_enter Try.func78,Try.ntmps78
 go_wp2
 go_loopg [5,10] k (fun kq v5 v10 w'=>∃(x5_1:List (S42)) (x10_1:Int),v10 = .int .i64 x10_1∧Aside0 (spec_mgLess.l0 kq l1 x5_1 l0 (l0.length:Int) x10_1=some r)∧Aside0 (kq≤k)∧Aside0 (Kd.R k42 42 w' w.heap.size (fun _=>True) v5 x5_1)∧Aside0 (Below w.heap.size w w'))
 case atStart=>exact⟨(([]:List (S42))),(0),(by first | rfl|(simp;done)|(simp[*];done)),H',⟨Nat.le_refl _⟩,⟨a35_⟩,⟨a1_⟩⟩
 case round=>
  clear H'
  try clear c1
  try clear p2
  obtain⟨x5_1,x10_1,rfl,HA,HK1,HO_5,HB⟩:=hrel
  cases gk with
  | zero=>exact absurd HA.out (by simp[spec_mgLess.l0])
  | succ k1=>
   have H:=HA.out
   clear HA
   simp only[spec_mgLess.l0]at H
   by_cases c3:x10_1<(l0.length:Int)
   ·rw[if_pos c3]at H
    have c3b0:decide (x10_1<(l0.length:Int))=true:=decide_eq_true c3
    clear c3
    by_cases c4:0≤x10_1
    ·rw[if_pos c4]at H
     have c4b0:decide (0≤x10_1)=true:=decide_eq_true c4
     clear c4
     by_cases c5:x10_1<(l0.length:Int)
     ·rw[if_pos c5]at H
      have c5b0:decide (x10_1<(l0.length:Int))=true:=decide_eq_true c5
      clear c5
      obtain⟨t126,A6,H⟩:=bo_ H
      try dsimp only at H
      by_cases c7:t126=true
      ·subst c7
       replace H:(spec_mgLess.l0 k1 l1 x5_1 l0 (l0.length:Int) (wrap64 (x10_1+1)))=some r:=by rw[if_pos rfl]at H;exact H
       have H':=am_ H
       clear H
       have p124:0≤(x10_1:Int):=of_decide_eq_true (a13_)
       have q124:x10_1<(l0.length:Int):=of_decide_eq_true (a13_)
       obtain⟨ad124,e124,hx124_0,hx124_1,hx124_2⟩:=at_T42 HR0.out x10_1 p124 q124
       cases e124
       replace hx124_0:=(HB.out.cell (World.block_lt_of_cell? w _ hx124_0)).trans hx124_0
       replace hx124_1:=(HB.out.cell (World.block_lt_of_cell? w _ hx124_1)).trans hx124_1
       replace hx124_2:=(HB.out.cell (World.block_lt_of_cell? w _ hx124_2)).trans hx124_2
       replace p124:=eq_true p124
       replace q124:=eq_true q124
       go_wp2_with (first|((with_reducible refine gate_dst (N:=7) rfl ?_);refine box_event ?hg (N:=7) ?hd (cs:= #[.int .i64 0, .int .i64 0, .int .i64 0]) (t:=42) ?hr ?_;(case hd=>rfl);(case hg=>rfl);(case hr=>exact hr_);intro gb125 hg w8 hbox hb;replace HO_5:=am_ (Kd.R_below (Kd.R_elderB ((a0_ HO_5.out)) gb125 (Nat.le_of_eq hg.symm)) hb);have BK125:=am_ (hbox);have GW125:=am_ ((by rw[hg];exact(below_size (a1_)):w.heap.size≤gb125));have GE125:=am_ ((by rw[hg];exact(below_size (a1_)):w.heap.size≤gb125));replace HB:=am_ (below_step (a1_) hb);clear hb hbox hg;have hcz9_0:w8.cell? ⟨gb125,0,none⟩=some (.int .i64 0):=(blk_cell BK125.out 0).trans rfl;have hcz9_1:w8.cell? ⟨gb125,1,none⟩=some (.int .i64 0):=(blk_cell BK125.out 1).trans rfl;have hcz9_2:w8.cell? ⟨gb125,2,none⟩=some (.int .i64 0):=(blk_cell BK125.out 2).trans rfl;have hfz9_0:=blk_frozen BK125.out 0;have hfz9_1:=blk_frozen BK125.out 1;have hfz9_2:=blk_frozen BK125.out 2)|((with_reducible refine gate_callee (f:=79) rfl ?_);refine goesL_ (some 16) rfl rfl Try.func79 (by kernel_rfl) rfl #[.slice A1 l1.length c1, .agg #[.int .i64 ((rd_T42 l0 x10_1).f0), .int .i64 ((rd_T42 l0 x10_1).f1), .int .i64 ((rd_T42 l0 x10_1).f2)]] rfl gd_ ?_;(with_reducible refine(spec_mgHas.calls k1 _ _ l1 ((rd_T42 l0 x10_1).f0) ((rd_T42 l0 x10_1).f1) ((rd_T42 l0 x10_1).f2) true _ ?side1 ?side2 A6.out).mono ?_);(case side1=>exact Kd.C_below HR1.out ((a2_ GE125.out)));(case side2=>exact HC1.out);rintro e w10 ⟨rfl,hb⟩;refine⟨_,rfl,?_⟩;replace HO_5:=am_ (Kd.R_below ((a51_ HO_5.out)) hb);replace BK125:=am_ (blk_below (g:=gb125) (o:= .cells #[.int .i64 ((rd_T42 l0 x10_1).f0), .int .i64 ((rd_T42 l0 x10_1).f1), .int .i64 ((rd_T42 l0 x10_1).f2)] 42 (0,0)) ((a29_ BK125.out)) hb);replace HB:=am_ (below_step ((a2_ GE125.out)) hb);(try clear hb);(try clear hb2);(try clear hk);(try clear hi)))
       go_roundg k1
       case measure=>have:=HK1.out;omega
       case rel=>exact⟨(x5_1),(wrap64 (x10_1+1)),(by first | rfl|(simp;done)|(simp[*];done)),H',⟨by have:=HK1.out;omega⟩,⟨(a28_ HO_5.out)⟩,⟨(a2_ GE125.out)⟩⟩
      ·replace c7:=Bool.eq_false_iff.mpr c7
       subst c7
       replace H:(if x5_1.length<5864062014805 then(spec_mgLess.l0 k1 l1 (x5_1 ++ [(⟨(rd_T42 l0 x10_1).f0,(rd_T42 l0 x10_1).f1,(rd_T42 l0 x10_1).f2⟩:S42)]) l0 (l0.length:Int) (wrap64 (x10_1+1))) else(none))=some r:=by rw[if_neg (show ¬(false=true) by decide)]at H;exact H
       by_cases c11:x5_1.length<5864062014805
       ·rw[if_pos c11]at H
        have LMc11:=am_ c11
        clear c11
        obtain⟨y127,hy127⟩:∃y_:List (S42),y_=(x5_1 ++ [(⟨(rd_T42 l0 x10_1).f0,(rd_T42 l0 x10_1).f1,(rd_T42 l0 x10_1).f2⟩:S42)]):=⟨_,rfl⟩
        replace H:(spec_mgLess.l0 k1 l1 y127 l0 (l0.length:Int) (wrap64 (x10_1+1)))=some r:=by first|(rw[hy127];with_reducible exact H)|(have H2_:=(Option.bind_some _ _).symm.trans H;rw[hy127];with_reducible exact H2_)|(have H2_:=(Option.bind_some _ _).symm.trans H;with_reducible exact H2_) | with_reducible exact H|(rw[hy127];exact H)|exact H
        have Ny127:=am_ hy127
        clear hy127
        have H':=am_ H
        clear H
        have p124:0≤(x10_1:Int):=of_decide_eq_true (a13_)
        have q124:x10_1<(l0.length:Int):=of_decide_eq_true (a13_)
        obtain⟨ad124,e124,hx124_0,hx124_1,hx124_2⟩:=at_T42 HR0.out x10_1 p124 q124
        cases e124
        replace hx124_0:=(HB.out.cell (World.block_lt_of_cell? w _ hx124_0)).trans hx124_0
        replace hx124_1:=(HB.out.cell (World.block_lt_of_cell? w _ hx124_1)).trans hx124_1
        replace hx124_2:=(HB.out.cell (World.block_lt_of_cell? w _ hx124_2)).trans hx124_2
        replace p124:=eq_true p124
        replace q124:=eq_true q124
        go_wp2_with (first|((with_reducible refine gate_dst (N:=7) rfl ?_);refine box_event ?hg (N:=7) ?hd (cs:= #[.int .i64 0, .int .i64 0, .int .i64 0]) (t:=42) ?hr ?_;(case hd=>rfl);(case hg=>rfl);(case hr=>exact hr_);intro gb125 hg w12 hbox hb;replace HO_5:=am_ (Kd.R_below (Kd.R_elderB ((a0_ HO_5.out)) gb125 (Nat.le_of_eq hg.symm)) hb);have BK125:=am_ (hbox);have GW125:=am_ ((by rw[hg];exact(below_size (a1_)):w.heap.size≤gb125));have GE125:=am_ ((by rw[hg];exact(below_size (a1_)):w.heap.size≤gb125));replace HB:=am_ (below_step (a1_) hb);clear hb hbox hg;have hcz13_0:w12.cell? ⟨gb125,0,none⟩=some (.int .i64 0):=(blk_cell BK125.out 0).trans rfl;have hcz13_1:w12.cell? ⟨gb125,1,none⟩=some (.int .i64 0):=(blk_cell BK125.out 1).trans rfl;have hcz13_2:w12.cell? ⟨gb125,2,none⟩=some (.int .i64 0):=(blk_cell BK125.out 2).trans rfl;have hfz13_0:=blk_frozen BK125.out 0;have hfz13_1:=blk_frozen BK125.out 1;have hfz13_2:=blk_frozen BK125.out 2)|((with_reducible refine gate_callee (f:=79) rfl ?_);refine goesL_ (some 16) rfl rfl Try.func79 (by kernel_rfl) rfl #[.slice A1 l1.length c1, .agg #[.int .i64 ((rd_T42 l0 x10_1).f0), .int .i64 ((rd_T42 l0 x10_1).f1), .int .i64 ((rd_T42 l0 x10_1).f2)]] rfl gd_ ?_;(with_reducible refine(spec_mgHas.calls k1 _ _ l1 ((rd_T42 l0 x10_1).f0) ((rd_T42 l0 x10_1).f1) ((rd_T42 l0 x10_1).f2) false _ ?side1 ?side2 A6.out).mono ?_);(case side1=>exact Kd.C_below HR1.out ((a2_ GE125.out)));(case side2=>exact HC1.out);rintro e w14 ⟨rfl,hb⟩;refine⟨_,rfl,?_⟩;replace HO_5:=am_ (Kd.R_below ((a51_ HO_5.out)) hb);replace BK125:=am_ (blk_below (g:=gb125) (o:= .cells #[.int .i64 ((rd_T42 l0 x10_1).f0), .int .i64 ((rd_T42 l0 x10_1).f1), .int .i64 ((rd_T42 l0 x10_1).f2)] 42 (0,0)) ((a29_ BK125.out)) hb);replace HB:=am_ (below_step ((a2_ GE125.out)) hb);(try clear hb);(try clear hb2);(try clear hk);(try clear hi);have hcz15_0:w14.cell? ⟨gb125,0,none⟩=some (.int .i64 ((rd_T42 l0 x10_1).f0)):=(blk_cell BK125.out 0).trans rfl;have hcz15_1:w14.cell? ⟨gb125,1,none⟩=some (.int .i64 ((rd_T42 l0 x10_1).f1)):=(blk_cell BK125.out 1).trans rfl;have hcz15_2:w14.cell? ⟨gb125,2,none⟩=some (.int .i64 ((rd_T42 l0 x10_1).f2)):=(blk_cell BK125.out 2).trans rfl;have hfz15_0:=blk_frozen BK125.out 0;have hfz15_1:=blk_frozen BK125.out 1;have hfz15_2:=blk_frozen BK125.out 2)|((with_reducible refine gate_builtin (b:= .append) (xs:= #[.tmp 18, .tmp 20]) rfl ?_);at_builtin;refine Kd.R_append k42 (w0:=w) w.heap.size rfl (.tmp 18) (.tmp 20) 32 42 (.agg #[(.int .i64 0),(.int .i64 0),(.int .i64 0)]) 24 rfl Try.underlying32 info42 rfl (by decide) (by omega) u5 x5_1 (⟨(rd_T42 l0 x10_1).f0,(rd_T42 l0 x10_1).f1,(rd_T42 l0 x10_1).f2⟩:S42) [.int .i64 ((rd_T42 l0 x10_1).f0), .int .i64 ((rd_T42 l0 x10_1).f1), .int .i64 ((rd_T42 l0 x10_1).f2)] (fun k_=>k_≠gb125) (fun _=>False) rfl rfl ?aP (fun _ hk=>hk.elim) ?aF ?aO ?aB ?aS ?aL ?_;(case aP=>exact k42_mkM _ _ _ (⟨(rd_T42 l0 x10_1).f0,(rd_T42 l0 x10_1).f1,(rd_T42 l0 x10_1).f2⟩:S42));(case aB=>exact((a2_ GE125.out)));(case aF=>exact(fun k_ hk=>Kd.freshB (g:=gb125) (o:= .cells #[.int .i64 ((rd_T42 l0 x10_1).f0), .int .i64 ((rd_T42 l0 x10_1).f1), .int .i64 ((rd_T42 l0 x10_1).f2)] 42 (0,0)) ((a3_ BK125.out)) k_ hk));(case aO=>exact((a44_ HO_5.out)));(case aS=>exact(below_size ((a2_ GE125.out))));(case aL=>have:=LMc11.out;omega);intro v128 w16 ho hb hg hat;rw[← Ny127.out]at ho;have n0_:=am_ (blk_grown (g:=gb125) (o:= .cells #[.int .i64 ((rd_T42 l0 x10_1).f0), .int .i64 ((rd_T42 l0 x10_1).f1), .int .i64 ((rd_T42 l0 x10_1).f2)] 42 (0,0)) ((a3_ BK125.out)) hg (Kd.R_away HO_5.out (fun _ hk=>hk.2)));have n1_:=am_ (hb);have n2_:=am_ (ho);clear BK125 HB HO_5;have BK125:=n0_;have HB:=n1_;have HO129:=n2_;clear n0_ n1_ n2_ ho hb hg hat))
        go_roundg k1
        case measure=>have:=HK1.out;omega
        case rel=>exact⟨(y127),(wrap64 (x10_1+1)),(by first | rfl|(simp;done)|(simp[*];done)),H',⟨by have:=HK1.out;omega⟩,⟨(a28_ HO129.out)⟩,⟨(a2_ GE125.out)⟩⟩
       ·rw[if_neg c11]at H
        exact absurd H (by simp)
     ·rw[if_neg c5]at H
      exact absurd H (by simp)
    ·rw[if_neg c4]at H
     exact absurd H (by simp)
   ·rw[if_neg c3]at H
    have c3b0:decide (x10_1<(l0.length:Int))=false:=decide_eq_false c3
    clear c3
    obtain rfl:=Option.some.inj H
    go_wp2
    go_ret
    exact⟨_,a12_,(a0_ HO_5.out),a1_⟩

/-! ### spec_l1In: function 61 -/
def spec_l1In.f (a0:Int) (a1:Int) (a2:Int):Option (Bool):=if a0≥a1 then(some (decide (a0≤a2))) else(some false)
set_option maxHeartbeats 8000000 in
set_option maxRecDepth 100000 in
theorem spec_l1In.calls (a0:Int) (a1:Int) (a2:Int) (r:Bool) (w:World) (h:spec_l1In.f a0 a1 a2=some r) :
 Calls Try.prog 61 #[.int .i64 a0, .int .i64 a1, .int .i64 a2] w fun e w'=>e = .returned (.bool r)∧Drawn0 w w':=by
 have H:(if a0≥a1 then(some (decide (a0≤a2))) else(some false))=some r:=h
 clear h
 by_cases c4:a0≥a1
 ·rw[if_pos c4]at H
  have c4b0:decide (a1≤a0)=true:=decide_eq_true c4
  clear c4
  obtain rfl:=Option.some.inj H
  go_enter Try.func61,Try.ntmps61
  go_wp2
  go_ret
  exact⟨by first | rfl|(simp;done)|(simp[*];done),a53_⟩
 ·rw[if_neg c4]at H
  have c4b0:decide (a1≤a0)=false:=decide_eq_false c4
  clear c4
  obtain rfl:=Option.some.inj H
  go_enter Try.func61,Try.ntmps61
  go_wp2
  go_ret
  exact⟨by first | rfl|(simp;done)|(simp[*];done),a53_⟩

/-! ### spec_shHole: function 73 -/
def spec_shHole.f (a0_0:Int) (a0_1:Int) (a0_2:Int):Option (Bool):=(spec_l1In.f a0_0 0 19).bind fun t131=>(if t131=true then((spec_l1In.f a0_1 0 1999).bind fun t132=>(if t132=true then((spec_l1In.f a0_2 (wrap64 (a0_1+1)) 2000).bind fun t133=>(some t133)) else(some false))) else(some false))
set_option maxHeartbeats 8000000 in
set_option maxRecDepth 100000 in
theorem spec_shHole.calls (a0_0:Int) (a0_1:Int) (a0_2:Int) (r:Bool) (w:World) (h:spec_shHole.f a0_0 a0_1 a0_2=some r) :
 Calls Try.prog 73 #[.agg #[.int .i64 a0_0, .int .i64 a0_1, .int .i64 a0_2]] w fun e w'=>e = .returned (.bool r)∧Below w.heap.size w w':=by
 have hu42:=Try.underlying42
 have HB:=am_ (Below.refl w.heap.size w)
 have H:((spec_l1In.f a0_0 0 19).bind fun t131=>(if t131=true then((spec_l1In.f a0_1 0 1999).bind fun t132=>(if t132=true then((spec_l1In.f a0_2 (wrap64 (a0_1+1)) 2000).bind fun t133=>(some t133)) else(some false))) else(some false)))=some r:=h
 clear h
 obtain⟨t131,A2,H⟩:=bo_ H
 try dsimp only at H
 by_cases c3:t131=true
 ·subst c3
  replace H:((spec_l1In.f a0_1 0 1999).bind fun t132=>(if t132=true then((spec_l1In.f a0_2 (wrap64 (a0_1+1)) 2000).bind fun t133=>(some t133)) else(some false)))=some r:=by rw[if_pos rfl]at H;exact H
  obtain⟨t132,A4,H⟩:=bo_ H
  try dsimp only at H
  by_cases c5:t132=true
  ·subst c5
   replace H:((spec_l1In.f a0_2 (wrap64 (a0_1+1)) 2000).bind fun t133=>(some t133))=some r:=by rw[if_pos rfl]at H;exact H
   obtain⟨t133,A6,H⟩:=bo_ H
   try dsimp only at H
   obtain rfl:=Option.some.inj H
   go_enter Try.func73,Try.ntmps73
   go_wp2_with (first|((with_reducible refine gate_dst (N:=1) rfl ?_);refine box_event ?hg (N:=1) ?hd (cs:= #[.int .i64 a0_0, .int .i64 a0_1, .int .i64 a0_2]) (t:=42) ?hr ?_;(case hd=>rfl);(case hg=>rfl);(case hr=>exact hr_);intro gb130 hg w7 hbox hb;have BK130:=am_ (hbox);have GW130:=am_ ((by rw[hg];exact(below_size (a1_)):w.heap.size≤gb130));have GE130:=am_ ((by rw[hg];exact(below_size (a1_)):w.heap.size≤gb130));replace HB:=am_ (below_step (a1_) hb);clear hb hbox hg;have hcz8_0:w7.cell? ⟨gb130,0,none⟩=some (.int .i64 a0_0):=(blk_cell BK130.out 0).trans rfl;have hcz8_1:w7.cell? ⟨gb130,1,none⟩=some (.int .i64 a0_1):=(blk_cell BK130.out 1).trans rfl;have hcz8_2:w7.cell? ⟨gb130,2,none⟩=some (.int .i64 a0_2):=(blk_cell BK130.out 2).trans rfl;have hfz8_0:=blk_frozen BK130.out 0;have hfz8_1:=blk_frozen BK130.out 1;have hfz8_2:=blk_frozen BK130.out 2)|((with_reducible refine gate_callee (f:=61) rfl ?_);refine goesL_ (some 5) rfl rfl Try.func61 (by kernel_rfl) rfl #[.int .i64 a0_0, .int .i64 0, .int .i64 19] rfl gd_ ?_;(with_reducible refine(spec_l1In.calls a0_0 0 19 true _ A2.out).mono ?_);rintro e w' ⟨rfl,⟨nd,rfl⟩⟩;refine⟨_,rfl,?_⟩)|(go_at_call 61;(with_reducible refine(spec_l1In.calls a0_1 0 1999 true _ A4.out).mono ?_);rintro e w' ⟨rfl,⟨nd,rfl⟩⟩)|(go_at_call 61;(with_reducible refine(spec_l1In.calls a0_2 (wrap64 (a0_1+1)) 2000 t133 _ A6.out).mono ?_);rintro e w' ⟨rfl,⟨nd,rfl⟩⟩))
   go_ret
   exact⟨a12_,(a2_ GE130.out)⟩
  ·replace c5:=Bool.eq_false_iff.mpr c5
   subst c5
   replace H:(some false)=some r:=by rw[if_neg (show ¬(false=true) by decide)]at H;exact H
   obtain rfl:=Option.some.inj H
   go_enter Try.func73,Try.ntmps73
   go_wp2_with (first|((with_reducible refine gate_dst (N:=1) rfl ?_);refine box_event ?hg (N:=1) ?hd (cs:= #[.int .i64 a0_0, .int .i64 a0_1, .int .i64 a0_2]) (t:=42) ?hr ?_;(case hd=>rfl);(case hg=>rfl);(case hr=>exact hr_);intro gb130 hg w9 hbox hb;have BK130:=am_ (hbox);have GW130:=am_ ((by rw[hg];exact(below_size (a1_)):w.heap.size≤gb130));have GE130:=am_ ((by rw[hg];exact(below_size (a1_)):w.heap.size≤gb130));replace HB:=am_ (below_step (a1_) hb);clear hb hbox hg;have hcz10_0:w9.cell? ⟨gb130,0,none⟩=some (.int .i64 a0_0):=(blk_cell BK130.out 0).trans rfl;have hcz10_1:w9.cell? ⟨gb130,1,none⟩=some (.int .i64 a0_1):=(blk_cell BK130.out 1).trans rfl;have hcz10_2:w9.cell? ⟨gb130,2,none⟩=some (.int .i64 a0_2):=(blk_cell BK130.out 2).trans rfl;have hfz10_0:=blk_frozen BK130.out 0;have hfz10_1:=blk_frozen BK130.out 1;have hfz10_2:=blk_frozen BK130.out 2)|((with_reducible refine gate_callee (f:=61) rfl ?_);refine goesL_ (some 5) rfl rfl Try.func61 (by kernel_rfl) rfl #[.int .i64 a0_0, .int .i64 0, .int .i64 19] rfl gd_ ?_;(with_reducible refine(spec_l1In.calls a0_0 0 19 true _ A2.out).mono ?_);rintro e w' ⟨rfl,⟨nd,rfl⟩⟩;refine⟨_,rfl,?_⟩)|(go_at_call 61;(with_reducible refine(spec_l1In.calls a0_1 0 1999 false _ A4.out).mono ?_);rintro e w' ⟨rfl,⟨nd,rfl⟩⟩))
   go_ret
   exact⟨a12_,(a2_ GE130.out)⟩
 ·replace c3:=Bool.eq_false_iff.mpr c3
  subst c3
  replace H:(some false)=some r:=by rw[if_neg (show ¬(false=true) by decide)]at H;exact H
  obtain rfl:=Option.some.inj H
  go_enter Try.func73,Try.ntmps73
  go_wp2_with (first|((with_reducible refine gate_dst (N:=1) rfl ?_);refine box_event ?hg (N:=1) ?hd (cs:= #[.int .i64 a0_0, .int .i64 a0_1, .int .i64 a0_2]) (t:=42) ?hr ?_;(case hd=>rfl);(case hg=>rfl);(case hr=>exact hr_);intro gb130 hg w11 hbox hb;have BK130:=am_ (hbox);have GW130:=am_ ((by rw[hg];exact(below_size (a1_)):w.heap.size≤gb130));have GE130:=am_ ((by rw[hg];exact(below_size (a1_)):w.heap.size≤gb130));replace HB:=am_ (below_step (a1_) hb);clear hb hbox hg;have hcz12_0:w11.cell? ⟨gb130,0,none⟩=some (.int .i64 a0_0):=(blk_cell BK130.out 0).trans rfl;have hcz12_1:w11.cell? ⟨gb130,1,none⟩=some (.int .i64 a0_1):=(blk_cell BK130.out 1).trans rfl;have hcz12_2:w11.cell? ⟨gb130,2,none⟩=some (.int .i64 a0_2):=(blk_cell BK130.out 2).trans rfl;have hfz12_0:=blk_frozen BK130.out 0;have hfz12_1:=blk_frozen BK130.out 1;have hfz12_2:=blk_frozen BK130.out 2)|((with_reducible refine gate_callee (f:=61) rfl ?_);refine goesL_ (some 5) rfl rfl Try.func61 (by kernel_rfl) rfl #[.int .i64 a0_0, .int .i64 0, .int .i64 19] rfl gd_ ?_;(with_reducible refine(spec_l1In.calls a0_0 0 19 false _ A2.out).mono ?_);rintro e w' ⟨rfl,⟨nd,rfl⟩⟩;refine⟨_,rfl,?_⟩))
  go_ret
  exact⟨a12_,(a2_ GE130.out)⟩

/-! ### spec_shBefore: function 102 -/
def spec_shBefore.f (a0_0:Int) (a0_1:Int) (a0_2:Int) (a1_0:Int) (a1_1:Int) (a1_2:Int):Option (Bool):=if a0_1<a1_1 then(some true) else(if a0_1=a1_1 then(some (decide (a0_0<a1_0))) else(some false))
set_option maxHeartbeats 8000000 in
set_option maxRecDepth 100000 in
theorem spec_shBefore.calls (a0_0:Int) (a0_1:Int) (a0_2:Int) (a1_0:Int) (a1_1:Int) (a1_2:Int) (r:Bool) (w:World) (h:spec_shBefore.f a0_0 a0_1 a0_2 a1_0 a1_1 a1_2=some r) :
 Calls Try.prog 102 #[.agg #[.int .i64 a0_0, .int .i64 a0_1, .int .i64 a0_2], .agg #[.int .i64 a1_0, .int .i64 a1_1, .int .i64 a1_2]] w fun e w'=>e = .returned (.bool r)∧Below w.heap.size w w':=by
 have hu42:=Try.underlying42
 have HB:=am_ (Below.refl w.heap.size w)
 have H:(if a0_1<a1_1 then(some true) else(if a0_1=a1_1 then(some (decide (a0_0<a1_0))) else(some false)))=some r:=h
 clear h
 by_cases c3:a0_1<a1_1
 ·rw[if_pos c3]at H
  have c3b0:decide (a0_1<a1_1)=true:=decide_eq_true c3
  clear c3
  obtain rfl:=Option.some.inj H
  go_enter Try.func102,Try.ntmps102
  go_wp2_with (first|((with_reducible refine gate_dst (N:=2) rfl ?_);refine box_event ?hg (N:=2) ?hd (cs:= #[.int .i64 a0_0, .int .i64 a0_1, .int .i64 a0_2]) (t:=42) ?hr ?_;(case hd=>rfl);(case hg=>rfl);(case hr=>exact hr_);intro gb134 hg w4 hbox hb;have BK134:=am_ (hbox);have GW134:=am_ ((by rw[hg];exact(below_size (a1_)):w.heap.size≤gb134));have GE134:=am_ ((by rw[hg];exact(below_size (a1_)):w.heap.size≤gb134));replace HB:=am_ (below_step (a1_) hb);clear hb hbox hg)|((with_reducible refine gate_dst (N:=3) rfl ?_);refine box_event ?hg (N:=3) ?hd (cs:= #[.int .i64 a1_0, .int .i64 a1_1, .int .i64 a1_2]) (t:=42) ?hr ?_;(case hd=>rfl);(case hg=>rfl);(case hr=>exact hr_);intro gb135 hg w5 hbox hb;have BK135:=am_ (hbox);have GW135:=am_ ((by rw[hg];exact(below_size ((a2_ GE134.out))):w.heap.size≤gb135));have GE135:=am_ ((by rw[hg];exact(below_size ((a2_ GE134.out))):w.heap.size≤gb135));replace HB:=am_ (below_step ((a2_ GE134.out)) hb);have NB134_135:=am_ ((by rw[hg];exact Nat.ne_of_lt (blk_lt (g:=gb134) (o:= .cells #[.int .i64 a0_0, .int .i64 a0_1, .int .i64 a0_2] 42 (0,0)) ((a3_ BK134.out))):gb134≠gb135));have NB135_134:=am_ ((by rw[hg];exact Nat.ne_of_gt (blk_lt (g:=gb134) (o:= .cells #[.int .i64 a0_0, .int .i64 a0_1, .int .i64 a0_2] 42 (0,0)) ((a3_ BK134.out))):gb135≠gb134));replace BK134:=am_ (blk_below (g:=gb134) (o:= .cells #[.int .i64 a0_0, .int .i64 a0_1, .int .i64 a0_2] 42 (0,0)) ((a3_ BK134.out)) hb);clear hb hbox hg;have hnb6:=NB134_135.out;have hnc6:=NB135_134.out;have hcz7_0:w5.cell? ⟨gb134,0,none⟩=some (.int .i64 a0_0):=(blk_cell BK134.out 0).trans rfl;have hcz7_1:w5.cell? ⟨gb134,1,none⟩=some (.int .i64 a0_1):=(blk_cell BK134.out 1).trans rfl;have hcz7_2:w5.cell? ⟨gb134,2,none⟩=some (.int .i64 a0_2):=(blk_cell BK134.out 2).trans rfl;have hfz7_0:=blk_frozen BK134.out 0;have hfz7_1:=blk_frozen BK134.out 1;have hfz7_2:=blk_frozen BK134.out 2;have hcz8_0:w5.cell? ⟨gb135,0,none⟩=some (.int .i64 a1_0):=(blk_cell BK135.out 0).trans rfl;have hcz8_1:w5.cell? ⟨gb135,1,none⟩=some (.int .i64 a1_1):=(blk_cell BK135.out 1).trans rfl;have hcz8_2:w5.cell? ⟨gb135,2,none⟩=some (.int .i64 a1_2):=(blk_cell BK135.out 2).trans rfl;have hfz8_0:=blk_frozen BK135.out 0;have hfz8_1:=blk_frozen BK135.out 1;have hfz8_2:=blk_frozen BK135.out 2))
  go_ret
  exact⟨a12_,(a14_ GE134.out GE135.out)⟩
 ·rw[if_neg c3]at H
  have c3b0:decide (a0_1<a1_1)=false:=decide_eq_false c3
  clear c3
  by_cases c9:a0_1=a1_1
  ·rw[if_pos c9]at H
   have c9b0:(a0_1 == a1_1)=true:=beq_iff_eq.mpr c9
   have c9b1:(a0_1 != a1_1)=false:=bne_eq_false_iff_eq.mpr c9
   clear c9
   obtain rfl:=Option.some.inj H
   go_enter Try.func102,Try.ntmps102
   go_wp2_with (first|((with_reducible refine gate_dst (N:=2) rfl ?_);refine box_event ?hg (N:=2) ?hd (cs:= #[.int .i64 a0_0, .int .i64 a0_1, .int .i64 a0_2]) (t:=42) ?hr ?_;(case hd=>rfl);(case hg=>rfl);(case hr=>exact hr_);intro gb134 hg w10 hbox hb;have BK134:=am_ (hbox);have GW134:=am_ ((by rw[hg];exact(below_size (a1_)):w.heap.size≤gb134));have GE134:=am_ ((by rw[hg];exact(below_size (a1_)):w.heap.size≤gb134));replace HB:=am_ (below_step (a1_) hb);clear hb hbox hg)|((with_reducible refine gate_dst (N:=3) rfl ?_);refine box_event ?hg (N:=3) ?hd (cs:= #[.int .i64 a1_0, .int .i64 a1_1, .int .i64 a1_2]) (t:=42) ?hr ?_;(case hd=>rfl);(case hg=>rfl);(case hr=>exact hr_);intro gb135 hg w11 hbox hb;have BK135:=am_ (hbox);have GW135:=am_ ((by rw[hg];exact(below_size ((a2_ GE134.out))):w.heap.size≤gb135));have GE135:=am_ ((by rw[hg];exact(below_size ((a2_ GE134.out))):w.heap.size≤gb135));replace HB:=am_ (below_step ((a2_ GE134.out)) hb);have NB134_135:=am_ ((by rw[hg];exact Nat.ne_of_lt (blk_lt (g:=gb134) (o:= .cells #[.int .i64 a0_0, .int .i64 a0_1, .int .i64 a0_2] 42 (0,0)) ((a3_ BK134.out))):gb134≠gb135));have NB135_134:=am_ ((by rw[hg];exact Nat.ne_of_gt (blk_lt (g:=gb134) (o:= .cells #[.int .i64 a0_0, .int .i64 a0_1, .int .i64 a0_2] 42 (0,0)) ((a3_ BK134.out))):gb135≠gb134));replace BK134:=am_ (blk_below (g:=gb134) (o:= .cells #[.int .i64 a0_0, .int .i64 a0_1, .int .i64 a0_2] 42 (0,0)) ((a3_ BK134.out)) hb);clear hb hbox hg;have hnb12:=NB134_135.out;have hnc12:=NB135_134.out;have hcz13_0:w11.cell? ⟨gb134,0,none⟩=some (.int .i64 a0_0):=(blk_cell BK134.out 0).trans rfl;have hcz13_1:w11.cell? ⟨gb134,1,none⟩=some (.int .i64 a0_1):=(blk_cell BK134.out 1).trans rfl;have hcz13_2:w11.cell? ⟨gb134,2,none⟩=some (.int .i64 a0_2):=(blk_cell BK134.out 2).trans rfl;have hfz13_0:=blk_frozen BK134.out 0;have hfz13_1:=blk_frozen BK134.out 1;have hfz13_2:=blk_frozen BK134.out 2;have hcz14_0:w11.cell? ⟨gb135,0,none⟩=some (.int .i64 a1_0):=(blk_cell BK135.out 0).trans rfl;have hcz14_1:w11.cell? ⟨gb135,1,none⟩=some (.int .i64 a1_1):=(blk_cell BK135.out 1).trans rfl;have hcz14_2:w11.cell? ⟨gb135,2,none⟩=some (.int .i64 a1_2):=(blk_cell BK135.out 2).trans rfl;have hfz14_0:=blk_frozen BK135.out 0;have hfz14_1:=blk_frozen BK135.out 1;have hfz14_2:=blk_frozen BK135.out 2))
   go_ret
   exact⟨a12_,(a14_ GE134.out GE135.out)⟩
  ·rw[if_neg c9]at H
   have c9b0:(a0_1 == a1_1)=false:=beq_eq_false_iff_ne.mpr c9
   have c9b1:(a0_1 != a1_1)=true:=bne_iff_ne.mpr c9
   obtain rfl:=Option.some.inj H
   go_enter Try.func102,Try.ntmps102
   go_wp2_with (first|((with_reducible refine gate_dst (N:=2) rfl ?_);refine box_event ?hg (N:=2) ?hd (cs:= #[.int .i64 a0_0, .int .i64 a0_1, .int .i64 a0_2]) (t:=42) ?hr ?_;(case hd=>rfl);(case hg=>rfl);(case hr=>exact hr_);intro gb134 hg w15 hbox hb;have BK134:=am_ (hbox);have GW134:=am_ ((by rw[hg];exact(below_size (a1_)):w.heap.size≤gb134));have GE134:=am_ ((by rw[hg];exact(below_size (a1_)):w.heap.size≤gb134));replace HB:=am_ (below_step (a1_) hb);clear hb hbox hg)|((with_reducible refine gate_dst (N:=3) rfl ?_);refine box_event ?hg (N:=3) ?hd (cs:= #[.int .i64 a1_0, .int .i64 a1_1, .int .i64 a1_2]) (t:=42) ?hr ?_;(case hd=>rfl);(case hg=>rfl);(case hr=>exact hr_);intro gb135 hg w16 hbox hb;have BK135:=am_ (hbox);have GW135:=am_ ((by rw[hg];exact(below_size ((a2_ GE134.out))):w.heap.size≤gb135));have GE135:=am_ ((by rw[hg];exact(below_size ((a2_ GE134.out))):w.heap.size≤gb135));replace HB:=am_ (below_step ((a2_ GE134.out)) hb);have NB134_135:=am_ ((by rw[hg];exact Nat.ne_of_lt (blk_lt (g:=gb134) (o:= .cells #[.int .i64 a0_0, .int .i64 a0_1, .int .i64 a0_2] 42 (0,0)) ((a3_ BK134.out))):gb134≠gb135));have NB135_134:=am_ ((by rw[hg];exact Nat.ne_of_gt (blk_lt (g:=gb134) (o:= .cells #[.int .i64 a0_0, .int .i64 a0_1, .int .i64 a0_2] 42 (0,0)) ((a3_ BK134.out))):gb135≠gb134));replace BK134:=am_ (blk_below (g:=gb134) (o:= .cells #[.int .i64 a0_0, .int .i64 a0_1, .int .i64 a0_2] 42 (0,0)) ((a3_ BK134.out)) hb);clear hb hbox hg;have hnb17:=NB134_135.out;have hnc17:=NB135_134.out;have hcz18_0:w16.cell? ⟨gb134,0,none⟩=some (.int .i64 a0_0):=(blk_cell BK134.out 0).trans rfl;have hcz18_1:w16.cell? ⟨gb134,1,none⟩=some (.int .i64 a0_1):=(blk_cell BK134.out 1).trans rfl;have hcz18_2:w16.cell? ⟨gb134,2,none⟩=some (.int .i64 a0_2):=(blk_cell BK134.out 2).trans rfl;have hfz18_0:=blk_frozen BK134.out 0;have hfz18_1:=blk_frozen BK134.out 1;have hfz18_2:=blk_frozen BK134.out 2;have hcz19_0:w16.cell? ⟨gb135,0,none⟩=some (.int .i64 a1_0):=(blk_cell BK135.out 0).trans rfl;have hcz19_1:w16.cell? ⟨gb135,1,none⟩=some (.int .i64 a1_1):=(blk_cell BK135.out 1).trans rfl;have hcz19_2:w16.cell? ⟨gb135,2,none⟩=some (.int .i64 a1_2):=(blk_cell BK135.out 2).trans rfl;have hfz19_0:=blk_frozen BK135.out 0;have hfz19_1:=blk_frozen BK135.out 1;have hfz19_2:=blk_frozen BK135.out 2))
   go_ret
   exact⟨a12_,(a14_ GE134.out GE135.out)⟩

end Go.Proofs.Ytplpjmhmochcfaa.QFnMerges
