/- Written by a program of this session (the kit's printer, with leaf contracts proved by hand put in): what each Go function computes, and that the call computes it. No condition but those that each theorem names. -/
import Derived.Test.YtplpjmhmochcfaaQFnCopiesx0
import Derived.Test.YtplpjmhmochcfaaQFnCopiesx8
namespace Go.Proofs.Ytplpjmhmochcfaa.QFnCopies
open Go.RowKit Go.Proofs.YtplpjmhmochcfaaW.PrintWords Go.Proofs.YtplpjmhmochcfaaW.PrintLast Go.Proofs.YtplpjmhmochcfaaW.PrintMore
attribute [local go_sem] max2_int min2_int max_two min_two max_three min_three max_four min_four   -- for this text's walks alone
set_option linter.unusedVariables false
set_option linter.unusedSimpArgs false

/-! ### impl_areSheets: function 59 -/
def impl_areSheets.l0:Nat→List (List (S42))→Int→List (List (S42))→Int→Int→Option (Bool)
 | 0,_,_,_,_,_=>none
 | k+1,x0,x1,x7,x8,x9=>if x9<x8 then(if 0≤x9 then(if x9<(x7.length:Int) then((impl_IsSheet.f k (rd_L3 x7 x9)).bind fun t400=>(if t400=true then(impl_areSheets.l0 k x0 x1 x7 x8 (wrap64 (x9+1))) else(some false))) else(none)) else(none)) else(if(x0.length:Int)≥1 then(some (decide ((x0.length:Int)≤x1))) else(some false))
def impl_areSheets.f (k:Nat) (l0:List (List (S42))) (a1:Int):Option (Bool):=impl_areSheets.l0 k l0 a1 l0 (l0.length:Int) 0
theorem impl_areSheets.mono_l:∀k,(∀y0 y1 y2 y3 y4,LeO (impl_areSheets.l0 k y0 y1 y2 y3 y4) (impl_areSheets.l0 (k+1) y0 y1 y2 y3 y4))
 | 0=>fun _ _ _ _ _ r h=>by simp[impl_areSheets.l0]at h
 | k+1=>by
  have ih0:=impl_areSheets.mono_l k
  intros
  unfold impl_areSheets.l0
  rotate_left
  all_goals repeat' first|(with_reducible first|exact ih0 _ _ _ _ _|exact impl_IsSheet.mono _ _|exact LeO.refl _|exact LeO.none _|refine LeO.ite ?_ ?_|refine LeO.bind ?_ (fun _=>?_))|exact ih0 _ _ _ _ _|exact impl_IsSheet.mono _ _|exact LeO.none _|refine LeO.ite ?_ ?_|refine LeO.bind ?_ (fun _=>?_)
theorem impl_areSheets.mono:∀a0 a1 k,LeO (impl_areSheets.f k a0 a1) (impl_areSheets.f (k+1) a0 a1):=by
 intro a0 a1 k
 have ih0:=impl_areSheets.mono_l k
 unfold impl_areSheets.f
 repeat' first
  |(with_reducible exact ih0 _ _ _ _ _)
  |(with_reducible exact impl_IsSheet.mono _ _)
  |(with_reducible exact LeO.refl _)
  |(with_reducible exact LeO.none _)
  |(with_reducible refine LeO.ite ?_ ?_)
  |(with_reducible refine LeO.bind ?_ (fun _=>?_))
  |exact ih0 _ _ _ _ _
  |exact impl_IsSheet.mono _ _
  |exact LeO.none _
   | refine LeO.ite ?_ ?_
   | refine LeO.bind ?_ (fun _=>?_)
set_option maxHeartbeats 8000000 in
set_option maxRecDepth 100000 in
theorem impl_areSheets.calls (k:Nat) (A0:Option Addr) (c0:Nat) (l0:List (List (S42))) (a1:Int) (r:Bool) (w:World) (hr0:Kd.C (Kd.slice 42 k42) w A0 l0.length l0) (hc0:l0.length≤c0) (h:impl_areSheets.f k l0 a1=some r) :
 Calls Try.prog 59 #[.slice A0 l0.length c0, .int .i64 a1] w fun e w'=>e = .returned (.bool r)∧Below w.heap.size w w':=by
 have HR0:=am_ hr0
 have HC0:=am_ hc0
 clear hr0 hc0
 have HB:=am_ (Below.refl w.heap.size w)
 have H:(impl_areSheets.l0 k l0 a1 l0 (l0.length:Int) 0)=some r:=h
 clear h
 have H':=am_ H
 clear H
 go_enter Try.func59,Try.ntmps59
 go_wp2
 (try simp only[Act.put,List.setIfInBounds_toArray,List.set_cons_zero,List.set_cons_succ])
 go_loopg [9] k (fun kq v9 w'=>∃(x9_1:Int),v9 = .int .i64 x9_1∧Aside0 (impl_areSheets.l0 kq l0 a1 l0 (l0.length:Int) x9_1=some r)∧Aside0 (kq≤k)∧Aside0 (Below w.heap.size w w'))
 case atStart=>exact⟨(0),(by first | rfl|(simp;done)|(simp[*];done)),H',⟨Nat.le_refl _⟩,⟨a0_⟩⟩
 case round=>
  clear H'
  try clear p2
  obtain⟨x9_1,rfl,HA,HK1,HB⟩:=hrel
  cases gk with
  | zero=>exact absurd HA.out (by simp[impl_areSheets.l0])
  | succ k1=>
   have H:=HA.out
   clear HA
   simp only[impl_areSheets.l0]at H
   by_cases c3:x9_1<(l0.length:Int)
   ·rw[if_pos c3]at H
    have c3b0:decide (x9_1<(l0.length:Int))=true:=decide_eq_true c3
    clear c3
    by_cases c4:0≤x9_1
    ·rw[if_pos c4]at H
     have c4b0:decide (0≤x9_1)=true:=decide_eq_true c4
     clear c4
     by_cases c5:x9_1<(l0.length:Int)
     ·rw[if_pos c5]at H
      have c5b0:decide (x9_1<(l0.length:Int))=true:=decide_eq_true c5
      clear c5
      obtain⟨t400,A6,H⟩:=bo_ H
      try dsimp only at H
      by_cases c7:t400=true
      ·subst c7
       replace H:(impl_areSheets.l0 k1 l0 a1 l0 (l0.length:Int) (wrap64 (x9_1+1)))=some r:=by rw[if_pos rfl]at H;exact H
       have H':=am_ H
       clear H
       have p399:0≤(x9_1:Int):=of_decide_eq_true (a8_)
       have q399:x9_1<(l0.length:Int):=of_decide_eq_true (a8_)
       obtain⟨ad399,A399_0,c399_0,e399,hx399_0,hl399_0,hi399_0⟩:=at_L3 HR0.out x9_1 p399 q399
       cases e399
       replace hx399_0:=(HB.out.cell (World.block_lt_of_cell? w _ hx399_0)).trans hx399_0
       have HR399_0:=am_ hi399_0
       have HC399_0:=am_ hl399_0
       clear hi399_0 hl399_0
       replace p399:=eq_true p399
       replace q399:=eq_true q399
       go_wp2_with (first|((with_reducible refine gate_callee (f:=21) rfl ?_);refine goesL_ (some 14) rfl rfl Try.func21 (by kernel_rfl) rfl #[.slice A399_0 (rd_L3 l0 x9_1).length c399_0] rfl gd_ ?_;(with_reducible refine(impl_IsSheet.calls k1 _ _ (rd_L3 l0 x9_1) true _ ?side1 ?side2 A6.out).mono ?_);(case side1=>exact(a13_ HR399_0.out));(case side2=>exact HC399_0.out);rintro e w8 ⟨rfl,hb⟩;refine⟨_,rfl,?_⟩;replace HB:=am_ (below_step (a0_) hb);(try clear hb);(try clear hb2);(try clear hk);(try clear hi)))
       go_roundg k1
       case measure=>have:=HK1.out;omega
       case rel=>exact⟨(wrap64 (x9_1+1)),(by first | rfl|(simp;done)|(simp[*];done)),H',⟨by have:=HK1.out;omega⟩,⟨a0_⟩⟩
      ·replace c7:=Bool.eq_false_iff.mpr c7
       subst c7
       replace H:(some false)=some r:=by rw[if_neg (show ¬(false=true) by decide)]at H;exact H
       obtain rfl:=Option.some.inj H
       have p399:0≤(x9_1:Int):=of_decide_eq_true (a8_)
       have q399:x9_1<(l0.length:Int):=of_decide_eq_true (a8_)
       obtain⟨ad399,A399_0,c399_0,e399,hx399_0,hl399_0,hi399_0⟩:=at_L3 HR0.out x9_1 p399 q399
       cases e399
       replace hx399_0:=(HB.out.cell (World.block_lt_of_cell? w _ hx399_0)).trans hx399_0
       have HR399_0:=am_ hi399_0
       have HC399_0:=am_ hl399_0
       clear hi399_0 hl399_0
       replace p399:=eq_true p399
       replace q399:=eq_true q399
       go_wp2_with (first|((with_reducible refine gate_callee (f:=21) rfl ?_);refine goesL_ (some 14) rfl rfl Try.func21 (by kernel_rfl) rfl #[.slice A399_0 (rd_L3 l0 x9_1).length c399_0] rfl gd_ ?_;(with_reducible refine(impl_IsSheet.calls k1 _ _ (rd_L3 l0 x9_1) false _ ?side1 ?side2 A6.out).mono ?_);(case side1=>exact(a13_ HR399_0.out));(case side2=>exact HC399_0.out);rintro e w9 ⟨rfl,hb⟩;refine⟨_,rfl,?_⟩;replace HB:=am_ (below_step (a0_) hb);(try clear hb);(try clear hb2);(try clear hk);(try clear hi)))
       go_ret
       exact⟨a9_,a0_⟩
     ·rw[if_neg c5]at H
      exact absurd H (by simp)
    ·rw[if_neg c4]at H
     exact absurd H (by simp)
   ·rw[if_neg c3]at H
    have c3b0:decide (x9_1<(l0.length:Int))=false:=decide_eq_false c3
    clear c3
    by_cases c10:(l0.length:Int)≥1
    ·rw[if_pos c10]at H
     have c10b0:decide (1≤(l0.length:Int))=true:=decide_eq_true c10
     have c10b1:decide (1≤l0.length)=true:=decide_eq_true (by omega)
     clear c10
     obtain rfl:=Option.some.inj H
     go_wp2
     go_ret
     exact⟨a9_,a0_⟩
    ·rw[if_neg c10]at H
     have c10b0:decide (1≤(l0.length:Int))=false:=decide_eq_false c10
     have c10b1:decide (1≤l0.length)=false:=decide_eq_false (by omega)
     clear c10
     obtain rfl:=Option.some.inj H
     go_wp2
     go_ret
     exact⟨a9_,a0_⟩

/-! ### impl_holeNumber: function 75 -/
def impl_holeNumber.f (a0_0:Int) (a0_1:Int) (a0_2:Int):Option (Int):=some (wrap64 ((wrap64 ((wrap64 (a0_0*4004001))+(wrap64 (a0_1*2001))))+a0_2))
set_option maxHeartbeats 8000000 in
set_option maxRecDepth 100000 in
theorem impl_holeNumber.calls (a0_0:Int) (a0_1:Int) (a0_2:Int) (r:Int) (w:World) (h:impl_holeNumber.f a0_0 a0_1 a0_2=some r) :
 Calls Try.prog 75 #[.agg #[.int .i64 a0_0, .int .i64 a0_1, .int .i64 a0_2]] w fun e w'=>e = .returned (.int .i64 r)∧Below w.heap.size w w':=by
 have hu42:=Try.underlying42
 have HB:=am_ (Below.refl w.heap.size w)
 have H:(some (wrap64 ((wrap64 ((wrap64 (a0_0*4004001))+(wrap64 (a0_1*2001))))+a0_2)))=some r:=h
 clear h
 obtain rfl:=Option.some.inj H
 go_enter Try.func75,Try.ntmps75
 go_wp2_with (first|((with_reducible refine gate_dst (N:=1) rfl ?_);refine box_event ?hg (N:=1) ?hd (cs:= #[.int .i64 a0_0, .int .i64 a0_1, .int .i64 a0_2]) (t:=42) ?hr ?_;(case hd=>rfl);(case hg=>rfl);(case hr=>exact hr_);intro gb401 hg w2 hbox hb;have BK401:=am_ (hbox);have GW401:=am_ ((by rw[hg];exact(below_size (a0_)):w.heap.size≤gb401));have GE401:=am_ ((by rw[hg];exact(below_size (a0_)):w.heap.size≤gb401));replace HB:=am_ (below_step (a0_) hb);clear hb hbox hg;have hcz3_0:w2.cell? ⟨gb401,0,none⟩=some (.int .i64 a0_0):=(blk_cell BK401.out 0).trans rfl;have hcz3_1:w2.cell? ⟨gb401,1,none⟩=some (.int .i64 a0_1):=(blk_cell BK401.out 1).trans rfl;have hcz3_2:w2.cell? ⟨gb401,2,none⟩=some (.int .i64 a0_2):=(blk_cell BK401.out 2).trans rfl;have hfz3_0:=blk_frozen BK401.out 0;have hfz3_1:=blk_frozen BK401.out 1;have hfz3_2:=blk_frozen BK401.out 2))
 go_ret
 exact⟨a9_,(a2_ GE401.out)⟩

/-! ### impl_extendChecksum: function 72 -/
def impl_extendChecksum.f (a0:Int) (a1_0:Int) (a1_1:Int) (a1_2:Int):Option (Int):=(impl_holeNumber.f a1_0 a1_1 a1_2).bind fun t403=>(some (Int.tmod (wrap64 ((wrap64 (31*a0))+t403)) 1000003))
set_option maxHeartbeats 8000000 in
set_option maxRecDepth 100000 in
theorem impl_extendChecksum.calls (a0:Int) (a1_0:Int) (a1_1:Int) (a1_2:Int) (r:Int) (w:World) (h:impl_extendChecksum.f a0 a1_0 a1_1 a1_2=some r) :
 Calls Try.prog 72 #[.int .i64 a0, .agg #[.int .i64 a1_0, .int .i64 a1_1, .int .i64 a1_2]] w fun e w'=>e = .returned (.int .i64 r)∧Below w.heap.size w w':=by
 have hu42:=Try.underlying42
 have HB:=am_ (Below.refl w.heap.size w)
 have H:((impl_holeNumber.f a1_0 a1_1 a1_2).bind fun t403=>(some (Int.tmod (wrap64 ((wrap64 (31*a0))+t403)) 1000003)))=some r:=h
 clear h
 obtain⟨t403,A3,H⟩:=bo_ H
 try dsimp only at H
 obtain rfl:=Option.some.inj H
 go_enter Try.func72,Try.ntmps72
 go_wp2_with (first|((with_reducible refine gate_dst (N:=3) rfl ?_);refine box_event ?hg (N:=3) ?hd (cs:= #[.int .i64 a1_0, .int .i64 a1_1, .int .i64 a1_2]) (t:=42) ?hr ?_;(case hd=>rfl);(case hg=>rfl);(case hr=>exact hr_);intro gb402 hg w4 hbox hb;have BK402:=am_ (hbox);have GW402:=am_ ((by rw[hg];exact(below_size (a0_)):w.heap.size≤gb402));have GE402:=am_ ((by rw[hg];exact(below_size (a0_)):w.heap.size≤gb402));replace HB:=am_ (below_step (a0_) hb);clear hb hbox hg;have hcz5_0:w4.cell? ⟨gb402,0,none⟩=some (.int .i64 a1_0):=(blk_cell BK402.out 0).trans rfl;have hcz5_1:w4.cell? ⟨gb402,1,none⟩=some (.int .i64 a1_1):=(blk_cell BK402.out 1).trans rfl;have hcz5_2:w4.cell? ⟨gb402,2,none⟩=some (.int .i64 a1_2):=(blk_cell BK402.out 2).trans rfl;have hfz5_0:=blk_frozen BK402.out 0;have hfz5_1:=blk_frozen BK402.out 1;have hfz5_2:=blk_frozen BK402.out 2)|((with_reducible refine gate_callee (f:=75) rfl ?_);refine goesL_ (some 8) rfl rfl Try.func75 (by kernel_rfl) rfl #[.agg #[.int .i64 a1_0, .int .i64 a1_1, .int .i64 a1_2]] rfl gd_ ?_;(with_reducible refine(impl_holeNumber.calls a1_0 a1_1 a1_2 t403 _ A3.out).mono ?_);rintro e w6 ⟨rfl,hb⟩;refine⟨_,rfl,?_⟩;replace BK402:=am_ (blk_below (g:=gb402) (o:= .cells #[.int .i64 a1_0, .int .i64 a1_1, .int .i64 a1_2] 42 (0,0)) ((a5_ BK402.out)) hb);replace HB:=am_ (below_step ((a2_ GE402.out)) hb);(try clear hb);(try clear hb2);(try clear hk);(try clear hi)))
 go_ret
 exact⟨a9_,(a2_ GE402.out)⟩

/-! ### impl_checksumOf: function 60 -/
def impl_checksumOf.l0:Nat→Int→List (S42)→Int→Int→Option (Int)
 | 0,_,_,_,_=>none
 | k+1,x3,x6,x7,x8=>if x8<x7 then(if 0≤x8 then(if x8<(x6.length:Int) then((impl_extendChecksum.f x3 ((rd_T42 x6 x8).f0) ((rd_T42 x6 x8).f1) ((rd_T42 x6 x8).f2)).bind fun t406=>(impl_checksumOf.l0 k t406 x6 x7 (wrap64 (x8+1)))) else(none)) else(none)) else(some x3)
def impl_checksumOf.f (k:Nat) (l0:List (S42)):Option (Int):=impl_checksumOf.l0 k 1 l0 (l0.length:Int) 0
theorem impl_checksumOf.mono_l:∀k,(∀y0 y1 y2 y3,LeO (impl_checksumOf.l0 k y0 y1 y2 y3) (impl_checksumOf.l0 (k+1) y0 y1 y2 y3))
 | 0=>fun _ _ _ _ r h=>by simp[impl_checksumOf.l0]at h
 | k+1=>by
  have ih0:=impl_checksumOf.mono_l k
  intros
  unfold impl_checksumOf.l0
  rotate_left
  all_goals repeat' first|(with_reducible first|exact ih0 _ _ _ _|exact LeO.refl _|exact LeO.none _|refine LeO.ite ?_ ?_|refine LeO.bind ?_ (fun _=>?_))|exact ih0 _ _ _ _|exact LeO.none _|refine LeO.ite ?_ ?_|refine LeO.bind ?_ (fun _=>?_)
theorem impl_checksumOf.mono:∀a0 k,LeO (impl_checksumOf.f k a0) (impl_checksumOf.f (k+1) a0):=by
 intro a0 k
 have ih0:=impl_checksumOf.mono_l k
 unfold impl_checksumOf.f
 repeat' first
  |(with_reducible exact ih0 _ _ _ _)
  |(with_reducible exact LeO.refl _)
  |(with_reducible exact LeO.none _)
  |(with_reducible refine LeO.ite ?_ ?_)
  |(with_reducible refine LeO.bind ?_ (fun _=>?_))
  |exact ih0 _ _ _ _
  |exact LeO.none _
   | refine LeO.ite ?_ ?_
   | refine LeO.bind ?_ (fun _=>?_)
set_option maxHeartbeats 8000000 in
set_option maxRecDepth 100000 in
theorem impl_checksumOf.calls (k:Nat) (A0:Option Addr) (c0:Nat) (l0:List (S42)) (r:Int) (w:World) (hr0:Kd.C k42 w A0 l0.length l0) (hc0:l0.length≤c0) (h:impl_checksumOf.f k l0=some r) :
 Calls Try.prog 60 #[.slice A0 l0.length c0] w fun e w'=>e = .returned (.int .i64 r)∧Below w.heap.size w w':=by
 have hu42:=Try.underlying42
 have HR0:=am_ hr0
 have HC0:=am_ hc0
 clear hr0 hc0
 have HB:=am_ (Below.refl w.heap.size w)
 have H:(impl_checksumOf.l0 k 1 l0 (l0.length:Int) 0)=some r:=h
 clear h
 have H':=am_ H
 clear H
 go_enter Try.func60,Try.ntmps60
 go_wp2
 (try simp only[Act.put,List.setIfInBounds_toArray,List.set_cons_zero,List.set_cons_succ])
 go_loopg [3,8] k (fun kq v3 v8 w'=>∃(x3_1:Int) (x8_1:Int),v3 = .int .i64 x3_1∧v8 = .int .i64 x8_1∧Aside0 (impl_checksumOf.l0 kq x3_1 l0 (l0.length:Int) x8_1=some r)∧Aside0 (kq≤k)∧Aside0 (Below w.heap.size w w'))
 case atStart=>exact⟨(1),(0),(by first | rfl|(simp;done)|(simp[*];done)),(by first | rfl|(simp;done)|(simp[*];done)),H',⟨Nat.le_refl _⟩,⟨a0_⟩⟩
 case round=>
  clear H'
  obtain⟨x3_1,x8_1,rfl,rfl,HA,HK1,HB⟩:=hrel
  cases gk with
  | zero=>exact absurd HA.out (by simp[impl_checksumOf.l0])
  | succ k1=>
   have H:=HA.out
   clear HA
   simp only[impl_checksumOf.l0]at H
   by_cases c2:x8_1<(l0.length:Int)
   ·rw[if_pos c2]at H
    have c2b0:decide (x8_1<(l0.length:Int))=true:=decide_eq_true c2
    clear c2
    by_cases c3:0≤x8_1
    ·rw[if_pos c3]at H
     have c3b0:decide (0≤x8_1)=true:=decide_eq_true c3
     clear c3
     by_cases c4:x8_1<(l0.length:Int)
     ·rw[if_pos c4]at H
      have c4b0:decide (x8_1<(l0.length:Int))=true:=decide_eq_true c4
      clear c4
      obtain⟨t406,A5,H⟩:=bo_ H
      try dsimp only at H
      have H':=am_ H
      clear H
      have p404:0≤(x8_1:Int):=of_decide_eq_true (a8_)
      have q404:x8_1<(l0.length:Int):=of_decide_eq_true (a8_)
      obtain⟨ad404,e404,hx404_0,hx404_1,hx404_2⟩:=at_T42 HR0.out x8_1 p404 q404
      cases e404
      replace hx404_0:=(HB.out.cell (World.block_lt_of_cell? w _ hx404_0)).trans hx404_0
      replace hx404_1:=(HB.out.cell (World.block_lt_of_cell? w _ hx404_1)).trans hx404_1
      replace hx404_2:=(HB.out.cell (World.block_lt_of_cell? w _ hx404_2)).trans hx404_2
      replace p404:=eq_true p404
      replace q404:=eq_true q404
      go_wp2_with (first|((with_reducible refine gate_dst (N:=5) rfl ?_);refine box_event ?hg (N:=5) ?hd (cs:= #[.int .i64 0, .int .i64 0, .int .i64 0]) (t:=42) ?hr ?_;(case hd=>rfl);(case hg=>rfl);(case hr=>exact hr_);intro gb405 hg w6 hbox hb;have BK405:=am_ (hbox);have GW405:=am_ ((by rw[hg];exact(below_size (a0_)):w.heap.size≤gb405));have GE405:=am_ ((by rw[hg];exact(below_size (a0_)):w.heap.size≤gb405));replace HB:=am_ (below_step (a0_) hb);clear hb hbox hg;have hcz7_0:w6.cell? ⟨gb405,0,none⟩=some (.int .i64 0):=(blk_cell BK405.out 0).trans rfl;have hcz7_1:w6.cell? ⟨gb405,1,none⟩=some (.int .i64 0):=(blk_cell BK405.out 1).trans rfl;have hcz7_2:w6.cell? ⟨gb405,2,none⟩=some (.int .i64 0):=(blk_cell BK405.out 2).trans rfl;have hfz7_0:=blk_frozen BK405.out 0;have hfz7_1:=blk_frozen BK405.out 1;have hfz7_2:=blk_frozen BK405.out 2)|((with_reducible refine gate_callee (f:=72) rfl ?_);refine goesL_ (some 14) rfl rfl Try.func72 (by kernel_rfl) rfl #[.int .i64 x3_1, .agg #[.int .i64 ((rd_T42 l0 x8_1).f0), .int .i64 ((rd_T42 l0 x8_1).f1), .int .i64 ((rd_T42 l0 x8_1).f2)]] rfl gd_ ?_;(with_reducible refine(impl_extendChecksum.calls x3_1 ((rd_T42 l0 x8_1).f0) ((rd_T42 l0 x8_1).f1) ((rd_T42 l0 x8_1).f2) t406 _ A5.out).mono ?_);rintro e w8 ⟨rfl,hb⟩;refine⟨_,rfl,?_⟩;replace BK405:=am_ (blk_below (g:=gb405) (o:= .cells #[.int .i64 ((rd_T42 l0 x8_1).f0), .int .i64 ((rd_T42 l0 x8_1).f1), .int .i64 ((rd_T42 l0 x8_1).f2)] 42 (0,0)) ((a32_ BK405.out)) hb);replace HB:=am_ (below_step ((a2_ GE405.out)) hb);(try clear hb);(try clear hb2);(try clear hk);(try clear hi)))
      go_roundg k1
      case measure=>have:=HK1.out;omega
      case rel=>exact⟨(t406),(wrap64 (x8_1+1)),(by first | rfl|(simp;done)|(simp[*];done)),(by first | rfl|(simp;done)|(simp[*];done)),H',⟨by have:=HK1.out;omega⟩,⟨(a2_ GE405.out)⟩⟩
     ·rw[if_neg c4]at H
      exact absurd H (by simp)
    ·rw[if_neg c3]at H
     exact absurd H (by simp)
   ·rw[if_neg c2]at H
    have c2b0:decide (x8_1<(l0.length:Int))=false:=decide_eq_false c2
    clear c2
    obtain rfl:=Option.some.inj H
    go_wp2
    go_ret
    exact⟨a9_,a0_⟩

/-! ### impl_AgreeingCopies: function 11 -/
mutual
def impl_AgreeingCopies.l0:Nat→List (List (S42))→List Int→List (List (S42))→Int→Int→Option (List Int×Bool)
 | 0,_,_,_,_,_=>none
 | k+1,x0,x4,x14,x15,x16=>if x16<x15 then(if 0≤x16 then(if x16<(x14.length:Int) then(impl_AgreeingCopies.l1 k x0 x4 (rd_L3 x14 x16) (([]:List Int)) x14 x15 x16 x0 (x0.length:Int) 0) else(none)) else(none)) else(some (x4,true))
def impl_AgreeingCopies.l1:Nat→List (List (S42))→List Int→List (S42)→List Int→List (List (S42))→Int→Int→List (List (S42))→Int→Int→Option (List Int×Bool)
 | 0,_,_,_,_,_,_,_,_,_,_=>none
 | k+1,x0,x4,x6,x7,x14,x15,x16,x21,x22,x23=>if x23<x22 then(if 0≤x23 then(if x23<(x21.length:Int) then((impl_checksumOf.f k (rd_L3 x21 x23)).bind fun t416=>((impl_checksumOf.f k x6).bind fun t417=>(if t416=t417 then(if x7.length<17592186044416 then(impl_AgreeingCopies.l1 k x0 x4 x6 (x7 ++ [x23]) x14 x15 x16 x21 x22 (wrap64 (x23+1))) else(none)) else(impl_AgreeingCopies.l1 k x0 x4 x6 x7 x14 x15 x16 x21 x22 (wrap64 (x23+1)))))) else(none)) else(none)) else(if(x7.length:Int)>(x4.length:Int) then(impl_AgreeingCopies.l0 k x0 x7 x14 x15 (wrap64 (x16+1))) else(impl_AgreeingCopies.l0 k x0 x4 x14 x15 (wrap64 (x16+1))))
end
def impl_AgreeingCopies.f (k:Nat) (l0:List (List (S42))):Option (List Int×Bool):=(impl_areSheets.f k l0 9).bind fun t407=>(if t407=true then(impl_AgreeingCopies.l0 k l0 (([]:List Int)) l0 (l0.length:Int) 0) else(some (([]:List Int),false)))
theorem impl_AgreeingCopies.mono_l:∀k,(∀y0 y1 y2 y3 y4,LeO (impl_AgreeingCopies.l0 k y0 y1 y2 y3 y4) (impl_AgreeingCopies.l0 (k+1) y0 y1 y2 y3 y4))∧(∀y0 y1 y2 y3 y4 y5 y6 y7 y8 y9,LeO (impl_AgreeingCopies.l1 k y0 y1 y2 y3 y4 y5 y6 y7 y8 y9) (impl_AgreeingCopies.l1 (k+1) y0 y1 y2 y3 y4 y5 y6 y7 y8 y9))
 | 0=>⟨fun _ _ _ _ _ r h=>by simp[impl_AgreeingCopies.l0]at h,fun _ _ _ _ _ _ _ _ _ _ r h=>by simp[impl_AgreeingCopies.l1]at h⟩
 | k+1=>by
  obtain⟨ih0,ih1⟩:=impl_AgreeingCopies.mono_l k
  refine⟨?_,?_⟩
  intros
  unfold impl_AgreeingCopies.l0
  rotate_left
  intros
  unfold impl_AgreeingCopies.l1
  rotate_left
  all_goals repeat' first|(with_reducible first|exact ih0 _ _ _ _ _|exact ih1 _ _ _ _ _ _ _ _ _ _|exact impl_areSheets.mono _ _ _|exact impl_checksumOf.mono _ _|exact LeO.refl _|exact LeO.none _|refine LeO.ite ?_ ?_|refine LeO.bind ?_ (fun _=>?_))|exact ih0 _ _ _ _ _|exact ih1 _ _ _ _ _ _ _ _ _ _|exact impl_areSheets.mono _ _ _|exact impl_checksumOf.mono _ _|exact LeO.none _|refine LeO.ite ?_ ?_|refine LeO.bind ?_ (fun _=>?_)
theorem impl_AgreeingCopies.mono:∀a0 k,LeO (impl_AgreeingCopies.f k a0) (impl_AgreeingCopies.f (k+1) a0):=by
 intro a0 k
 obtain⟨ih0,ih1⟩:=impl_AgreeingCopies.mono_l k
 unfold impl_AgreeingCopies.f
 repeat' first
  |(with_reducible exact ih0 _ _ _ _ _)
  |(with_reducible exact ih1 _ _ _ _ _ _ _ _ _ _)
  |(with_reducible exact impl_areSheets.mono _ _ _)
  |(with_reducible exact impl_checksumOf.mono _ _)
  |(with_reducible exact LeO.refl _)
  |(with_reducible exact LeO.none _)
  |(with_reducible refine LeO.ite ?_ ?_)
  |(with_reducible refine LeO.bind ?_ (fun _=>?_))
  |exact ih0 _ _ _ _ _
  |exact ih1 _ _ _ _ _ _ _ _ _ _
  |exact impl_areSheets.mono _ _ _
  |exact impl_checksumOf.mono _ _
  |exact LeO.none _
   | refine LeO.ite ?_ ?_
   | refine LeO.bind ?_ (fun _=>?_)
set_option maxHeartbeats 8000000 in
set_option maxRecDepth 100000 in
theorem impl_AgreeingCopies.calls (k:Nat) (A0:Option Addr) (c0:Nat) (l0:List (List (S42))) (r1:List Int) (r2:Bool) (w:World) (hr0:Kd.C (Kd.slice 42 k42) w A0 l0.length l0) (hc0:l0.length≤c0) (h:impl_AgreeingCopies.f k l0=some (r1,r2)) :
 Calls Try.prog 11 #[.slice A0 l0.length c0] w fun e w'=>∃v0_:Value,e = .returned (.tuple #[v0_, .bool r2])∧Kd.R (Kd.int .i64) 3 w' w.heap.size (fun _=>True) v0_ r1∧Below w.heap.size w w':=by
 have HR0:=am_ hr0
 have HC0:=am_ hc0
 clear hr0 hc0
 have HB:=am_ (Below.refl w.heap.size w)
 have H:((impl_areSheets.f k l0 9).bind fun t407=>(if t407=true then(impl_AgreeingCopies.l0 k l0 (([]:List Int)) l0 (l0.length:Int) 0) else(some (([]:List Int),false))))=some (r1,r2):=h
 clear h
 obtain⟨t407,A2,H⟩:=bo_ H
 try dsimp only at H
 by_cases c3:t407=true
 ·subst c3
  replace H:(impl_AgreeingCopies.l0 k l0 (([]:List Int)) l0 (l0.length:Int) 0)=some (r1,r2):=by rw[if_pos rfl]at H;exact H
  obtain⟨y408,hy408⟩:∃y_:List Int,y_=(([]:List Int)):=⟨_,rfl⟩
  replace H:(impl_AgreeingCopies.l0 k l0 y408 l0 (l0.length:Int) 0)=some (r1,r2):=by first|(rw[hy408];with_reducible exact H)|(have H2_:=(Option.bind_some _ _).symm.trans H;rw[hy408];with_reducible exact H2_)|(have H2_:=(Option.bind_some _ _).symm.trans H;with_reducible exact H2_) | with_reducible exact H|(rw[hy408];exact H)|exact H
  have Ny408:=am_ hy408
  clear hy408
  have H':=am_ H
  clear H
  go_enter Try.func11,Try.ntmps11
  go_wp2_with (first|((with_reducible refine gate_callee (f:=59) rfl ?_);refine goesL_ (some 11) rfl rfl Try.func59 (by kernel_rfl) rfl #[.slice A0 l0.length c0, .int .i64 9] rfl gd_ ?_;(with_reducible refine(impl_areSheets.calls k _ _ l0 9 true _ ?side1 ?side2 A2.out).mono ?_);(case side1=>exact(a21_ HR0.out));(case side2=>exact HC0.out);rintro e w4 ⟨rfl,hb⟩;refine⟨_,rfl,?_⟩;replace HB:=am_ (below_step (a0_) hb);(try clear hb);(try clear hb2);(try clear hk);(try clear hi))|((with_reducible refine gate_dst (N:=13) rfl ?_);refine Kd.R_lit (Kd.int .i64) _ 3 ?hg (N:=13) ?hd (xs:=([]:List Int)) (inner:=[]) (ok:=fun _=>True) (okp:=fun _=>True) ?hr ?hp (fun _ hk=>hk) trivial (Below.refl _ _) (Nat.le_refl _) (by simp) ?_;(case hd=>rfl);(case hg=>rfl);(case hr=>exact hr_);(case hp=>exact(Reps.none _ _));intro v409 w5 ho6 hb hg_ hnew_;clear hg_ hnew_;(first|rw[← Ny408.out]at ho6|(simp only[Int.reduceToNat]at ho6;rw[← Ny408.out]at ho6));have HO410:=am_ (Kd.R_lower ho6 (below_size (a0_)));replace HB:=am_ (below_step (a0_) hb);clear hb ho6))
  (try simp only[Act.put,List.setIfInBounds_toArray,List.set_cons_zero,List.set_cons_succ])
  go_loopg [4,16] k (fun kq v4 v16 w'=>∃(x4_1:List Int) (x16_1:Int),v16 = .int .i64 x16_1∧Aside0 (impl_AgreeingCopies.l0 kq l0 x4_1 l0 (l0.length:Int) x16_1=some (r1,r2))∧Aside0 (kq≤k)∧Aside0 (Kd.R (Kd.int .i64) 3 w' w.heap.size (fun _=>True) v4 x4_1)∧Aside0 (Below w.heap.size w w'))
  case atStart=>exact⟨(y408),(0),(by first | rfl|(simp;done)|(simp[*];done)),H',⟨Nat.le_refl _⟩,⟨(a1_ HO410.out)⟩,⟨a0_⟩⟩
  case round=>
   clear H'
   try clear c1
   try clear p2
   try clear c3
   try clear c5
   obtain⟨x4_1,x16_1,rfl,HA,HK1,HO_4,HB⟩:=hrel
   cases gk with
   | zero=>exact absurd HA.out (by simp[impl_AgreeingCopies.l0])
   | succ k1=>
    have H:=HA.out
    clear HA
    simp only[impl_AgreeingCopies.l0]at H
    by_cases c7:x16_1<(l0.length:Int)
    ·rw[if_pos c7]at H
     have c7b0:decide (x16_1<(l0.length:Int))=true:=decide_eq_true c7
     clear c7
     by_cases c8:0≤x16_1
     ·rw[if_pos c8]at H
      have c8b0:decide (0≤x16_1)=true:=decide_eq_true c8
      clear c8
      by_cases c9:x16_1<(l0.length:Int)
      ·rw[if_pos c9]at H
       have c9b0:decide (x16_1<(l0.length:Int))=true:=decide_eq_true c9
       clear c9
       obtain⟨y412,hy412⟩:∃y_:List Int,y_=(([]:List Int)):=⟨_,rfl⟩
       replace H:(impl_AgreeingCopies.l1 k1 l0 x4_1 (rd_L3 l0 x16_1) y412 l0 (l0.length:Int) x16_1 l0 (l0.length:Int) 0)=some (r1,r2):=by first|(rw[hy412];with_reducible exact H)|(have H2_:=(Option.bind_some _ _).symm.trans H;rw[hy412];with_reducible exact H2_)|(have H2_:=(Option.bind_some _ _).symm.trans H;with_reducible exact H2_) | with_reducible exact H|(rw[hy412];exact H)|exact H
       have Ny412:=am_ hy412
       clear hy412
       have H':=am_ H
       clear H
       have p411:0≤(x16_1:Int):=of_decide_eq_true (a8_)
       have q411:x16_1<(l0.length:Int):=of_decide_eq_true (a8_)
       obtain⟨ad411,A411_0,c411_0,e411,hx411_0,hl411_0,hi411_0⟩:=at_L3 HR0.out x16_1 p411 q411
       cases e411
       replace hx411_0:=(HB.out.cell (World.block_lt_of_cell? w _ hx411_0)).trans hx411_0
       have HR411_0:=am_ hi411_0
       have HC411_0:=am_ hl411_0
       clear hi411_0 hl411_0
       replace p411:=eq_true p411
       replace q411:=eq_true q411
       go_wp2_with (first|((with_reducible refine gate_dst (N:=20) rfl ?_);refine Kd.R_lit (Kd.int .i64) _ 3 ?hg (N:=20) ?hd (xs:=([]:List Int)) (inner:=[]) (ok:=fun _=>True) (okp:=fun _=>True) ?hr ?hp (fun _ hk=>hk) trivial (Below.refl _ _) (Nat.le_refl _) (by simp) ?_;(case hd=>rfl);(case hg=>rfl);(case hr=>exact hr_);(case hp=>exact(Reps.none _ _));intro v413 w10 ho11 hb hg_ hnew_;clear hg_ hnew_;(first|rw[← Ny412.out]at ho11|(simp only[Int.reduceToNat]at ho11;rw[← Ny412.out]at ho11));have HO414:=am_ (Kd.R_lower (Kd.R_new' ho11 (Kd.R_lt ((a1_ HO_4.out)))) (below_size (a0_)));replace HO_4:=am_ (Kd.R_elder' ((a1_ HO_4.out)) (Kd.R_base ho11) hb);replace HB:=am_ (below_step (a0_) hb);clear hb ho11))
       (try simp only[Act.put,List.setIfInBounds_toArray,List.set_cons_zero,List.set_cons_succ])
       go_loopg [7,23] k1 (fun kq v7 v23 w'=>∃(x7_2:List Int) (x23_2:Int),v23 = .int .i64 x23_2∧Aside0 (impl_AgreeingCopies.l1 kq l0 x4_1 (rd_L3 l0 x16_1) x7_2 l0 (l0.length:Int) x16_1 l0 (l0.length:Int) x23_2=some (r1,r2))∧Aside0 (kq≤k1)∧Aside0 (Kd.R (Kd.int .i64) 3 w' w.heap.size (fun k_=>some k_≠(v7:Value).ownBlock) u4 x4_1)∧Aside0 (Kd.R (Kd.int .i64) 3 w' w.heap.size (fun k_=>some k_≠(u4:Value).ownBlock) v7 x7_2)∧Aside0 (Below w.heap.size w w'))
       case atStart=>exact⟨(y412),(0),(by first | rfl|(simp;done)|(simp[*];done)),H',⟨Nat.le_refl _⟩,⟨(a35_ HO_4.out)⟩,⟨(a35_ HO414.out)⟩,⟨a0_⟩⟩
       case round=>
        clear H'
        try clear c1
        try clear p2
        try clear c3
        try clear c4
        try clear p4
        try clear q4
        try clear hx4
        try clear c5
        try clear c7
        try clear c7b0
        try clear c8
        try clear c8b0
        try clear c9
        try clear c9b0
        try clear c11
        try clear hx411_0
        try clear p2
        try clear p411
        try clear q411
        obtain⟨x7_2,x23_2,rfl,HA,HK2,HO_4,HO_7,HB⟩:=hrel
        cases gk with
        | zero=>exact absurd HA.out (by simp[impl_AgreeingCopies.l1])
        | succ k2=>
         have H:=HA.out
         clear HA
         simp only[impl_AgreeingCopies.l1]at H
         by_cases c12:x23_2<(l0.length:Int)
         ·rw[if_pos c12]at H
          have c12b0:decide (x23_2<(l0.length:Int))=true:=decide_eq_true c12
          clear c12
          by_cases c13:0≤x23_2
          ·rw[if_pos c13]at H
           have c13b0:decide (0≤x23_2)=true:=decide_eq_true c13
           clear c13
           by_cases c14:x23_2<(l0.length:Int)
           ·rw[if_pos c14]at H
            have c14b0:decide (x23_2<(l0.length:Int))=true:=decide_eq_true c14
            clear c14
            obtain⟨t416,A15,H⟩:=bo_ H
            try dsimp only at H
            obtain⟨t417,A16,H⟩:=bo_ H
            try dsimp only at H
            by_cases c17:t416=t417
            ·rw[if_pos c17]at H
             have c17b0:(t416 == t417)=true:=beq_iff_eq.mpr c17
             have c17b1:(t416 != t417)=false:=bne_eq_false_iff_eq.mpr c17
             clear c17
             by_cases c18:x7_2.length<17592186044416
             ·rw[if_pos c18]at H
              have LMc18:=am_ c18
              clear c18
              obtain⟨y418,hy418⟩:∃y_:List Int,y_=(x7_2 ++ [x23_2]):=⟨_,rfl⟩
              replace H:(impl_AgreeingCopies.l1 k2 l0 x4_1 (rd_L3 l0 x16_1) y418 l0 (l0.length:Int) x16_1 l0 (l0.length:Int) (wrap64 (x23_2+1)))=some (r1,r2):=by first|(rw[hy418];with_reducible exact H)|(have H2_:=(Option.bind_some _ _).symm.trans H;rw[hy418];with_reducible exact H2_)|(have H2_:=(Option.bind_some _ _).symm.trans H;with_reducible exact H2_) | with_reducible exact H|(rw[hy418];exact H)|exact H
              have Ny418:=am_ hy418
              clear hy418
              have H':=am_ H
              clear H
              have p415:0≤(x23_2:Int):=of_decide_eq_true (a8_)
              have q415:x23_2<(l0.length:Int):=of_decide_eq_true (a8_)
              obtain⟨ad415,A415_0,c415_0,e415,hx415_0,hl415_0,hi415_0⟩:=at_L3 HR0.out x23_2 p415 q415
              obtain rfl:ad411=ad415:=(by injection e415)
              replace hx415_0:=(HB.out.cell (World.block_lt_of_cell? w _ hx415_0)).trans hx415_0
              have HR415_0:=am_ hi415_0
              have HC415_0:=am_ hl415_0
              clear hi415_0 hl415_0
              replace p415:=eq_true p415
              replace q415:=eq_true q415
              go_wp2_with (first|((with_reducible refine gate_callee (f:=60) rfl ?_);refine goesL_ (some 29) rfl rfl Try.func60 (by kernel_rfl) rfl #[.slice A415_0 (rd_L3 l0 x23_2).length c415_0] rfl gd_ ?_;(with_reducible refine(impl_checksumOf.calls k2 _ _ (rd_L3 l0 x23_2) t416 _ ?side1 ?side2 A15.out).mono ?_);(case side1=>exact(a13_ HR415_0.out));(case side2=>exact HC415_0.out);rintro e w19 ⟨rfl,hb⟩;refine⟨_,rfl,?_⟩;replace HO_4:=am_ (Kd.R_below ((a1_ HO_4.out)) hb);replace HO_7:=am_ (Kd.R_below ((a1_ HO_7.out)) hb);replace HB:=am_ (below_step (a0_) hb);(try clear hb);(try clear hb2);(try clear hk);(try clear hi))|((with_reducible refine gate_callee (f:=60) rfl ?_);refine goesL_ (some 31) rfl rfl Try.func60 (by kernel_rfl) rfl #[.slice A411_0 (rd_L3 l0 x16_1).length c411_0] rfl gd_ ?_;(with_reducible refine(impl_checksumOf.calls k2 _ _ (rd_L3 l0 x16_1) t417 _ ?side1 ?side2 A16.out).mono ?_);(case side1=>exact(a13_ HR411_0.out));(case side2=>exact HC411_0.out);rintro e w20 ⟨rfl,hb⟩;refine⟨_,rfl,?_⟩;replace HO_4:=am_ (Kd.R_below ((a1_ HO_4.out)) hb);replace HO_7:=am_ (Kd.R_below ((a1_ HO_7.out)) hb);replace HB:=am_ (below_step (a0_) hb);(try clear hb);(try clear hb2);(try clear hk);(try clear hi))|((with_reducible refine gate_builtin (b:= .append) (xs:= #[.tmp 33, .tmp 35]) rfl ?_);at_builtin;refine Kd.R_append (Kd.int .i64) (w0:=w) w.heap.size rfl (.tmp 33) (.tmp 35) 26 3 (.int .i64 0) 8 rfl Try.underlying26 info3 rfl (by decide) (by omega) u7 x7_2 x23_2 [.int .i64 x23_2] (fun k_=>some k_≠(u4:Value).ownBlock) (fun _=>False) rfl rfl ?aP (fun _ hk=>hk.elim) ?aF ?aO ?aB ?aS ?aL ?_;(case aP=>exact rfl);(case aB=>exact(a0_));(case aF=>exact(fun k_ hk=>Kd.fresh' (Kd.R_lt ((a1_ HO_4.out))) k_ hk));(case aO=>exact((a1_ HO_7.out)));(case aS=>exact(below_size (a0_)));(case aL=>have:=LMc18.out;omega);intro v419 w21 ho hb hg hat;rw[← Ny418.out]at ho;have n0_:=am_ (Kd.R_after (ok:=(fun _=>True)) (by(with_reducible repeat (first|apply Kd.R_alloc|apply Kd.R_drewN|apply Kd.R_drew));exact Kd.R_mono HO_4.out (fun _ hk=>⟨trivial,hk⟩)) hg hat);have n1_:=am_ (hb);have n2_:=am_ (ho);clear HO_4 HB HO_7;have HO_4:=n0_;have HB:=n1_;have HO420:=n2_;clear n0_ n1_ n2_ ho hb hg hat))
              go_roundg k2
              case measure=>have:=HK1.out;have:=HK2.out;omega
              case rel=>exact⟨(y418),(wrap64 (x23_2+1)),(by first | rfl|(simp;done)|(simp[*];done)),H',⟨by have:=HK1.out;have:=HK2.out;omega⟩,⟨(a35_ HO_4.out)⟩,⟨(a1_ HO420.out)⟩,⟨a0_⟩⟩
             ·rw[if_neg c18]at H
              exact absurd H (by simp)
            ·rw[if_neg c17]at H
             have c17b0:(t416 == t417)=false:=beq_eq_false_iff_ne.mpr c17
             have c17b1:(t416 != t417)=true:=bne_iff_ne.mpr c17
             have H':=am_ H
             clear H
             have p415:0≤(x23_2:Int):=of_decide_eq_true (a8_)
             have q415:x23_2<(l0.length:Int):=of_decide_eq_true (a8_)
             obtain⟨ad415,A415_0,c415_0,e415,hx415_0,hl415_0,hi415_0⟩:=at_L3 HR0.out x23_2 p415 q415
             obtain rfl:ad411=ad415:=(by injection e415)
             replace hx415_0:=(HB.out.cell (World.block_lt_of_cell? w _ hx415_0)).trans hx415_0
             have HR415_0:=am_ hi415_0
             have HC415_0:=am_ hl415_0
             clear hi415_0 hl415_0
             replace p415:=eq_true p415
             replace q415:=eq_true q415
             go_wp2_with (first|((with_reducible refine gate_callee (f:=60) rfl ?_);refine goesL_ (some 29) rfl rfl Try.func60 (by kernel_rfl) rfl #[.slice A415_0 (rd_L3 l0 x23_2).length c415_0] rfl gd_ ?_;(with_reducible refine(impl_checksumOf.calls k2 _ _ (rd_L3 l0 x23_2) t416 _ ?side1 ?side2 A15.out).mono ?_);(case side1=>exact(a13_ HR415_0.out));(case side2=>exact HC415_0.out);rintro e w22 ⟨rfl,hb⟩;refine⟨_,rfl,?_⟩;replace HO_4:=am_ (Kd.R_below ((a1_ HO_4.out)) hb);replace HO_7:=am_ (Kd.R_below ((a1_ HO_7.out)) hb);replace HB:=am_ (below_step (a0_) hb);(try clear hb);(try clear hb2);(try clear hk);(try clear hi))|((with_reducible refine gate_callee (f:=60) rfl ?_);refine goesL_ (some 31) rfl rfl Try.func60 (by kernel_rfl) rfl #[.slice A411_0 (rd_L3 l0 x16_1).length c411_0] rfl gd_ ?_;(with_reducible refine(impl_checksumOf.calls k2 _ _ (rd_L3 l0 x16_1) t417 _ ?side1 ?side2 A16.out).mono ?_);(case side1=>exact(a13_ HR411_0.out));(case side2=>exact HC411_0.out);rintro e w23 ⟨rfl,hb⟩;refine⟨_,rfl,?_⟩;replace HO_4:=am_ (Kd.R_below ((a1_ HO_4.out)) hb);replace HO_7:=am_ (Kd.R_below ((a1_ HO_7.out)) hb);replace HB:=am_ (below_step (a0_) hb);(try clear hb);(try clear hb2);(try clear hk);(try clear hi)))
             go_roundg k2
             case measure=>have:=HK1.out;have:=HK2.out;omega
             case rel=>exact⟨(x7_2),(wrap64 (x23_2+1)),(by first | rfl|(simp;done)|(simp[*];done)),H',⟨by have:=HK1.out;have:=HK2.out;omega⟩,⟨(a1_ HO_4.out)⟩,⟨(a1_ HO_7.out)⟩,⟨a0_⟩⟩
           ·rw[if_neg c14]at H
            exact absurd H (by simp)
          ·rw[if_neg c13]at H
           exact absurd H (by simp)
         ·rw[if_neg c12]at H
          have c12b0:decide (x23_2<(l0.length:Int))=false:=decide_eq_false c12
          clear c12
          by_cases c24:(x7_2.length:Int)>(x4_1.length:Int)
          ·rw[if_pos c24]at H
           have c24b0:decide ((x4_1.length:Int)<(x7_2.length:Int))=true:=decide_eq_true c24
           have c24b1:decide (x4_1.length<x7_2.length)=true:=decide_eq_true (Int.ofNat_lt.mp c24)
           clear c24
           have H':=am_ H
           clear H
           obtain⟨Ao25,co25,eo25⟩:=Kd.R_slice HO_7.out
           subst eo25
           obtain⟨Ao26,co26,eo26⟩:=Kd.R_slice HO_4.out
           subst eo26
           go_wp2
           go_roundg k2
           case measure=>have:=HK1.out;have:=HK2.out;omega
           case rel=>exact⟨(x7_2),(wrap64 (x16_1+1)),(by first | rfl|(simp;done)|(simp[*];done)),H',⟨by have:=HK1.out;have:=HK2.out;omega⟩,⟨(a27_ HO_7.out)⟩,⟨a0_⟩⟩
          ·rw[if_neg c24]at H
           have c24b0:decide ((x4_1.length:Int)<(x7_2.length:Int))=false:=decide_eq_false c24
           have c24b1:decide (x4_1.length<x7_2.length)=false:=decide_eq_false (fun h=>c24 (Int.ofNat_lt.mpr h))
           clear c24
           have H':=am_ H
           clear H
           obtain⟨Ao27,co27,eo27⟩:=Kd.R_slice HO_7.out
           subst eo27
           obtain⟨Ao28,co28,eo28⟩:=Kd.R_slice HO_4.out
           subst eo28
           go_wp2
           go_roundg k2
           case measure=>have:=HK1.out;have:=HK2.out;omega
           case rel=>exact⟨(x4_1),(wrap64 (x16_1+1)),(by first | rfl|(simp;done)|(simp[*];done)),H',⟨by have:=HK1.out;have:=HK2.out;omega⟩,⟨(a27_ HO_4.out)⟩,⟨a0_⟩⟩
      ·rw[if_neg c9]at H
       exact absurd H (by simp)
     ·rw[if_neg c8]at H
      exact absurd H (by simp)
    ·rw[if_neg c7]at H
     have c7b0:decide (x16_1<(l0.length:Int))=false:=decide_eq_false c7
     clear c7
     simp only[Option.some.injEq,Prod.mk.injEq]at H
     obtain⟨rfl,rfl⟩:=H
     go_wp2
     go_ret2
     exact⟨_,a9_,(a1_ HO_4.out),a0_⟩
 ·replace c3:=Bool.eq_false_iff.mpr c3
  subst c3
  replace H:(some (([]:List Int),false))=some (r1,r2):=by rw[if_neg (show ¬(false=true) by decide)]at H;exact H
  simp only[Option.some.injEq,Prod.mk.injEq]at H
  obtain⟨rfl,rfl⟩:=H
  go_enter Try.func11,Try.ntmps11
  go_wp2_with (first|((with_reducible refine gate_callee (f:=59) rfl ?_);refine goesL_ (some 11) rfl rfl Try.func59 (by kernel_rfl) rfl #[.slice A0 l0.length c0, .int .i64 9] rfl gd_ ?_;(with_reducible refine(impl_areSheets.calls k _ _ l0 9 false _ ?side1 ?side2 A2.out).mono ?_);(case side1=>exact(a21_ HR0.out));(case side2=>exact HC0.out);rintro e w29 ⟨rfl,hb⟩;refine⟨_,rfl,?_⟩;replace HB:=am_ (below_step (a0_) hb);(try clear hb);(try clear hb2);(try clear hk);(try clear hi)))
  go_ret2
  exact⟨_,a9_,a28_,a0_⟩

/-! ### spec_ckNumber: function 76 -/
def spec_ckNumber.f (a0_0:Int) (a0_1:Int) (a0_2:Int):Option (Int):=some (wrap64 ((wrap64 ((wrap64 (4004001*a0_0))+(wrap64 (2001*a0_1))))+a0_2))
set_option maxHeartbeats 8000000 in
set_option maxRecDepth 100000 in
theorem spec_ckNumber.calls (a0_0:Int) (a0_1:Int) (a0_2:Int) (r:Int) (w:World) (h:spec_ckNumber.f a0_0 a0_1 a0_2=some r) :
 Calls Try.prog 76 #[.agg #[.int .i64 a0_0, .int .i64 a0_1, .int .i64 a0_2]] w fun e w'=>e = .returned (.int .i64 r)∧Below w.heap.size w w':=by
 have hu42:=Try.underlying42
 have HB:=am_ (Below.refl w.heap.size w)
 have H:(some (wrap64 ((wrap64 ((wrap64 (4004001*a0_0))+(wrap64 (2001*a0_1))))+a0_2)))=some r:=h
 clear h
 obtain rfl:=Option.some.inj H
 go_enter Try.func76,Try.ntmps76
 go_wp2_with (first|((with_reducible refine gate_dst (N:=1) rfl ?_);refine box_event ?hg (N:=1) ?hd (cs:= #[.int .i64 a0_0, .int .i64 a0_1, .int .i64 a0_2]) (t:=42) ?hr ?_;(case hd=>rfl);(case hg=>rfl);(case hr=>exact hr_);intro gb421 hg w2 hbox hb;have BK421:=am_ (hbox);have GW421:=am_ ((by rw[hg];exact(below_size (a0_)):w.heap.size≤gb421));have GE421:=am_ ((by rw[hg];exact(below_size (a0_)):w.heap.size≤gb421));replace HB:=am_ (below_step (a0_) hb);clear hb hbox hg;have hcz3_0:w2.cell? ⟨gb421,0,none⟩=some (.int .i64 a0_0):=(blk_cell BK421.out 0).trans rfl;have hcz3_1:w2.cell? ⟨gb421,1,none⟩=some (.int .i64 a0_1):=(blk_cell BK421.out 1).trans rfl;have hcz3_2:w2.cell? ⟨gb421,2,none⟩=some (.int .i64 a0_2):=(blk_cell BK421.out 2).trans rfl;have hfz3_0:=blk_frozen BK421.out 0;have hfz3_1:=blk_frozen BK421.out 1;have hfz3_2:=blk_frozen BK421.out 2))
 go_ret
 exact⟨a9_,(a2_ GE421.out)⟩

/-! ### spec_ckExtend: function 74 -/
def spec_ckExtend.f (a0:Int) (a1_0:Int) (a1_1:Int) (a1_2:Int):Option (Int):=(spec_ckNumber.f a1_0 a1_1 a1_2).bind fun t423=>(some (Int.tmod (wrap64 ((wrap64 (31*a0))+t423)) 1000003))
set_option maxHeartbeats 8000000 in
set_option maxRecDepth 100000 in
theorem spec_ckExtend.calls (a0:Int) (a1_0:Int) (a1_1:Int) (a1_2:Int) (r:Int) (w:World) (h:spec_ckExtend.f a0 a1_0 a1_1 a1_2=some r) :
 Calls Try.prog 74 #[.int .i64 a0, .agg #[.int .i64 a1_0, .int .i64 a1_1, .int .i64 a1_2]] w fun e w'=>e = .returned (.int .i64 r)∧Below w.heap.size w w':=by
 have hu42:=Try.underlying42
 have HB:=am_ (Below.refl w.heap.size w)
 have H:((spec_ckNumber.f a1_0 a1_1 a1_2).bind fun t423=>(some (Int.tmod (wrap64 ((wrap64 (31*a0))+t423)) 1000003)))=some r:=h
 clear h
 obtain⟨t423,A3,H⟩:=bo_ H
 try dsimp only at H
 obtain rfl:=Option.some.inj H
 go_enter Try.func74,Try.ntmps74
 go_wp2_with (first|((with_reducible refine gate_dst (N:=3) rfl ?_);refine box_event ?hg (N:=3) ?hd (cs:= #[.int .i64 a1_0, .int .i64 a1_1, .int .i64 a1_2]) (t:=42) ?hr ?_;(case hd=>rfl);(case hg=>rfl);(case hr=>exact hr_);intro gb422 hg w4 hbox hb;have BK422:=am_ (hbox);have GW422:=am_ ((by rw[hg];exact(below_size (a0_)):w.heap.size≤gb422));have GE422:=am_ ((by rw[hg];exact(below_size (a0_)):w.heap.size≤gb422));replace HB:=am_ (below_step (a0_) hb);clear hb hbox hg;have hcz5_0:w4.cell? ⟨gb422,0,none⟩=some (.int .i64 a1_0):=(blk_cell BK422.out 0).trans rfl;have hcz5_1:w4.cell? ⟨gb422,1,none⟩=some (.int .i64 a1_1):=(blk_cell BK422.out 1).trans rfl;have hcz5_2:w4.cell? ⟨gb422,2,none⟩=some (.int .i64 a1_2):=(blk_cell BK422.out 2).trans rfl;have hfz5_0:=blk_frozen BK422.out 0;have hfz5_1:=blk_frozen BK422.out 1;have hfz5_2:=blk_frozen BK422.out 2)|((with_reducible refine gate_callee (f:=76) rfl ?_);refine goesL_ (some 8) rfl rfl Try.func76 (by kernel_rfl) rfl #[.agg #[.int .i64 a1_0, .int .i64 a1_1, .int .i64 a1_2]] rfl gd_ ?_;(with_reducible refine(spec_ckNumber.calls a1_0 a1_1 a1_2 t423 _ A3.out).mono ?_);rintro e w6 ⟨rfl,hb⟩;refine⟨_,rfl,?_⟩;replace BK422:=am_ (blk_below (g:=gb422) (o:= .cells #[.int .i64 a1_0, .int .i64 a1_1, .int .i64 a1_2] 42 (0,0)) ((a5_ BK422.out)) hb);replace HB:=am_ (below_step ((a2_ GE422.out)) hb);(try clear hb);(try clear hb2);(try clear hk);(try clear hi)))
 go_ret
 exact⟨a9_,(a2_ GE422.out)⟩

/-! ### spec_ckSum: function 63 -/
def spec_ckSum.l0:Nat→Int→List (S42)→Int→Int→Option (Int)
 | 0,_,_,_,_=>none
 | k+1,x3,x6,x7,x8=>if x8<x7 then(if 0≤x8 then(if x8<(x6.length:Int) then((spec_ckExtend.f x3 ((rd_T42 x6 x8).f0) ((rd_T42 x6 x8).f1) ((rd_T42 x6 x8).f2)).bind fun t426=>(spec_ckSum.l0 k t426 x6 x7 (wrap64 (x8+1)))) else(none)) else(none)) else(some x3)
def spec_ckSum.f (k:Nat) (l0:List (S42)):Option (Int):=spec_ckSum.l0 k 1 l0 (l0.length:Int) 0
theorem spec_ckSum.mono_l:∀k,(∀y0 y1 y2 y3,LeO (spec_ckSum.l0 k y0 y1 y2 y3) (spec_ckSum.l0 (k+1) y0 y1 y2 y3))
 | 0=>fun _ _ _ _ r h=>by simp[spec_ckSum.l0]at h
 | k+1=>by
  have ih0:=spec_ckSum.mono_l k
  intros
  unfold spec_ckSum.l0
  rotate_left
  all_goals repeat' first|(with_reducible first|exact ih0 _ _ _ _|exact LeO.refl _|exact LeO.none _|refine LeO.ite ?_ ?_|refine LeO.bind ?_ (fun _=>?_))|exact ih0 _ _ _ _|exact LeO.none _|refine LeO.ite ?_ ?_|refine LeO.bind ?_ (fun _=>?_)
theorem spec_ckSum.mono:∀a0 k,LeO (spec_ckSum.f k a0) (spec_ckSum.f (k+1) a0):=by
 intro a0 k
 have ih0:=spec_ckSum.mono_l k
 unfold spec_ckSum.f
 repeat' first
  |(with_reducible exact ih0 _ _ _ _)
  |(with_reducible exact LeO.refl _)
  |(with_reducible exact LeO.none _)
  |(with_reducible refine LeO.ite ?_ ?_)
  |(with_reducible refine LeO.bind ?_ (fun _=>?_))
  |exact ih0 _ _ _ _
  |exact LeO.none _
   | refine LeO.ite ?_ ?_
   | refine LeO.bind ?_ (fun _=>?_)
set_option maxHeartbeats 8000000 in
set_option maxRecDepth 100000 in
theorem spec_ckSum.calls (k:Nat) (A0:Option Addr) (c0:Nat) (l0:List (S42)) (r:Int) (w:World) (hr0:Kd.C k42 w A0 l0.length l0) (hc0:l0.length≤c0) (h:spec_ckSum.f k l0=some r) :
 Calls Try.prog 63 #[.slice A0 l0.length c0] w fun e w'=>e = .returned (.int .i64 r)∧Below w.heap.size w w':=by
 have hu42:=Try.underlying42
 have HR0:=am_ hr0
 have HC0:=am_ hc0
 clear hr0 hc0
 have HB:=am_ (Below.refl w.heap.size w)
 have H:(spec_ckSum.l0 k 1 l0 (l0.length:Int) 0)=some r:=h
 clear h
 have H':=am_ H
 clear H
 go_enter Try.func63,Try.ntmps63
 go_wp2
 (try simp only[Act.put,List.setIfInBounds_toArray,List.set_cons_zero,List.set_cons_succ])
 go_loopg [3,8] k (fun kq v3 v8 w'=>∃(x3_1:Int) (x8_1:Int),v3 = .int .i64 x3_1∧v8 = .int .i64 x8_1∧Aside0 (spec_ckSum.l0 kq x3_1 l0 (l0.length:Int) x8_1=some r)∧Aside0 (kq≤k)∧Aside0 (Below w.heap.size w w'))
 case atStart=>exact⟨(1),(0),(by first | rfl|(simp;done)|(simp[*];done)),(by first | rfl|(simp;done)|(simp[*];done)),H',⟨Nat.le_refl _⟩,⟨a0_⟩⟩
 case round=>
  clear H'
  obtain⟨x3_1,x8_1,rfl,rfl,HA,HK1,HB⟩:=hrel
  cases gk with
  | zero=>exact absurd HA.out (by simp[spec_ckSum.l0])
  | succ k1=>
   have H:=HA.out
   clear HA
   simp only[spec_ckSum.l0]at H
   by_cases c2:x8_1<(l0.length:Int)
   ·rw[if_pos c2]at H
    have c2b0:decide (x8_1<(l0.length:Int))=true:=decide_eq_true c2
    clear c2
    by_cases c3:0≤x8_1
    ·rw[if_pos c3]at H
     have c3b0:decide (0≤x8_1)=true:=decide_eq_true c3
     clear c3
     by_cases c4:x8_1<(l0.length:Int)
     ·rw[if_pos c4]at H
      have c4b0:decide (x8_1<(l0.length:Int))=true:=decide_eq_true c4
      clear c4
      obtain⟨t426,A5,H⟩:=bo_ H
      try dsimp only at H
      have H':=am_ H
      clear H
      have p424:0≤(x8_1:Int):=of_decide_eq_true (a8_)
      have q424:x8_1<(l0.length:Int):=of_decide_eq_true (a8_)
      obtain⟨ad424,e424,hx424_0,hx424_1,hx424_2⟩:=at_T42 HR0.out x8_1 p424 q424
      cases e424
      replace hx424_0:=(HB.out.cell (World.block_lt_of_cell? w _ hx424_0)).trans hx424_0
      replace hx424_1:=(HB.out.cell (World.block_lt_of_cell? w _ hx424_1)).trans hx424_1
      replace hx424_2:=(HB.out.cell (World.block_lt_of_cell? w _ hx424_2)).trans hx424_2
      replace p424:=eq_true p424
      replace q424:=eq_true q424
      go_wp2_with (first|((with_reducible refine gate_dst (N:=5) rfl ?_);refine box_event ?hg (N:=5) ?hd (cs:= #[.int .i64 0, .int .i64 0, .int .i64 0]) (t:=42) ?hr ?_;(case hd=>rfl);(case hg=>rfl);(case hr=>exact hr_);intro gb425 hg w6 hbox hb;have BK425:=am_ (hbox);have GW425:=am_ ((by rw[hg];exact(below_size (a0_)):w.heap.size≤gb425));have GE425:=am_ ((by rw[hg];exact(below_size (a0_)):w.heap.size≤gb425));replace HB:=am_ (below_step (a0_) hb);clear hb hbox hg;have hcz7_0:w6.cell? ⟨gb425,0,none⟩=some (.int .i64 0):=(blk_cell BK425.out 0).trans rfl;have hcz7_1:w6.cell? ⟨gb425,1,none⟩=some (.int .i64 0):=(blk_cell BK425.out 1).trans rfl;have hcz7_2:w6.cell? ⟨gb425,2,none⟩=some (.int .i64 0):=(blk_cell BK425.out 2).trans rfl;have hfz7_0:=blk_frozen BK425.out 0;have hfz7_1:=blk_frozen BK425.out 1;have hfz7_2:=blk_frozen BK425.out 2)|((with_reducible refine gate_callee (f:=74) rfl ?_);refine goesL_ (some 14) rfl rfl Try.func74 (by kernel_rfl) rfl #[.int .i64 x3_1, .agg #[.int .i64 ((rd_T42 l0 x8_1).f0), .int .i64 ((rd_T42 l0 x8_1).f1), .int .i64 ((rd_T42 l0 x8_1).f2)]] rfl gd_ ?_;(with_reducible refine(spec_ckExtend.calls x3_1 ((rd_T42 l0 x8_1).f0) ((rd_T42 l0 x8_1).f1) ((rd_T42 l0 x8_1).f2) t426 _ A5.out).mono ?_);rintro e w8 ⟨rfl,hb⟩;refine⟨_,rfl,?_⟩;replace BK425:=am_ (blk_below (g:=gb425) (o:= .cells #[.int .i64 ((rd_T42 l0 x8_1).f0), .int .i64 ((rd_T42 l0 x8_1).f1), .int .i64 ((rd_T42 l0 x8_1).f2)] 42 (0,0)) ((a32_ BK425.out)) hb);replace HB:=am_ (below_step ((a2_ GE425.out)) hb);(try clear hb);(try clear hb2);(try clear hk);(try clear hi)))
      go_roundg k1
      case measure=>have:=HK1.out;omega
      case rel=>exact⟨(t426),(wrap64 (x8_1+1)),(by first | rfl|(simp;done)|(simp[*];done)),(by first | rfl|(simp;done)|(simp[*];done)),H',⟨by have:=HK1.out;omega⟩,⟨(a2_ GE425.out)⟩⟩
     ·rw[if_neg c4]at H
      exact absurd H (by simp)
    ·rw[if_neg c3]at H
     exact absurd H (by simp)
   ·rw[if_neg c2]at H
    have c2b0:decide (x8_1<(l0.length:Int))=false:=decide_eq_false c2
    clear c2
    obtain rfl:=Option.some.inj H
    go_wp2
    go_ret
    exact⟨a9_,a0_⟩

end Go.Proofs.Ytplpjmhmochcfaa.QFnCopies
