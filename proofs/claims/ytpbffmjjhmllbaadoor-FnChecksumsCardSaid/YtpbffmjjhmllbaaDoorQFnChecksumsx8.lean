/- Written by a program of this session (the kit's printer, with leaf contracts proved by hand put in): what each Go function computes, and that the call computes it. No condition but those that each theorem names. -/
import Derived.Test.YtpbffmjjhmllbaaDoorQFnChecksumsx0
import Derived.Test.YtpbffmjjhmllbaaDoorQFnChecksumsx3
import Derived.Test.YtpbffmjjhmllbaaDoorQFnChecksumsx7
namespace Go.Proofs.YtpbffmjjhmllbaaDoor.QFnChecksums
open Go.RowKit Go.Proofs.YtpbffmjjhmllbaaDoorW.PrintWords Go.Proofs.YtpbffmjjhmllbaaDoorW.PrintLast Go.Proofs.YtpbffmjjhmllbaaDoorW.PrintMore
attribute [local go_sem] max2_int min2_int max_two min_two max_three min_three max_four min_four   -- for this text's walks alone
set_option linter.unusedVariables false
set_option linter.unusedSimpArgs false

/-! ### impl_holeNumber: function 47 -/
def impl_holeNumber.f (a0_0:Int) (a0_1:Int) (a0_2:Int):Option (Int):=some (wrap64 ((wrap64 ((wrap64 (a0_0*4004001))+(wrap64 (a0_1*2001))))+a0_2))
set_option maxHeartbeats 8000000 in
set_option maxRecDepth 100000 in
theorem impl_holeNumber.calls (a0_0:Int) (a0_1:Int) (a0_2:Int) (r:Int) (w:World) (h:impl_holeNumber.f a0_0 a0_1 a0_2=some r) :
 Calls Tryd.prog 47 #[.agg #[.int .i64 a0_0, .int .i64 a0_1, .int .i64 a0_2]] w fun e w'=>e = .returned (.int .i64 r)∧Below w.heap.size w w':=by
 have hu33:=Tryd.underlying33
 have HB:=am_ (Below.refl w.heap.size w)
 have H:(some (wrap64 ((wrap64 ((wrap64 (a0_0*4004001))+(wrap64 (a0_1*2001))))+a0_2)))=some r:=h
 clear h
 obtain rfl:=Option.some.inj H
 go_enter Tryd.func47,Tryd.ntmps47
 go_wp2_with (first|((with_reducible refine gate_dst (N:=1) rfl ?_);refine box_event ?hg (N:=1) ?hd (cs:= #[.int .i64 a0_0, .int .i64 a0_1, .int .i64 a0_2]) (t:=33) ?hr ?_;(case hd=>rfl);(case hg=>rfl);(case hr=>exact hr_);intro gb328 hg w2 hbox hb;have BK328:=am_ (hbox);have GW328:=am_ ((by rw[hg];exact(below_size (a0_)):w.heap.size≤gb328));have GE328:=am_ ((by rw[hg];exact(below_size (a0_)):w.heap.size≤gb328));replace HB:=am_ (below_step (a0_) hb);clear hb hbox hg;have hcz3_0:w2.cell? ⟨gb328,0,none⟩=some (.int .i64 a0_0):=(blk_cell BK328.out 0).trans rfl;have hcz3_1:w2.cell? ⟨gb328,1,none⟩=some (.int .i64 a0_1):=(blk_cell BK328.out 1).trans rfl;have hcz3_2:w2.cell? ⟨gb328,2,none⟩=some (.int .i64 a0_2):=(blk_cell BK328.out 2).trans rfl;have hfz3_0:=blk_frozen BK328.out 0;have hfz3_1:=blk_frozen BK328.out 1;have hfz3_2:=blk_frozen BK328.out 2))
 go_ret
 exact⟨a8_,(a3_ GE328.out)⟩

/-! ### impl_extendChecksum: function 43 -/
def impl_extendChecksum.f (a0:Int) (a1_0:Int) (a1_1:Int) (a1_2:Int):Option (Int):=(impl_holeNumber.f a1_0 a1_1 a1_2).bind fun t330=>(some (Int.tmod (wrap64 ((wrap64 (31*a0))+t330)) 1000003))
set_option maxHeartbeats 8000000 in
set_option maxRecDepth 100000 in
theorem impl_extendChecksum.calls (a0:Int) (a1_0:Int) (a1_1:Int) (a1_2:Int) (r:Int) (w:World) (h:impl_extendChecksum.f a0 a1_0 a1_1 a1_2=some r) :
 Calls Tryd.prog 43 #[.int .i64 a0, .agg #[.int .i64 a1_0, .int .i64 a1_1, .int .i64 a1_2]] w fun e w'=>e = .returned (.int .i64 r)∧Below w.heap.size w w':=by
 have hu33:=Tryd.underlying33
 have HB:=am_ (Below.refl w.heap.size w)
 have H:((impl_holeNumber.f a1_0 a1_1 a1_2).bind fun t330=>(some (Int.tmod (wrap64 ((wrap64 (31*a0))+t330)) 1000003)))=some r:=h
 clear h
 obtain⟨t330,A3,H⟩:=bo_ H
 try dsimp only at H
 obtain rfl:=Option.some.inj H
 go_enter Tryd.func43,Tryd.ntmps43
 go_wp2_with (first|((with_reducible refine gate_dst (N:=3) rfl ?_);refine box_event ?hg (N:=3) ?hd (cs:= #[.int .i64 a1_0, .int .i64 a1_1, .int .i64 a1_2]) (t:=33) ?hr ?_;(case hd=>rfl);(case hg=>rfl);(case hr=>exact hr_);intro gb329 hg w4 hbox hb;have BK329:=am_ (hbox);have GW329:=am_ ((by rw[hg];exact(below_size (a0_)):w.heap.size≤gb329));have GE329:=am_ ((by rw[hg];exact(below_size (a0_)):w.heap.size≤gb329));replace HB:=am_ (below_step (a0_) hb);clear hb hbox hg;have hcz5_0:w4.cell? ⟨gb329,0,none⟩=some (.int .i64 a1_0):=(blk_cell BK329.out 0).trans rfl;have hcz5_1:w4.cell? ⟨gb329,1,none⟩=some (.int .i64 a1_1):=(blk_cell BK329.out 1).trans rfl;have hcz5_2:w4.cell? ⟨gb329,2,none⟩=some (.int .i64 a1_2):=(blk_cell BK329.out 2).trans rfl;have hfz5_0:=blk_frozen BK329.out 0;have hfz5_1:=blk_frozen BK329.out 1;have hfz5_2:=blk_frozen BK329.out 2)|((with_reducible refine gate_callee (f:=47) rfl ?_);refine goesL_ (some 8) rfl rfl Tryd.func47 (by kernel_rfl) rfl #[.agg #[.int .i64 a1_0, .int .i64 a1_1, .int .i64 a1_2]] rfl gd_ ?_;(with_reducible refine(impl_holeNumber.calls a1_0 a1_1 a1_2 t330 _ A3.out).mono ?_);rintro e w6 ⟨rfl,hb⟩;refine⟨_,rfl,?_⟩;replace BK329:=am_ (blk_below (g:=gb329) (o:= .cells #[.int .i64 a1_0, .int .i64 a1_1, .int .i64 a1_2] 33 (0,0)) ((a5_ BK329.out)) hb);replace HB:=am_ (below_step ((a3_ GE329.out)) hb);(try clear hb);(try clear hb2);(try clear hk);(try clear hi)))
 go_ret
 exact⟨a8_,(a3_ GE329.out)⟩

/-! ### impl_checksumOf: function 35 -/
def impl_checksumOf.l0:Nat→Int→List (S33)→Int→Int→Option (Int)
 | 0,_,_,_,_=>none
 | k+1,x3,x6,x7,x8=>if x8<x7 then(if 0≤x8 then(if x8<(x6.length:Int) then((impl_extendChecksum.f x3 ((rd_T33 x6 x8).f0) ((rd_T33 x6 x8).f1) ((rd_T33 x6 x8).f2)).bind fun t333=>(impl_checksumOf.l0 k t333 x6 x7 (wrap64 (x8+1)))) else(none)) else(none)) else(some x3)
def impl_checksumOf.f (k:Nat) (l0:List (S33)):Option (Int):=impl_checksumOf.l0 k 1 l0 (l0.length:Int) 0
theorem impl_checksumOf.mono_l:∀k,(∀y0 y1 y2 y3,LeO (impl_checksumOf.l0 k y0 y1 y2 y3) (impl_checksumOf.l0 (k+1) y0 y1 y2 y3))
 | 0=>fun _ _ _ _ r h=>by simp[impl_checksumOf.l0]at h
 | k+1=>by
  have ih0:=impl_checksumOf.mono_l k
  intros
  unfold impl_checksumOf.l0
  rotate_left
  all_goals repeat' first|(with_reducible first|exact ih0 _ _ _ _|exact LeO.refl _|exact LeO.none _|refine LeO.ite ?_ ?_|refine LeO.bind ?_ (fun _=>?_))|exact ih0 _ _ _ _|exact LeO.none _|refine LeO.ite ?_ ?_|refine LeO.bind ?_ (fun _=>?_)
theorem impl_checksumOf.mono:∀a0 k,LeO (impl_checksumOf.f k a0) (impl_checksumOf.f (k+1) a0):=by
 intro a0 k
 have ih0:=impl_checksumOf.mono_l k
 unfold impl_checksumOf.f
 repeat' first
  |(with_reducible exact ih0 _ _ _ _)
  |(with_reducible exact LeO.refl _)
  |(with_reducible exact LeO.none _)
  |(with_reducible refine LeO.ite ?_ ?_)
  |(with_reducible refine LeO.bind ?_ (fun _=>?_))
  |exact ih0 _ _ _ _
  |exact LeO.none _
   | refine LeO.ite ?_ ?_
   | refine LeO.bind ?_ (fun _=>?_)
set_option maxHeartbeats 8000000 in
set_option maxRecDepth 100000 in
theorem impl_checksumOf.calls (k:Nat) (A0:Option Addr) (c0:Nat) (l0:List (S33)) (r:Int) (w:World) (hr0:Kd.C k33 w A0 l0.length l0) (hc0:l0.length≤c0) (h:impl_checksumOf.f k l0=some r) :
 Calls Tryd.prog 35 #[.slice A0 l0.length c0] w fun e w'=>e = .returned (.int .i64 r)∧Below w.heap.size w w':=by
 have hu33:=Tryd.underlying33
 have HR0:=am_ hr0
 have HC0:=am_ hc0
 clear hr0 hc0
 have HB:=am_ (Below.refl w.heap.size w)
 have H:(impl_checksumOf.l0 k 1 l0 (l0.length:Int) 0)=some r:=h
 clear h
 have H':=am_ H
 clear H
 go_enter Tryd.func35,Tryd.ntmps35
 go_wp2
 (try simp only[Act.put,List.setIfInBounds_toArray,List.set_cons_zero,List.set_cons_succ])
 go_loopg [3,8] k (fun kq v3 v8 w'=>∃(x3_1:Int) (x8_1:Int),v3 = .int .i64 x3_1∧v8 = .int .i64 x8_1∧Aside0 (impl_checksumOf.l0 kq x3_1 l0 (l0.length:Int) x8_1=some r)∧Aside0 (kq≤k)∧Aside0 (Below w.heap.size w w'))
 case atStart=>exact⟨(1),(0),(by first | rfl|(simp;done)|(simp[*];done)),(by first | rfl|(simp;done)|(simp[*];done)),H',⟨Nat.le_refl _⟩,⟨a0_⟩⟩
 case round=>
  clear H'
  obtain⟨x3_1,x8_1,rfl,rfl,HA,HK1,HB⟩:=hrel
  cases gk with
  | zero=>exact absurd HA.out (by simp[impl_checksumOf.l0])
  | succ k1=>
   have H:=HA.out
   clear HA
   simp only[impl_checksumOf.l0]at H
   by_cases c2:x8_1<(l0.length:Int)
   ·rw[if_pos c2]at H
    have c2b0:decide (x8_1<(l0.length:Int))=true:=decide_eq_true c2
    clear c2
    by_cases c3:0≤x8_1
    ·rw[if_pos c3]at H
     have c3b0:decide (0≤x8_1)=true:=decide_eq_true c3
     clear c3
     by_cases c4:x8_1<(l0.length:Int)
     ·rw[if_pos c4]at H
      have c4b0:decide (x8_1<(l0.length:Int))=true:=decide_eq_true c4
      clear c4
      obtain⟨t333,A5,H⟩:=bo_ H
      try dsimp only at H
      have H':=am_ H
      clear H
      have p331:0≤(x8_1:Int):=of_decide_eq_true (a10_)
      have q331:x8_1<(l0.length:Int):=of_decide_eq_true (a10_)
      obtain⟨ad331,e331,hx331_0,hx331_1,hx331_2⟩:=at_T33 HR0.out x8_1 p331 q331
      cases e331
      replace hx331_0:=(HB.out.cell (World.block_lt_of_cell? w _ hx331_0)).trans hx331_0
      replace hx331_1:=(HB.out.cell (World.block_lt_of_cell? w _ hx331_1)).trans hx331_1
      replace hx331_2:=(HB.out.cell (World.block_lt_of_cell? w _ hx331_2)).trans hx331_2
      replace p331:=eq_true p331
      replace q331:=eq_true q331
      go_wp2_with (first|((with_reducible refine gate_dst (N:=5) rfl ?_);refine box_event ?hg (N:=5) ?hd (cs:= #[.int .i64 0, .int .i64 0, .int .i64 0]) (t:=33) ?hr ?_;(case hd=>rfl);(case hg=>rfl);(case hr=>exact hr_);intro gb332 hg w6 hbox hb;have BK332:=am_ (hbox);have GW332:=am_ ((by rw[hg];exact(below_size (a0_)):w.heap.size≤gb332));have GE332:=am_ ((by rw[hg];exact(below_size (a0_)):w.heap.size≤gb332));replace HB:=am_ (below_step (a0_) hb);clear hb hbox hg;have hcz7_0:w6.cell? ⟨gb332,0,none⟩=some (.int .i64 0):=(blk_cell BK332.out 0).trans rfl;have hcz7_1:w6.cell? ⟨gb332,1,none⟩=some (.int .i64 0):=(blk_cell BK332.out 1).trans rfl;have hcz7_2:w6.cell? ⟨gb332,2,none⟩=some (.int .i64 0):=(blk_cell BK332.out 2).trans rfl;have hfz7_0:=blk_frozen BK332.out 0;have hfz7_1:=blk_frozen BK332.out 1;have hfz7_2:=blk_frozen BK332.out 2)|((with_reducible refine gate_callee (f:=43) rfl ?_);refine goesL_ (some 14) rfl rfl Tryd.func43 (by kernel_rfl) rfl #[.int .i64 x3_1, .agg #[.int .i64 ((rd_T33 l0 x8_1).f0), .int .i64 ((rd_T33 l0 x8_1).f1), .int .i64 ((rd_T33 l0 x8_1).f2)]] rfl gd_ ?_;(with_reducible refine(impl_extendChecksum.calls x3_1 ((rd_T33 l0 x8_1).f0) ((rd_T33 l0 x8_1).f1) ((rd_T33 l0 x8_1).f2) t333 _ A5.out).mono ?_);rintro e w8 ⟨rfl,hb⟩;refine⟨_,rfl,?_⟩;replace BK332:=am_ (blk_below (g:=gb332) (o:= .cells #[.int .i64 ((rd_T33 l0 x8_1).f0), .int .i64 ((rd_T33 l0 x8_1).f1), .int .i64 ((rd_T33 l0 x8_1).f2)] 33 (0,0)) ((a33_ BK332.out)) hb);replace HB:=am_ (below_step ((a3_ GE332.out)) hb);(try clear hb);(try clear hb2);(try clear hk);(try clear hi)))
      go_roundg k1
      case measure=>have:=HK1.out;omega
      case rel=>exact⟨(t333),(wrap64 (x8_1+1)),(by first | rfl|(simp;done)|(simp[*];done)),(by first | rfl|(simp;done)|(simp[*];done)),H',⟨by have:=HK1.out;omega⟩,⟨(a3_ GE332.out)⟩⟩
     ·rw[if_neg c4]at H
      exact absurd H (by simp)
    ·rw[if_neg c3]at H
     exact absurd H (by simp)
   ·rw[if_neg c2]at H
    have c2b0:decide (x8_1<(l0.length:Int))=false:=decide_eq_false c2
    clear c2
    obtain rfl:=Option.some.inj H
    go_wp2
    go_ret
    exact⟨a8_,a0_⟩

/-! ### impl_ChecksumOf: function 7 -/
def impl_ChecksumOf.f (k:Nat) (l0:List (S33)):Option (Int×Bool):=(impl_IsSheet.f k l0).bind fun t334=>(if t334=true then((impl_checksumOf.f k l0).bind fun t335=>(some (t335,true))) else(some (0,false)))
theorem impl_ChecksumOf.mono:∀a0 k,LeO (impl_ChecksumOf.f k a0) (impl_ChecksumOf.f (k+1) a0):=by
 intro a0 k
 unfold impl_ChecksumOf.f
 repeat' first
  |(with_reducible exact impl_IsSheet.mono _ _)
  |(with_reducible exact impl_checksumOf.mono _ _)
  |(with_reducible exact LeO.refl _)
  |(with_reducible exact LeO.none _)
  |(with_reducible refine LeO.ite ?_ ?_)
  |(with_reducible refine LeO.bind ?_ (fun _=>?_))
  |exact impl_IsSheet.mono _ _
  |exact impl_checksumOf.mono _ _
  |exact LeO.none _
   | refine LeO.ite ?_ ?_
   | refine LeO.bind ?_ (fun _=>?_)
set_option maxHeartbeats 8000000 in
set_option maxRecDepth 100000 in
theorem impl_ChecksumOf.calls (k:Nat) (A0:Option Addr) (c0:Nat) (l0:List (S33)) (r1:Int) (r2:Bool) (w:World) (hr0:Kd.C k33 w A0 l0.length l0) (hc0:l0.length≤c0) (h:impl_ChecksumOf.f k l0=some (r1,r2)) :
 Calls Tryd.prog 7 #[.slice A0 l0.length c0] w fun e w'=>e = .returned (.tuple #[.int .i64 r1, .bool r2])∧Below w.heap.size w w':=by
 have HR0:=am_ hr0
 have HC0:=am_ hc0
 clear hr0 hc0
 have HB:=am_ (Below.refl w.heap.size w)
 have H:((impl_IsSheet.f k l0).bind fun t334=>(if t334=true then((impl_checksumOf.f k l0).bind fun t335=>(some (t335,true))) else(some (0,false))))=some (r1,r2):=h
 clear h
 obtain⟨t334,A2,H⟩:=bo_ H
 try dsimp only at H
 by_cases c3:t334=true
 ·subst c3
  replace H:((impl_checksumOf.f k l0).bind fun t335=>(some (t335,true)))=some (r1,r2):=by rw[if_pos rfl]at H;exact H
  obtain⟨t335,A4,H⟩:=bo_ H
  try dsimp only at H
  simp only[Option.some.injEq,Prod.mk.injEq]at H
  obtain⟨rfl,rfl⟩:=H
  go_enter Tryd.func7,Tryd.ntmps7
  go_wp2_with (first|((with_reducible refine gate_callee (f:=34) rfl ?_);refine goesL_ (some 5) rfl rfl Tryd.func34 (by kernel_rfl) rfl #[.slice A0 l0.length c0] rfl gd_ ?_;(with_reducible refine(impl_IsSheet.calls k _ _ l0 true _ ?side1 ?side2 A2.out).mono ?_);(case side1=>exact(a28_ HR0.out));(case side2=>exact HC0.out);rintro e w5 ⟨rfl,hb⟩;refine⟨_,rfl,?_⟩;replace HB:=am_ (below_step (a0_) hb);(try clear hb);(try clear hb2);(try clear hk);(try clear hi))|((with_reducible refine gate_callee (f:=35) rfl ?_);refine goesL_ (some 8) rfl rfl Tryd.func35 (by kernel_rfl) rfl #[.slice A0 l0.length c0] rfl gd_ ?_;(with_reducible refine(impl_checksumOf.calls k _ _ l0 t335 _ ?side1 ?side2 A4.out).mono ?_);(case side1=>exact(a21_ HR0.out));(case side2=>exact HC0.out);rintro e w6 ⟨rfl,hb⟩;refine⟨_,rfl,?_⟩;replace HB:=am_ (below_step (a0_) hb);(try clear hb);(try clear hb2);(try clear hk);(try clear hi)))
  go_ret2
  exact⟨a8_,a0_⟩
 ·replace c3:=Bool.eq_false_iff.mpr c3
  subst c3
  replace H:(some (0,false))=some (r1,r2):=by rw[if_neg (show ¬(false=true) by decide)]at H;exact H
  simp only[Option.some.injEq,Prod.mk.injEq]at H
  obtain⟨rfl,rfl⟩:=H
  go_enter Tryd.func7,Tryd.ntmps7
  go_wp2_with (first|((with_reducible refine gate_callee (f:=34) rfl ?_);refine goesL_ (some 5) rfl rfl Tryd.func34 (by kernel_rfl) rfl #[.slice A0 l0.length c0] rfl gd_ ?_;(with_reducible refine(impl_IsSheet.calls k _ _ l0 false _ ?side1 ?side2 A2.out).mono ?_);(case side1=>exact(a28_ HR0.out));(case side2=>exact HC0.out);rintro e w7 ⟨rfl,hb⟩;refine⟨_,rfl,?_⟩;replace HB:=am_ (below_step (a0_) hb);(try clear hb);(try clear hb2);(try clear hk);(try clear hi)))
  go_ret2
  exact⟨a8_,a0_⟩

/-! ### spec_ckNumber: function 48 -/
def spec_ckNumber.f (a0_0:Int) (a0_1:Int) (a0_2:Int):Option (Int):=some (wrap64 ((wrap64 ((wrap64 (4004001*a0_0))+(wrap64 (2001*a0_1))))+a0_2))
set_option maxHeartbeats 8000000 in
set_option maxRecDepth 100000 in
theorem spec_ckNumber.calls (a0_0:Int) (a0_1:Int) (a0_2:Int) (r:Int) (w:World) (h:spec_ckNumber.f a0_0 a0_1 a0_2=some r) :
 Calls Tryd.prog 48 #[.agg #[.int .i64 a0_0, .int .i64 a0_1, .int .i64 a0_2]] w fun e w'=>e = .returned (.int .i64 r)∧Below w.heap.size w w':=by
 have hu33:=Tryd.underlying33
 have HB:=am_ (Below.refl w.heap.size w)
 have H:(some (wrap64 ((wrap64 ((wrap64 (4004001*a0_0))+(wrap64 (2001*a0_1))))+a0_2)))=some r:=h
 clear h
 obtain rfl:=Option.some.inj H
 go_enter Tryd.func48,Tryd.ntmps48
 go_wp2_with (first|((with_reducible refine gate_dst (N:=1) rfl ?_);refine box_event ?hg (N:=1) ?hd (cs:= #[.int .i64 a0_0, .int .i64 a0_1, .int .i64 a0_2]) (t:=33) ?hr ?_;(case hd=>rfl);(case hg=>rfl);(case hr=>exact hr_);intro gb336 hg w2 hbox hb;have BK336:=am_ (hbox);have GW336:=am_ ((by rw[hg];exact(below_size (a0_)):w.heap.size≤gb336));have GE336:=am_ ((by rw[hg];exact(below_size (a0_)):w.heap.size≤gb336));replace HB:=am_ (below_step (a0_) hb);clear hb hbox hg;have hcz3_0:w2.cell? ⟨gb336,0,none⟩=some (.int .i64 a0_0):=(blk_cell BK336.out 0).trans rfl;have hcz3_1:w2.cell? ⟨gb336,1,none⟩=some (.int .i64 a0_1):=(blk_cell BK336.out 1).trans rfl;have hcz3_2:w2.cell? ⟨gb336,2,none⟩=some (.int .i64 a0_2):=(blk_cell BK336.out 2).trans rfl;have hfz3_0:=blk_frozen BK336.out 0;have hfz3_1:=blk_frozen BK336.out 1;have hfz3_2:=blk_frozen BK336.out 2))
 go_ret
 exact⟨a8_,(a3_ GE336.out)⟩

/-! ### spec_ckExtend: function 46 -/
def spec_ckExtend.f (a0:Int) (a1_0:Int) (a1_1:Int) (a1_2:Int):Option (Int):=(spec_ckNumber.f a1_0 a1_1 a1_2).bind fun t338=>(some (Int.tmod (wrap64 ((wrap64 (31*a0))+t338)) 1000003))
set_option maxHeartbeats 8000000 in
set_option maxRecDepth 100000 in
theorem spec_ckExtend.calls (a0:Int) (a1_0:Int) (a1_1:Int) (a1_2:Int) (r:Int) (w:World) (h:spec_ckExtend.f a0 a1_0 a1_1 a1_2=some r) :
 Calls Tryd.prog 46 #[.int .i64 a0, .agg #[.int .i64 a1_0, .int .i64 a1_1, .int .i64 a1_2]] w fun e w'=>e = .returned (.int .i64 r)∧Below w.heap.size w w':=by
 have hu33:=Tryd.underlying33
 have HB:=am_ (Below.refl w.heap.size w)
 have H:((spec_ckNumber.f a1_0 a1_1 a1_2).bind fun t338=>(some (Int.tmod (wrap64 ((wrap64 (31*a0))+t338)) 1000003)))=some r:=h
 clear h
 obtain⟨t338,A3,H⟩:=bo_ H
 try dsimp only at H
 obtain rfl:=Option.some.inj H
 go_enter Tryd.func46,Tryd.ntmps46
 go_wp2_with (first|((with_reducible refine gate_dst (N:=3) rfl ?_);refine box_event ?hg (N:=3) ?hd (cs:= #[.int .i64 a1_0, .int .i64 a1_1, .int .i64 a1_2]) (t:=33) ?hr ?_;(case hd=>rfl);(case hg=>rfl);(case hr=>exact hr_);intro gb337 hg w4 hbox hb;have BK337:=am_ (hbox);have GW337:=am_ ((by rw[hg];exact(below_size (a0_)):w.heap.size≤gb337));have GE337:=am_ ((by rw[hg];exact(below_size (a0_)):w.heap.size≤gb337));replace HB:=am_ (below_step (a0_) hb);clear hb hbox hg;have hcz5_0:w4.cell? ⟨gb337,0,none⟩=some (.int .i64 a1_0):=(blk_cell BK337.out 0).trans rfl;have hcz5_1:w4.cell? ⟨gb337,1,none⟩=some (.int .i64 a1_1):=(blk_cell BK337.out 1).trans rfl;have hcz5_2:w4.cell? ⟨gb337,2,none⟩=some (.int .i64 a1_2):=(blk_cell BK337.out 2).trans rfl;have hfz5_0:=blk_frozen BK337.out 0;have hfz5_1:=blk_frozen BK337.out 1;have hfz5_2:=blk_frozen BK337.out 2)|((with_reducible refine gate_callee (f:=48) rfl ?_);refine goesL_ (some 8) rfl rfl Tryd.func48 (by kernel_rfl) rfl #[.agg #[.int .i64 a1_0, .int .i64 a1_1, .int .i64 a1_2]] rfl gd_ ?_;(with_reducible refine(spec_ckNumber.calls a1_0 a1_1 a1_2 t338 _ A3.out).mono ?_);rintro e w6 ⟨rfl,hb⟩;refine⟨_,rfl,?_⟩;replace BK337:=am_ (blk_below (g:=gb337) (o:= .cells #[.int .i64 a1_0, .int .i64 a1_1, .int .i64 a1_2] 33 (0,0)) ((a5_ BK337.out)) hb);replace HB:=am_ (below_step ((a3_ GE337.out)) hb);(try clear hb);(try clear hb2);(try clear hk);(try clear hi)))
 go_ret
 exact⟨a8_,(a3_ GE337.out)⟩

/-! ### spec_ckSum: function 37 -/
def spec_ckSum.l0:Nat→Int→List (S33)→Int→Int→Option (Int)
 | 0,_,_,_,_=>none
 | k+1,x3,x6,x7,x8=>if x8<x7 then(if 0≤x8 then(if x8<(x6.length:Int) then((spec_ckExtend.f x3 ((rd_T33 x6 x8).f0) ((rd_T33 x6 x8).f1) ((rd_T33 x6 x8).f2)).bind fun t341=>(spec_ckSum.l0 k t341 x6 x7 (wrap64 (x8+1)))) else(none)) else(none)) else(some x3)
def spec_ckSum.f (k:Nat) (l0:List (S33)):Option (Int):=spec_ckSum.l0 k 1 l0 (l0.length:Int) 0
theorem spec_ckSum.mono_l:∀k,(∀y0 y1 y2 y3,LeO (spec_ckSum.l0 k y0 y1 y2 y3) (spec_ckSum.l0 (k+1) y0 y1 y2 y3))
 | 0=>fun _ _ _ _ r h=>by simp[spec_ckSum.l0]at h
 | k+1=>by
  have ih0:=spec_ckSum.mono_l k
  intros
  unfold spec_ckSum.l0
  rotate_left
  all_goals repeat' first|(with_reducible first|exact ih0 _ _ _ _|exact LeO.refl _|exact LeO.none _|refine LeO.ite ?_ ?_|refine LeO.bind ?_ (fun _=>?_))|exact ih0 _ _ _ _|exact LeO.none _|refine LeO.ite ?_ ?_|refine LeO.bind ?_ (fun _=>?_)
theorem spec_ckSum.mono:∀a0 k,LeO (spec_ckSum.f k a0) (spec_ckSum.f (k+1) a0):=by
 intro a0 k
 have ih0:=spec_ckSum.mono_l k
 unfold spec_ckSum.f
 repeat' first
  |(with_reducible exact ih0 _ _ _ _)
  |(with_reducible exact LeO.refl _)
  |(with_reducible exact LeO.none _)
  |(with_reducible refine LeO.ite ?_ ?_)
  |(with_reducible refine LeO.bind ?_ (fun _=>?_))
  |exact ih0 _ _ _ _
  |exact LeO.none _
   | refine LeO.ite ?_ ?_
   | refine LeO.bind ?_ (fun _=>?_)
set_option maxHeartbeats 8000000 in
set_option maxRecDepth 100000 in
theorem spec_ckSum.calls (k:Nat) (A0:Option Addr) (c0:Nat) (l0:List (S33)) (r:Int) (w:World) (hr0:Kd.C k33 w A0 l0.length l0) (hc0:l0.length≤c0) (h:spec_ckSum.f k l0=some r) :
 Calls Tryd.prog 37 #[.slice A0 l0.length c0] w fun e w'=>e = .returned (.int .i64 r)∧Below w.heap.size w w':=by
 have hu33:=Tryd.underlying33
 have HR0:=am_ hr0
 have HC0:=am_ hc0
 clear hr0 hc0
 have HB:=am_ (Below.refl w.heap.size w)
 have H:(spec_ckSum.l0 k 1 l0 (l0.length:Int) 0)=some r:=h
 clear h
 have H':=am_ H
 clear H
 go_enter Tryd.func37,Tryd.ntmps37
 go_wp2
 (try simp only[Act.put,List.setIfInBounds_toArray,List.set_cons_zero,List.set_cons_succ])
 go_loopg [3,8] k (fun kq v3 v8 w'=>∃(x3_1:Int) (x8_1:Int),v3 = .int .i64 x3_1∧v8 = .int .i64 x8_1∧Aside0 (spec_ckSum.l0 kq x3_1 l0 (l0.length:Int) x8_1=some r)∧Aside0 (kq≤k)∧Aside0 (Below w.heap.size w w'))
 case atStart=>exact⟨(1),(0),(by first | rfl|(simp;done)|(simp[*];done)),(by first | rfl|(simp;done)|(simp[*];done)),H',⟨Nat.le_refl _⟩,⟨a0_⟩⟩
 case round=>
  clear H'
  obtain⟨x3_1,x8_1,rfl,rfl,HA,HK1,HB⟩:=hrel
  cases gk with
  | zero=>exact absurd HA.out (by simp[spec_ckSum.l0])
  | succ k1=>
   have H:=HA.out
   clear HA
   simp only[spec_ckSum.l0]at H
   by_cases c2:x8_1<(l0.length:Int)
   ·rw[if_pos c2]at H
    have c2b0:decide (x8_1<(l0.length:Int))=true:=decide_eq_true c2
    clear c2
    by_cases c3:0≤x8_1
    ·rw[if_pos c3]at H
     have c3b0:decide (0≤x8_1)=true:=decide_eq_true c3
     clear c3
     by_cases c4:x8_1<(l0.length:Int)
     ·rw[if_pos c4]at H
      have c4b0:decide (x8_1<(l0.length:Int))=true:=decide_eq_true c4
      clear c4
      obtain⟨t341,A5,H⟩:=bo_ H
      try dsimp only at H
      have H':=am_ H
      clear H
      have p339:0≤(x8_1:Int):=of_decide_eq_true (a10_)
      have q339:x8_1<(l0.length:Int):=of_decide_eq_true (a10_)
      obtain⟨ad339,e339,hx339_0,hx339_1,hx339_2⟩:=at_T33 HR0.out x8_1 p339 q339
      cases e339
      replace hx339_0:=(HB.out.cell (World.block_lt_of_cell? w _ hx339_0)).trans hx339_0
      replace hx339_1:=(HB.out.cell (World.block_lt_of_cell? w _ hx339_1)).trans hx339_1
      replace hx339_2:=(HB.out.cell (World.block_lt_of_cell? w _ hx339_2)).trans hx339_2
      replace p339:=eq_true p339
      replace q339:=eq_true q339
      go_wp2_with (first|((with_reducible refine gate_dst (N:=5) rfl ?_);refine box_event ?hg (N:=5) ?hd (cs:= #[.int .i64 0, .int .i64 0, .int .i64 0]) (t:=33) ?hr ?_;(case hd=>rfl);(case hg=>rfl);(case hr=>exact hr_);intro gb340 hg w6 hbox hb;have BK340:=am_ (hbox);have GW340:=am_ ((by rw[hg];exact(below_size (a0_)):w.heap.size≤gb340));have GE340:=am_ ((by rw[hg];exact(below_size (a0_)):w.heap.size≤gb340));replace HB:=am_ (below_step (a0_) hb);clear hb hbox hg;have hcz7_0:w6.cell? ⟨gb340,0,none⟩=some (.int .i64 0):=(blk_cell BK340.out 0).trans rfl;have hcz7_1:w6.cell? ⟨gb340,1,none⟩=some (.int .i64 0):=(blk_cell BK340.out 1).trans rfl;have hcz7_2:w6.cell? ⟨gb340,2,none⟩=some (.int .i64 0):=(blk_cell BK340.out 2).trans rfl;have hfz7_0:=blk_frozen BK340.out 0;have hfz7_1:=blk_frozen BK340.out 1;have hfz7_2:=blk_frozen BK340.out 2)|((with_reducible refine gate_callee (f:=46) rfl ?_);refine goesL_ (some 14) rfl rfl Tryd.func46 (by kernel_rfl) rfl #[.int .i64 x3_1, .agg #[.int .i64 ((rd_T33 l0 x8_1).f0), .int .i64 ((rd_T33 l0 x8_1).f1), .int .i64 ((rd_T33 l0 x8_1).f2)]] rfl gd_ ?_;(with_reducible refine(spec_ckExtend.calls x3_1 ((rd_T33 l0 x8_1).f0) ((rd_T33 l0 x8_1).f1) ((rd_T33 l0 x8_1).f2) t341 _ A5.out).mono ?_);rintro e w8 ⟨rfl,hb⟩;refine⟨_,rfl,?_⟩;replace BK340:=am_ (blk_below (g:=gb340) (o:= .cells #[.int .i64 ((rd_T33 l0 x8_1).f0), .int .i64 ((rd_T33 l0 x8_1).f1), .int .i64 ((rd_T33 l0 x8_1).f2)] 33 (0,0)) ((a33_ BK340.out)) hb);replace HB:=am_ (below_step ((a3_ GE340.out)) hb);(try clear hb);(try clear hb2);(try clear hk);(try clear hi)))
      go_roundg k1
      case measure=>have:=HK1.out;omega
      case rel=>exact⟨(t341),(wrap64 (x8_1+1)),(by first | rfl|(simp;done)|(simp[*];done)),(by first | rfl|(simp;done)|(simp[*];done)),H',⟨by have:=HK1.out;omega⟩,⟨(a3_ GE340.out)⟩⟩
     ·rw[if_neg c4]at H
      exact absurd H (by simp)
    ·rw[if_neg c3]at H
     exact absurd H (by simp)
   ·rw[if_neg c2]at H
    have c2b0:decide (x8_1<(l0.length:Int))=false:=decide_eq_false c2
    clear c2
    obtain rfl:=Option.some.inj H
    go_wp2
    go_ret
    exact⟨a8_,a0_⟩

/-! ### spec_ChecksumOf: function 8 -/
def spec_ChecksumOf.f (k:Nat) (l0:List (S33)):Option (Int×Bool):=(spec_shGood.f k l0).bind fun t342=>(if t342=true then((spec_ckSum.f k l0).bind fun t343=>(some (t343,true))) else(some (0,false)))
theorem spec_ChecksumOf.mono:∀a0 k,LeO (spec_ChecksumOf.f k a0) (spec_ChecksumOf.f (k+1) a0):=by
 intro a0 k
 unfold spec_ChecksumOf.f
 repeat' first
  |(with_reducible exact spec_ckSum.mono _ _)
  |(with_reducible exact spec_shGood.mono _ _)
  |(with_reducible exact LeO.refl _)
  |(with_reducible exact LeO.none _)
  |(with_reducible refine LeO.ite ?_ ?_)
  |(with_reducible refine LeO.bind ?_ (fun _=>?_))
  |exact spec_ckSum.mono _ _
  |exact spec_shGood.mono _ _
  |exact LeO.none _
   | refine LeO.ite ?_ ?_
   | refine LeO.bind ?_ (fun _=>?_)
set_option maxHeartbeats 8000000 in
set_option maxRecDepth 100000 in
theorem spec_ChecksumOf.calls (k:Nat) (A0:Option Addr) (c0:Nat) (l0:List (S33)) (r1:Int) (r2:Bool) (w:World) (hr0:Kd.C k33 w A0 l0.length l0) (hc0:l0.length≤c0) (h:spec_ChecksumOf.f k l0=some (r1,r2)) :
 Calls Tryd.prog 8 #[.slice A0 l0.length c0] w fun e w'=>e = .returned (.tuple #[.int .i64 r1, .bool r2])∧Below w.heap.size w w':=by
 have HR0:=am_ hr0
 have HC0:=am_ hc0
 clear hr0 hc0
 have HB:=am_ (Below.refl w.heap.size w)
 have H:((spec_shGood.f k l0).bind fun t342=>(if t342=true then((spec_ckSum.f k l0).bind fun t343=>(some (t343,true))) else(some (0,false))))=some (r1,r2):=h
 clear h
 obtain⟨t342,A2,H⟩:=bo_ H
 try dsimp only at H
 by_cases c3:t342=true
 ·subst c3
  replace H:((spec_ckSum.f k l0).bind fun t343=>(some (t343,true)))=some (r1,r2):=by rw[if_pos rfl]at H;exact H
  obtain⟨t343,A4,H⟩:=bo_ H
  try dsimp only at H
  simp only[Option.some.injEq,Prod.mk.injEq]at H
  obtain⟨rfl,rfl⟩:=H
  go_enter Tryd.func8,Tryd.ntmps8
  go_wp2_with (first|((with_reducible refine gate_callee (f:=36) rfl ?_);refine goesL_ (some 5) rfl rfl Tryd.func36 (by kernel_rfl) rfl #[.slice A0 l0.length c0] rfl gd_ ?_;(with_reducible refine(spec_shGood.calls k _ _ l0 true _ ?side1 ?side2 A2.out).mono ?_);(case side1=>exact(a28_ HR0.out));(case side2=>exact HC0.out);rintro e w5 ⟨rfl,hb⟩;refine⟨_,rfl,?_⟩;replace HB:=am_ (below_step (a0_) hb);(try clear hb);(try clear hb2);(try clear hk);(try clear hi))|((with_reducible refine gate_callee (f:=37) rfl ?_);refine goesL_ (some 8) rfl rfl Tryd.func37 (by kernel_rfl) rfl #[.slice A0 l0.length c0] rfl gd_ ?_;(with_reducible refine(spec_ckSum.calls k _ _ l0 t343 _ ?side1 ?side2 A4.out).mono ?_);(case side1=>exact(a21_ HR0.out));(case side2=>exact HC0.out);rintro e w6 ⟨rfl,hb⟩;refine⟨_,rfl,?_⟩;replace HB:=am_ (below_step (a0_) hb);(try clear hb);(try clear hb2);(try clear hk);(try clear hi)))
  go_ret2
  exact⟨a8_,a0_⟩
 ·replace c3:=Bool.eq_false_iff.mpr c3
  subst c3
  replace H:(some (0,false))=some (r1,r2):=by rw[if_neg (show ¬(false=true) by decide)]at H;exact H
  simp only[Option.some.injEq,Prod.mk.injEq]at H
  obtain⟨rfl,rfl⟩:=H
  go_enter Tryd.func8,Tryd.ntmps8
  go_wp2_with (first|((with_reducible refine gate_callee (f:=36) rfl ?_);refine goesL_ (some 5) rfl rfl Tryd.func36 (by kernel_rfl) rfl #[.slice A0 l0.length c0] rfl gd_ ?_;(with_reducible refine(spec_shGood.calls k _ _ l0 false _ ?side1 ?side2 A2.out).mono ?_);(case side1=>exact(a28_ HR0.out));(case side2=>exact HC0.out);rintro e w7 ⟨rfl,hb⟩;refine⟨_,rfl,?_⟩;replace HB:=am_ (below_step (a0_) hb);(try clear hb);(try clear hb2);(try clear hk);(try clear hi)))
  go_ret2
  exact⟨a8_,a0_⟩

-- NOT PRINTED: function 75 (impl_Hole_75)

-- NOT PRINTED: function 38 (impl_Hole_38)

/-! ### impl_Hole_39: function 39 (by hand: a copy of a slice) -/
def impl_Hole_39.f (l0:List S33):Option (List S33):=if l0.length<1000000000 then some l0 else none
theorem impl_Hole_39.info:(Tryd.prog.info? 33).map (fun i=>(i.zero,i.size,i.bytes))=some (some (.agg #[(.int .i64 0),(.int .i64 0),(.int .i64 0)]),3,24):=by kernel_rfl
set_option maxHeartbeats 8000000 in
set_option maxRecDepth 100000 in
theorem impl_Hole_39.calls (A0:Option Addr) (c0:Nat) (l0:List S33) (r:List S33) (w:World) (hr0:Kd.C k33 w A0 l0.length l0) (hc0:l0.length≤c0) (h:impl_Hole_39.f l0=some r) :
 Calls Tryd.prog 39 #[.slice A0 l0.length c0] w fun e w'=>∃v0_:Value,e = .returned (v0_)∧Kd.R k33 33 w' w.heap.size (fun _=>True) v0_ r∧Below w.heap.size w w':=by
 unfold impl_Hole_39.f at h
 by_cases hlen:l0.length<1000000000
 ·rw[if_pos hlen]at h
  obtain rfl:=Option.some.inj h
  clear h
  cases A0 with
  | none=>
   have hz:l0 = []:=by
    rcases Nat.eq_zero_or_pos l0.length with h0 | h0
    ·exact List.eq_nil_of_length_eq_zero h0
    ·obtain⟨ad,e,_⟩:=hr0.2.2 h0
     cases e
   subst hz
   have hq:∀W:World,(binOp .eql 24 (.slice none 0 c0) (.slice none 0 0)).run Tryd.prog W = .ok (.bool true) W:=fun W=>Go.run_eql_slice_nil W 24 33 none 0 c0 Tryd.underlying24
   clear hr0 hc0 hlen
   go_enter Tryd.func39,Tryd.ntmps39
   go_wp2
   go_ret
   exact⟨_,rfl,Kd.R_nil _ _ _ _ _,Below.refl _ _⟩
  | some ad=>
   have hq:∀W:World,(binOp .eql 24 (.slice (some ad) l0.length c0) (.slice none 0 0)).run Tryd.prog W = .ok (.bool false) W:=fun W=>Go.run_eql_slice_nil W 24 33 (some ad) l0.length c0 Tryd.underlying24
   have HR0:=am_ hr0
   have HC0:=am_ hc0
   have HL:=am_ hlen
   clear hr0 hc0 hlen
   have HB:=am_ (Below.refl w.heap.size w)
   go_enter Tryd.func39,Tryd.ntmps39
   go_wp2_with (first|((with_reducible refine gate_dst (N:=5) rfl ?_);refine Kd.R_lit k33 _ 33 ?hg (N:=5) ?hd (xs:=([]:List S33)) (inner:=[]) (ok:=fun _=>True) (okp:=fun _=>True) ?hr ?hp (fun _ hk=>hk) trivial (Below.refl _ _) (Nat.le_refl _) (by simp) ?_;(case hd=>rfl);(case hg=>rfl);(case hr=>exact hr_);(case hp=>exact(Reps.none _ _));intro v112 w3 ho4 hb hg_ hnew_;clear hg_ hnew_;have HO113:=am_ (Kd.R_lower ho4 (below_size (a0_)));replace HB:=am_ (below_step (a0_) hb);clear hb ho4)|((with_reducible refine gate_builtin (b:= .append) (xs:= #[.tmp 5, .tmp 6]) rfl ?_);at_builtin;refine Kd.R_append_rows k33 (w0:=w) w.heap.size rfl (.tmp 5) (.tmp 6) 24 33 (.agg #[(.int .i64 0),(.int .i64 0),(.int .i64 0)]) 24 rfl Tryd.underlying24 impl_Hole_39.info rfl (by decide) (by omega) v112 [] l0 _ _ _ (fun _=>True) (fun _=>False) rfl rfl ?aO ?aR (fun _ _ h=>h) (fun _ h=>h.elim) ?aF ?aB ?aS ?aL ?_;(case aR=>exact(a21_ HR0.out));(case aB=>exact(a0_));(case aF=>exact(fun _ _=>trivial));(case aO=>exact((a1_ HO113.out)));(case aS=>exact(below_size (a0_)));(case aL=>have:=HL.out;simp only[List.length_nil];omega);intro v115 w5 ho hb hg hat;have n0_:=am_ (hb);have n1_:=am_ (ho);clear HB HO113;have HB:=n0_;have HO116:=n1_;clear n0_ n1_ ho hb hg hat))
   go_ret
   refine⟨_,rfl,?_,a0_⟩
   have HX:=HO116.out
   rw[List.nil_append]at HX
   exact(by(with_reducible repeat (first|apply Kd.R_alloc|apply Kd.R_drewN|apply Kd.R_drew));exact HX)
 ·rw[if_neg hlen]at h
  exact absurd h (by simp)


/-! ### impl_TrackChecksums: function 9 (by hand: for each track the holes of that track, by a closure that holds the track) -/
/-- What the closure tells of a hole: is it taken out. -/
def impl_TrackChecksums.out (t:Int) (x:S33):Bool:=x.f0 != t
theorem impl_TrackChecksums.step (l:List S33) (kk:Nat) (h:kk<l.length):l.drop kk=rd_T33 l (kk:Int) :: l.drop (kk+1):=by
 rw[List.drop_eq_getElem_cons h]
 congr 1
 simp[rd_T33,List.getD_eq_getElem?_getD,List.getElem?_eq_getElem h]
set_option maxHeartbeats 8000000 in
set_option maxRecDepth 100000 in
theorem impl_TrackChecksums.clo (B:Nat) (t:Int) (x:S33) (b:Bool) (W:World) (hB:B<W.heap.size) (hc:W.cell? ⟨B,0,none⟩=some (.int .i64 t)) (hb:impl_TrackChecksums.out t x=b) :
 Calls Tryd.prog 40 #[.agg #[.int .i64 x.f0, .int .i64 x.f1, .int .i64 x.f2], .pointer (some ⟨B,0,none⟩)] W fun e w'=>e = .returned (.bool b)∧Below W.heap.size W w':=by
 have hc2:∀o:Obj,(W.alloc o).cell? ⟨B,0,none⟩=some (.int .i64 t):=fun o=>(World.cell?_alloc_lt _ _ _ hB).trans hc
 go_enter Tryd.func40,Tryd.ntmps40
 go_wp2
 go_ret
 exact⟨by rw[← hb];rfl,by repeat (first|(with_reducible first|exact Below.refl _ _|apply below_alloc|apply pw_below_drewN|apply below_drew1)|exact Below.refl _ _)⟩
def impl_TrackChecksums.at (p:S33→Bool):Int→List S33→Int
 | _, []=> -1
 | i,x :: l=>if p x=true then i else impl_TrackChecksums.at p (i+1) l
theorem impl_TrackChecksums.at_spec (p:S33→Bool) (l:List S33):∀i:Int,(impl_TrackChecksums.at p i l = -1∧l.filter (fun x=> !p x)=l)∨∃pre x suf,l=pre ++ x :: suf∧impl_TrackChecksums.at p i l=i+pre.length∧pre.filter (fun x=> !p x)=pre∧p x=true:=by
 induction l with
 | nil=>intro i;exact .inl ⟨rfl,rfl⟩
 | cons x l ih=>
  intro i
  by_cases c:p x=true
  ·exact .inr ⟨[],x,l,rfl,by simp[impl_TrackChecksums.at,c],rfl,c⟩
  ·rcases ih (i+1) with ⟨h1,h2⟩ | ⟨pre,y,suf,h1,h2,h3,h4⟩
   ·exact .inl ⟨by rw[impl_TrackChecksums.at,if_neg c,h1],by rw[List.filter_cons_of_pos (by simpa using c),h2]⟩
   ·exact .inr ⟨x :: pre,y,suf,by rw[h1];rfl,by rw[impl_TrackChecksums.at,if_neg c,h2,List.length_cons];omega,by rw[List.filter_cons_of_pos (by simpa using c),h3],h4⟩
set_option maxHeartbeats 8000000 in
set_option maxRecDepth 100000 in
theorem impl_TrackChecksums.first(A0:Option Addr) (c0:Nat) (l0:List S33) (B:Nat) (t:Int) (w:World) (hB:B<w.heap.size) (hcB:w.cell? ⟨B,0,none⟩=some (.int .i64 t)) (hr0:Kd.C k33 w A0 l0.length l0) :
 Calls Tryd.prog 75 #[.slice A0 l0.length c0, .func (.func 40) #[] #[.pointer (some ⟨B,0,none⟩)]] w fun e w'=>e = .returned (.int .i64 (impl_TrackChecksums.at (impl_TrackChecksums.out t) 0 l0))∧Below w.heap.size w w':=by
 have HR0:=am_ hr0
 have HCB:=am_ hcB
 clear hr0 hcB
 have hmax:=HR0.out.2.1
 have eg:=enters_of (P:=Tryd.prog) Tryd.func40 (by kernel_rfl) rfl
 go_enter Tryd.func75,Tryd.ntmps75
 go_wp2
 (try simp only[Act.put,List.setIfInBounds_toArray,List.set_cons_zero,List.set_cons_succ])
 go_loopg [5,8] l0.length (fun gg _ s8 wr=>∃kk:Nat,kk≤l0.length∧l0.length-kk≤gg∧s8 = .int .i64 kk∧Aside0 (Below w.heap.size w wr)∧Aside0 (impl_TrackChecksums.at (impl_TrackChecksums.out t) 0 l0=impl_TrackChecksums.at (impl_TrackChecksums.out t) kk (l0.drop kk)))
 case atStart=>exact⟨0,Nat.zero_le _,by omega,rfl,⟨Below.refl _ w⟩,⟨rfl⟩⟩
 case round=>
  obtain⟨kk,hkk,hg,rfl,HB,HI⟩:=hrel
  by_cases hlt:kk<l0.length
  ·have hltz:(kk:Int)<(l0.length:Int):=by omega
   obtain⟨ad,e1,hx0,hx1,hx2⟩:=at_T33 HR0.out (kk:Int) (by omega) hltz
   cases e1
   simp only[Int.toNat_natCast]at hx0 hx1 hx2
   replace hx0:=(HB.out.cell (World.block_lt_of_cell? w _ hx0)).trans hx0
   replace hx1:=(HB.out.cell (World.block_lt_of_cell? w _ hx1)).trans hx1
   replace hx2:=(HB.out.cell (World.block_lt_of_cell? w _ hx2)).trans hx2
   have hdrop:=impl_TrackChecksums.step l0 kk hlt
   have hsz:w.heap.size≤wr.heap.size:=HB.out.size
   cases hq:impl_TrackChecksums.out t (rd_T33 l0 (kk:Int)) with
   | true=>
    have hcall:=impl_TrackChecksums.clo B t (rd_T33 l0 (kk:Int)) true wr (by omega) (pw_cell_below HB.out HCB.out) hq
    have HD:Aside0 (impl_TrackChecksums.at (impl_TrackChecksums.out t) 0 l0=(kk:Int)):=⟨by rw[HI.out,hdrop];simp only[impl_TrackChecksums.at];rw[if_pos hq]⟩
    clear hq hdrop HI
    go_wp2_with (go_at_call 40;refine hcall.mono ?_;rintro e w' ⟨rfl,hb'⟩)
    go_ret
    exact⟨by rw[HD.out];rfl,below_then HB.out hsz hb'⟩
   | false=>
    have hcall:=impl_TrackChecksums.clo B t (rd_T33 l0 (kk:Int)) false wr (by omega) (pw_cell_below HB.out HCB.out) hq
    have HD:Aside0 (impl_TrackChecksums.at (impl_TrackChecksums.out t) 0 l0=impl_TrackChecksums.at (impl_TrackChecksums.out t) ((kk+1:Nat):Int) (l0.drop (kk+1))):=⟨by rw[HI.out,hdrop];simp only[impl_TrackChecksums.at];rw[if_neg (by rw[hq];decide)];simp⟩
    clear hq hdrop HI
    go_wp2_with (go_at_call 40;refine hcall.mono ?_;rintro e w' ⟨rfl,hb'⟩)
    go_roundg (l0.length-(kk+1))
    case measure=>omega
    case rel=>exact⟨kk+1,by omega,by omega,by go_num,⟨below_then HB.out hsz hb'⟩,HD⟩
  ·have hltz:¬(kk:Int)<(l0.length:Int):=by omega
   have hkl:kk=l0.length:=by omega
   have HD:Aside0 (impl_TrackChecksums.at (impl_TrackChecksums.out t) 0 l0 = -1):=⟨by rw[HI.out,hkl,List.drop_length];rfl⟩
   clear HI hkl
   go_wp2
   go_ret
   exact⟨by rw[HD.out];rfl,HB.out⟩
/-- The tail is cleared: zero cells are written, whatever they are. -/
theorem impl_TrackChecksums.clear (W:World) (g o n c:Nat) (hn:0<n) (hc:∀j,j<n*3→(W.cell? ⟨g,o+j,none⟩).isSome=true) (hf:∀j,j<n*3→W.frozen? ⟨g,o+j,none⟩=false) :
 ∃zs:List Value,zs.length=n*3∧∀ty,(Builtin.clear_ #[24] ty #[.slice (some ⟨g,o,none⟩) n c]).run Tryd.prog W = .ok (.tuple #[]) (W.setCells g o zs):=by
 have hv:∀w,(zeroValue 33).run Tryd.prog w = .ok (.agg #[(.int .i64 0),(.int .i64 0),(.int .i64 0)]) w:=by intro w;go_simp
 have hl:(Builtin.zeroCells (Value.cells (.agg #[(.int .i64 0),(.int .i64 0),(.int .i64 0)])) n).toList.length=n*3:=by simp[Builtin.zeroCells,Value.cells]
 have h1:∀v∈(Builtin.zeroCells (Value.cells (.agg #[(.int .i64 0),(.int .i64 0),(.int .i64 0)])) n).toList,v.oneCell'=true:=by
  intro v hv'
  simp only[Builtin.zeroCells,Array.toList_map,List.mem_map]at hv'
  obtain⟨i,_,rfl⟩:=hv'
  have hs:(Value.cells (.agg #[(.int .i64 0),(.int .i64 0),(.int .i64 0)])).size=3:=rfl
  rw[hs]
  rcases (show i % 3=0∨i % 3=1∨i % 3=2 by omega) with h | h | h<;>rw[h]<;>rfl
 have hst:=run_storeCells_cells (P:=Tryd.prog) g o (Builtin.zeroCells (Value.cells (.agg #[(.int .i64 0),(.int .i64 0),(.int .i64 0)])) n).toList 0 W (by simpa only[hl,Nat.add_zero] using hc) (by simpa only[hl,Nat.add_zero] using hf) h1
 simp only[Nat.add_zero]at hst
 refine⟨_,hl,fun ty=>?_⟩
 obtain⟨m,rfl⟩:∃m,n=m+1:=⟨n-1,by omega⟩
 simp[Builtin.clear_,run_underlying Tryd.underlying24,hv,hst]
/-- What stands behind the first i elements may be written over: the first i are a row still. -/
theorem impl_TrackChecksums.cut (W:World) (base g n cap i:Nat) (ys:List S33) (zs:List Value) (HO:Kd.R k33 33 W base (fun _=>True) (.slice (some ⟨g,0,none⟩) n cap) ys) (hi:i≤n) (hz:i*3+zs.length≤cap*3) :
 Kd.R k33 33 (W.setCells g (i*3) zs) base (fun _=>True) (.slice (some ⟨g,0,none⟩) i cap) (ys.take i):=by
 have hn:=(Kd.R_reads' HO).1
 obtain⟨hok,inner,hown,hr⟩:=Kd.R_take (m:=i) HO (by omega)
 have hsz:(k33).sz=3:=rfl
 have hlt:(ys.take i).length=i:=by rw[List.length_take];omega
 rcases hown.2 with ⟨hv,_⟩ | ⟨g',cap',cur,hv,hb,hh,hnc,hcm,hcs,htake⟩
 ·cases hv
 injection hv with ha _ hc
 injection ha with ha
 injection ha with hg
 subst hg;subst hc
 rw[hsz]at hcs htake
 obtain⟨cur',h3,h4,h5⟩:=setCells_row zs (i*3) W cur hh (by omega)
 have hfar:∀k',k'≠g→(W.setCells g (i*3) zs).heap[k']? = W.heap[k']? := fun k' hk'=>setCells_far zs _ k' hk'
 refine⟨hok,inner,⟨hown.1, .inr ⟨g,cap,cur',by rw[hlt],hb,h3,hnc,hcm,by rw[h4,hcs,hsz],?_⟩⟩,hr.imp_ (fun p q hp=>Kd.M_move _ (fun k' hk'=>hfar k' (fun he=>hk'.2 (by rw[he];simp[Value.ownBlock]))) hp)⟩
 rw[hsz,hlt,h5]
 rw[hlt]at htake
 rw[← htake,List.append_assoc,List.take_append_of_le_length (by rw[List.length_take,Array.length_toList];omega)]
 rw[List.take_take,Nat.min_self]
theorem impl_TrackChecksums.takeset (ys:List S33) (i:Nat) (y:S33) (h:i<ys.length):(ys.set i y).take (i+1)=ys.take i ++ [y]:=by
 obtain⟨pre,x,suf,rfl,rfl⟩:∃pre x suf,ys=pre ++ x :: suf∧pre.length=i:=⟨ys.take i,ys[i],ys.drop (i+1),by simp,by simp;omega⟩
 rw[List.set_append_right _ _ (Nat.le_refl _)]
 rw[List.take_append,List.take_of_length_le (by omega),List.take_left]
 simp
set_option maxHeartbeats 2000000 in
set_option maxRecDepth 100000 in
theorem impl_TrackChecksums.del (B:Nat) (t:Int) (w1:World) (hB:B<w1.heap.size) (hcB:w1.cell? ⟨B,0,none⟩=some (.int .i64 t)) (W:World) (v:Value) (xs:List S33)
 (hO:Kd.R k33 33 W w1.heap.size (fun _=>True) v xs) (hBW:Below w1.heap.size w1 W) :
 Calls Tryd.prog 38 #[v, .func (.func 40) #[] #[.pointer (some ⟨B,0,none⟩)]] W fun e w'=>∃v0,e = .returned v0∧Kd.R k33 33 w' w1.heap.size (fun _=>True) v0 (xs.filter fun x=> !impl_TrackChecksums.out t x)∧Below w1.heap.size w1 w':=by
 obtain⟨A0,c0,rfl,hc0,hC0⟩:=Kd.R_reads hO
 have hlt1:w1.heap.size≤W.heap.size:=hBW.size
 have HCB:=am_ hcB
 have HO:=am_ hO
 have HB:=am_ hBW
 have hmax:=hC0.2.1
 have eg:=enters_of (P:=Tryd.prog) Tryd.func40 (by kernel_rfl) rfl
 have hcall:=impl_TrackChecksums.first A0 c0 xs B t W (by omega) (pw_cell_below hBW hcB) hC0
 clear hcB hO hBW hC0
 rcases impl_TrackChecksums.at_spec (impl_TrackChecksums.out t) xs 0 with ⟨h1,h2⟩ | ⟨pre,x0,suf,h1,h2,h3,h4⟩
 ·rw[h1]at hcall
  have HF:=am_ h2
  clear h1 h2
  go_enter Tryd.func38,Tryd.ntmps38
  go_wp2_with (go_at_call 75;refine hcall.mono ?_;rintro e w' ⟨rfl,hb'⟩)
  go_ret
  exact⟨_,rfl,by rw[HF.out];exact Kd.R_below HO.out hb',below_step HB.out hb'⟩
 ·rw[h2,Int.zero_add]at hcall
  have hxl:xs.length=pre.length+(suf.length+1):=by rw[h1];simp
  have HF:=am_ h1
  have HF3:=am_ h3
  have HF4:=am_ h4
  clear h1 h2 h3 h4
  obtain⟨g,cap,eq1,hbase,hglt,hcap⟩:=Kd.R_form HO.out (by omega)
  obtain⟨rfl,rfl⟩:A0=some ⟨g,0,none⟩∧c0=cap:=by injection eq1 with e1 e2 e3;exact⟨e1,e3⟩
  clear eq1
  have HXL:=am_ hxl
  have hw1:wrap64 ((pre.length:Int)+1)=((pre.length+1:Nat):Int):=by unfold wrap64;omega
  have HW1:=am_ hw1
  clear hxl hw1
  have hne1:((pre.length:Int) == -1)=false:=beq_eq_false_iff_ne.2 (by omega)
  go_enter Tryd.func38,Tryd.ntmps38
  go_wp2_with (go_at_call 75;refine hcall.mono ?_;rintro e w2 ⟨rfl,hb'⟩;have n0_:=am_ (Kd.R_below HO.out hb');have n1_:=am_ (below_step HB.out hb');clear HO HB hb' hcall;have HO:=n0_;have HB:=n1_;clear n0_ n1_)
  (try simp only[Act.put,List.setIfInBounds_toArray,List.set_cons_zero,List.set_cons_succ])
  go_loopg [5,6,7] xs.length (fun gg s5 s6 _ wr=>∃(i j:Nat) (ys:List S33),s5 = .int .i64 i∧s6 = .int .i64 j∧i<j∧j≤xs.length∧xs.length-j≤gg∧ys.length=xs.length∧Aside0 (ys.take i=(xs.take j).filter fun x=> !impl_TrackChecksums.out t x)∧Aside0 (ys.drop j=xs.drop j)∧Aside0 (Kd.R k33 33 wr w1.heap.size (fun _=>True) (.slice (some ⟨g,0,none⟩) xs.length c0) ys)∧Aside0 (Below w1.heap.size w1 wr))
  case atStart=>have hxl:=HXL.out;exact⟨pre.length,pre.length+1,xs,rfl,by first|(rw[HW1.out];done)|(simp only[HW1.out];done) | go_num,by omega,by omega,by omega,rfl,⟨by rw[HF.out,List.take_left,List.take_append,List.take_of_length_le (by omega)];simp[HF3.out,HF4.out]⟩,⟨rfl⟩,HO,HB⟩
  case round=>
   obtain⟨i,j,ys,rfl,rfl,hij,hjn,hgg,hyl,HT,HD,HO,HB⟩:=hrel
   have hsz:w1.heap.size≤wr.heap.size:=HB.out.size
   by_cases hlt:j<xs.length
   ·have hltz:(j:Int)<(xs.length:Int):=by omega
    have hiz:(i:Int)<(xs.length:Int):=by omega
    obtain⟨ce,hcl,hM,hcc,hfr⟩:=Kd.R_elem HO.out z33 (j:Int) (by omega) (by omega)
    obtain rfl:=k33_openM hM
    have hx0:=hcc 0 _ rfl
    have hx1:=hcc 1 _ rfl
    have hx2:=hcc 2 _ rfl
    clear hcl hM hcc hfr
    simp only[Int.toNat_natCast,show(k33).sz=3 from rfl,Nat.add_zero]at hx0 hx1 hx2
    obtain⟨y,hy⟩:∃y,y=ys.getD j z33:=⟨_,rfl⟩
    rw[← hy]at hx0 hx1 hx2
    have hyx:xs.drop j=y :: xs.drop (j+1):=by
     rw[← HD.out,List.drop_eq_getElem_cons (by omega),hy]
     have e1:ys.drop (j+1)=xs.drop (j+1):=by
      have:=congrArg (List.drop 1) HD.out
      rwa [List.drop_drop,List.drop_drop]at this
     rw[e1,List.getD_eq_getElem?_getD,List.getElem?_eq_getElem (by omega)];rfl
    have hD1:ys.drop (j+1)=xs.drop (j+1):=by
     have:=congrArg (List.drop 1) HD.out
     rwa [List.drop_drop,List.drop_drop]at this
    have hT1:xs.take (j+1)=xs.take j ++ [y]:=by
     have e2:xs[j]? = some y:=by
      have:=congrArg (fun q=>q[0]?) hyx
      simpa using this
     rw[List.take_add_one,e2];rfl
    have HYX:=am_ hT1
    have HD1:=am_ hD1
    clear hy hyx hT1 hD1
    have hB3:B<wr.heap.size:=by omega
    have hw1:wrap64 ((j:Int)+1)=((j+1:Nat):Int):=by unfold wrap64;omega
    have hw2:wrap64 ((i:Int)+1)=((i+1:Nat):Int):=by unfold wrap64;omega
    have HW1:=am_ hw1
    have HW2:=am_ hw2
    clear hw1 hw2
    cases hq:impl_TrackChecksums.out t y with
    | true=>
     have HQ:=am_ hq
     clear hq
     go_wp2_with (first
      |((with_reducible refine gate_dst (N:=7) rfl ?_);refine box_event ?hg (N:=7) ?hd (cs:= #[.int .i64 0, .int .i64 0, .int .i64 0]) (t:=33) ?hr ?_;(case hd=>rfl);(case hg=>rfl);(case hr=>exact hr_);intro gb hgb w2 hbox hb;have n0_:=am_ (Kd.R_below (Kd.R_elderB HO.out gb (Nat.le_of_eq hgb.symm)) hb);have n1_:=am_ (below_step HB.out hb);have BK:=am_ hbox;have GB:=am_ (show w1.heap.size≤gb by rw[hgb];exact HB.out.size);have GW:=am_ (show B<w2.heap.size from Nat.lt_of_lt_of_le hB3 hb.size);clear HO HB;have HO:=n0_;have HB:=n1_;clear n0_ n1_ hb hbox hgb hB3 hx0 hx1 hx2;have hcz0:w2.cell? ⟨gb,0,none⟩=some (.int .i64 0):=(blk_cell BK.out 0).trans rfl;have hcz1:w2.cell? ⟨gb,1,none⟩=some (.int .i64 0):=(blk_cell BK.out 1).trans rfl;have hcz2:w2.cell? ⟨gb,2,none⟩=some (.int .i64 0):=(blk_cell BK.out 2).trans rfl;have hfz0:=blk_frozen BK.out 0;have hfz1:=blk_frozen BK.out 1;have hfz2:=blk_frozen BK.out 2)
      |((with_reducible refine gate_store (t:=33) (p:=7) rfl ?_);refine store_event (t:=33) (p:=7) (v:=?vo_w3) (w1:=(((w2.setCell ⟨gb,0,none⟩ (.int .i64 y.f0)).setCell ⟨gb,1,none⟩ (.int .i64 y.f1)).setCell ⟨gb,2,none⟩ (.int .i64 y.f2))) ?hg ?ho ?hn ?hr ?_;(case ho=>rfl);(case hg=>rfl);(case hn=>rfl);(case hr=>exact hr_);intro w3 hw;have BK3:Aside0 (w3.heap[gb]? = some (.cells #[.int .i64 y.f0, .int .i64 y.f1, .int .i64 y.f2] 33 (0,0))):=⟨by rw[hw];exact(blk_set (blk_set (blk_set BK.out 0 _) 1 _) 2 _).trans rfl⟩;have n0_:=am_ (show Kd.R k33 33 w3 w1.heap.size (fun k=>True∧k≠gb) (.slice (some ⟨g,0,none⟩) xs.length c0) ys from by rw[hw];exact Kd.R_far (Kd.R_far (Kd.R_far HO.out (p:=⟨gb,0,none⟩) (fun k hk=>hk.2) _) (p:=⟨gb,1,none⟩) (fun k hk=>hk.2) _) (p:=⟨gb,2,none⟩) (fun k hk=>hk.2) _);have n1_:=am_ (show Below w1.heap.size w1 w3 from by rw[hw];exact below_set (below_set (below_set HB.out GB.out) GB.out) GB.out);have GW3:=am_ (show B<w3.heap.size from Nat.lt_of_lt_of_le hB n1_.out.size);clear HO HB BK GW;have HO:=n0_;have HB:=n1_;clear n0_ n1_ hw hcz0 hcz1 hcz2 hfz0 hfz1 hfz2;have hv0:w3.cell? ⟨gb,0,none⟩=some (.int .i64 y.f0):=(blk_cell BK3.out 0).trans rfl;have hv1:w3.cell? ⟨gb,1,none⟩=some (.int .i64 y.f1):=(blk_cell BK3.out 1).trans rfl;have hv2:w3.cell? ⟨gb,2,none⟩=some (.int .i64 y.f2):=(blk_cell BK3.out 2).trans rfl)
      |(go_at_call 40;refine(impl_TrackChecksums.clo B t y true _ GW3.out (pw_cell_below HB.out HCB.out) HQ.out).mono ?_;rintro e w4 ⟨rfl,hb4⟩;have n0_:=am_ (Kd.R_below HO.out hb4);have n1_:=am_ (below_step HB.out hb4);clear HO HB;have HO:=n0_;have HB:=n1_;clear n0_ n1_ hb4 hv0 hv1 hv2))
     go_roundg (xs.length-(j+1))
     case measure=>omega
     case rel=>exact⟨i,j+1,ys,rfl,by first|(rw[HW1.out];done)|(simp only[HW1.out];done) | go_num,by omega,by omega,Nat.le_refl _,hyl,⟨by rw[HYX.out,List.filter_append, ← HT.out];simp[HQ.out]⟩,HD1,⟨Kd.R_mono HO.out (fun _ _=>trivial)⟩,HB⟩
    | false=>
     have HQ:=am_ hq
     clear hq
     go_wp2_with (first
      |((with_reducible refine gate_dst (N:=7) rfl ?_);refine box_event ?hg (N:=7) ?hd (cs:= #[.int .i64 0, .int .i64 0, .int .i64 0]) (t:=33) ?hr ?_;(case hd=>rfl);(case hg=>rfl);(case hr=>exact hr_);intro gb hgb w2 hbox hb;have n0_:=am_ (Kd.R_below (Kd.R_elderB HO.out gb (Nat.le_of_eq hgb.symm)) hb);have n1_:=am_ (below_step HB.out hb);have BK:=am_ hbox;have GB:=am_ (show w1.heap.size≤gb by rw[hgb];exact HB.out.size);have GW:=am_ (show B<w2.heap.size from Nat.lt_of_lt_of_le hB3 hb.size);clear HO HB;have HO:=n0_;have HB:=n1_;clear n0_ n1_ hb hbox hgb hB3 hx0 hx1 hx2;have hcz0:w2.cell? ⟨gb,0,none⟩=some (.int .i64 0):=(blk_cell BK.out 0).trans rfl;have hcz1:w2.cell? ⟨gb,1,none⟩=some (.int .i64 0):=(blk_cell BK.out 1).trans rfl;have hcz2:w2.cell? ⟨gb,2,none⟩=some (.int .i64 0):=(blk_cell BK.out 2).trans rfl;have hfz0:=blk_frozen BK.out 0;have hfz1:=blk_frozen BK.out 1;have hfz2:=blk_frozen BK.out 2)
      |((with_reducible refine gate_store (t:=33) (p:=7) rfl ?_);refine store_event (t:=33) (p:=7) (v:=?vo_w3) (w1:=(((w2.setCell ⟨gb,0,none⟩ (.int .i64 y.f0)).setCell ⟨gb,1,none⟩ (.int .i64 y.f1)).setCell ⟨gb,2,none⟩ (.int .i64 y.f2))) ?hg ?ho ?hn ?hr ?_;(case ho=>rfl);(case hg=>rfl);(case hn=>rfl);(case hr=>exact hr_);intro w3 hw;have BK3:Aside0 (w3.heap[gb]? = some (.cells #[.int .i64 y.f0, .int .i64 y.f1, .int .i64 y.f2] 33 (0,0))):=⟨by rw[hw];exact(blk_set (blk_set (blk_set BK.out 0 _) 1 _) 2 _).trans rfl⟩;have n0_:=am_ (show Kd.R k33 33 w3 w1.heap.size (fun k=>True∧k≠gb) (.slice (some ⟨g,0,none⟩) xs.length c0) ys from by rw[hw];exact Kd.R_far (Kd.R_far (Kd.R_far HO.out (p:=⟨gb,0,none⟩) (fun k hk=>hk.2) _) (p:=⟨gb,1,none⟩) (fun k hk=>hk.2) _) (p:=⟨gb,2,none⟩) (fun k hk=>hk.2) _);have n1_:=am_ (show Below w1.heap.size w1 w3 from by rw[hw];exact below_set (below_set (below_set HB.out GB.out) GB.out) GB.out);have GW3:=am_ (show B<w3.heap.size from Nat.lt_of_lt_of_le hB n1_.out.size);clear HO HB BK GW;have HO:=n0_;have HB:=n1_;clear n0_ n1_ hw hcz0 hcz1 hcz2 hfz0 hfz1 hfz2;have hv0:w3.cell? ⟨gb,0,none⟩=some (.int .i64 y.f0):=(blk_cell BK3.out 0).trans rfl;have hv1:w3.cell? ⟨gb,1,none⟩=some (.int .i64 y.f1):=(blk_cell BK3.out 1).trans rfl;have hv2:w3.cell? ⟨gb,2,none⟩=some (.int .i64 y.f2):=(blk_cell BK3.out 2).trans rfl)
      |(go_at_call 40;refine(impl_TrackChecksums.clo B t y false _ GW3.out (pw_cell_below HB.out HCB.out) HQ.out).mono ?_;rintro e w4 ⟨rfl,hb4⟩;have n0_:=am_ (Kd.R_below HO.out hb4);have n1_:=am_ (below_step HB.out hb4);clear HO HB;have HO:=n0_;have HB:=n1_;clear n0_ n1_;replace hv0:=pw_cell_below hb4 hv0;replace hv1:=pw_cell_below hb4 hv1;replace hv2:=pw_cell_below hb4 hv2;clear hb4;obtain⟨ce,hcl,hM,hcc,hfr⟩:=Kd.R_elem HO.out z33 (i:Int) (Int.natCast_nonneg i) hiz;obtain rfl:=k33_openM hM;have HP:=am_ (Kd.R_seg (Kd.R_mono HO.out (ok':=fun _=>True) (fun _ _=>trivial)) (i:Int) (Int.natCast_nonneg i) hiz (seg:=[.int .i64 y.f0, .int .i64 y.f1, .int .i64 y.f2]) (j:=0) hcl hcc (show 3≤3 from by decide) (x':=y) (okp:=fun k=>True∧k≠g) (k33_mkM _ _ _ y) (fun _ hk=>hk));have he0:=hcc 0 _ rfl;have he1:=hcc 1 _ rfl;have he2:=hcc 2 _ rfl;have hf0:=hfr 0;have hf1:=hfr 1;have hf2:=hfr 2;clear hcl hM hcc hfr;simp only[Int.toNat_natCast,show(k33).sz=3 from rfl,Nat.add_zero]at he0 he1 he2 hf0 hf1 hf2)
      |((with_reducible refine gate_store (t:=33) (p:=33) rfl ?_);refine store_event (t:=33) (p:=33) (v:=?vo_w5) (w1:=(((w4.setCell ⟨g,i*3,none⟩ (.int .i64 y.f0)).setCell ⟨g,i*3+1,none⟩ (.int .i64 y.f1)).setCell ⟨g,i*3+2,none⟩ (.int .i64 y.f2))) ?hg ?ho ?hn ?hr ?_;(case ho=>rfl);(case hg=>rfl);(case hn=>rfl);(case hr=>exact hr_);intro w5 hw;have n0_:=am_ (show Kd.R k33 33 w5 w1.heap.size (fun _=>True) (.slice (some ⟨g,0,none⟩) xs.length c0) (ys.set i y) from by rw[hw];exact HP.out.1);have n1_:=am_ (show Below w1.heap.size w1 w5 from by rw[hw];exact below_set (below_set (below_set HB.out hbase) hbase) hbase);clear HO HB HP;have HO:=n0_;have HB:=n1_;clear n0_ n1_ hw he0 he1 he2 hf0 hf1 hf2 hv0 hv1 hv2))
     go_roundg (xs.length-(j+1))
     case measure=>omega
     case rel=>exact⟨i+1,j+1,ys.set i y,by first|(rw[HW2.out];done)|(simp only[HW2.out];done) | go_num,by first|(rw[HW1.out];done)|(simp only[HW1.out];done) | go_num,by omega,by omega,Nat.le_refl _,by rw[List.length_set];exact hyl,⟨by rw[HYX.out,List.filter_append, ← HT.out,impl_TrackChecksums.takeset ys i y (by omega)];simp[HQ.out]⟩,⟨by rw[List.drop_set_of_lt (by omega)];exact HD1.out⟩,HO,HB⟩
   ·obtain rfl:j=xs.length:=by omega
    have hltz:¬(xs.length:Int)<(xs.length:Int):=by omega
    have hn0:0<xs.length-i:=by omega
    have hic:i≤c0:=by omega
    have hicz:(i:Int)≤(c0:Int):=by omega
    have hinz:(i:Int)≤(xs.length:Int):=by omega
    have hne2:¬c0=i:=by omega
    obtain⟨cur,hcur,hcs⟩:∃cur,wr.heap[g]? = some (.cells cur 33 (0,0))∧cur.size=c0*3:=by
     obtain⟨_,inner,hown,_⟩:=HO.out
     rcases hown.2 with ⟨hv,_⟩ | ⟨g',cap',cur,hv,hb,hh,hnc,hcm,hcs,htake⟩
     ·cases hv
     injection hv with ha _ hc
     injection ha with ha
     injection ha with hg
     subst hg;subst hc
     exact⟨cur,hh,hcs⟩
    obtain⟨zs,hzl,hcl⟩:=impl_TrackChecksums.clear wr g (i*3) (xs.length-i) (c0-i) hn0 (fun q hq=>by rw[blk_cell hcur,Array.getElem?_eq_getElem (by omega)];rfl) (fun q hq=>blk_frozen hcur _)
    have hz2:i*3+zs.length≤c0*3:=by omega
    have HX:=am_ (impl_TrackChecksums.cut wr w1.heap.size g xs.length c0 i ys zs HO.out (by omega) hz2)
    have HBX:Aside0 (Below w1.heap.size w1 (wr.setCells g (i*3) zs)):=⟨by
     obtain⟨s1,s2,s3,s4⟩:=setCells_same g zs (i*3) wr
     exact pw_below_grown HB.out (some g) hsz ⟨s1,s2,s3,by rw[s4];exact Nat.le_refl _,fun k _ hk=>setCells_far _ _ k (fun he=>hk (by rw[he]))⟩ (fun k hk=>by injection hk with hk;rw[← hk];exact hbase)⟩
    have HTX:Aside0 (ys.take i=xs.filter fun x=> !impl_TrackChecksums.out t x):=⟨by rw[HT.out,List.take_length]⟩
    clear HT HD hcur hcs hzl hz2
    go_wp2
    go_ret
    exact⟨_,rfl,by rw[← HTX.out];exact HX.out,HBX.out⟩
theorem impl_TrackChecksums.info:(Tryd.prog.info? 3).map (fun i=>(i.zero,i.size,i.bytes))=some (some (.int .i64 0),1,8):=by kernel_rfl
def impl_TrackChecksums.l0:Nat→List S33→List Int→Int→Option (List Int)
 | 0,_,_,_=>none
 | k+1,x0,x1,x2=>if x2<20 then((impl_checksumOf.f k (x0.filter fun x=> !impl_TrackChecksums.out x2 x)).bind fun t=>(if x1.length<17592186044416 then(impl_TrackChecksums.l0 k x0 (x1 ++ [t]) (wrap64 (x2+1))) else none)) else(some x1)
def impl_TrackChecksums.f (k:Nat) (l0:List S33):Option (List Int×Bool):=(impl_IsSheet.f k l0).bind fun t=>(if t=true then(if l0.length<1000000000 then((impl_TrackChecksums.l0 k l0 [] 0).bind fun o=>(some (o,true))) else none) else(some ([],false)))
theorem impl_TrackChecksums.mono_l:∀k,(∀y0 y1 y2,LeO (impl_TrackChecksums.l0 k y0 y1 y2) (impl_TrackChecksums.l0 (k+1) y0 y1 y2))
 | 0=>fun _ _ _ r h=>by simp[impl_TrackChecksums.l0]at h
 | k+1=>by
  have ih0:=impl_TrackChecksums.mono_l k
  intros
  unfold impl_TrackChecksums.l0
  rotate_left
  all_goals repeat' first|(with_reducible first|exact ih0 _ _ _|exact impl_checksumOf.mono _ _|exact LeO.refl _|exact LeO.none _|refine LeO.ite ?_ ?_|refine LeO.bind ?_ (fun _=>?_))
theorem impl_TrackChecksums.mono:∀a0 k,LeO (impl_TrackChecksums.f k a0) (impl_TrackChecksums.f (k+1) a0):=by
 intro a0 k
 have ih0:=impl_TrackChecksums.mono_l k
 unfold impl_TrackChecksums.f
 repeat' first
  |(with_reducible exact ih0 _ _ _)
  |(with_reducible exact impl_IsSheet.mono _ _)
  |(with_reducible exact LeO.refl _)
  |(with_reducible exact LeO.none _)
  |(with_reducible refine LeO.ite ?_ ?_)
  |(with_reducible refine LeO.bind ?_ (fun _=>?_))
set_option maxHeartbeats 8000000 in
set_option maxRecDepth 100000 in
theorem impl_TrackChecksums.calls (k:Nat) (A0:Option Addr) (c0:Nat) (l0:List S33) (r1:List Int) (r2:Bool) (w:World) (hr0:Kd.C k33 w A0 l0.length l0) (hc0:l0.length≤c0) (h:impl_TrackChecksums.f k l0=some (r1,r2)) :
 Calls Tryd.prog 9 #[.slice A0 l0.length c0] w fun e w'=>∃v0_:Value,e = .returned (.tuple #[v0_, .bool r2])∧Kd.R (Kd.int .i64) 3 w' w.heap.size (fun _=>True) v0_ r1∧Below w.heap.size w w':=by
 have HR0:=am_ hr0
 have HC0:=am_ hc0
 clear hr0 hc0
 have HB:=am_ (Below.refl w.heap.size w)
 replace h:=Option.bind_eq_some_iff.mp h
 obtain⟨t1,a1,H⟩:=h
 have A1:=am_ a1
 clear a1
 cases t1 with
 | false=>
  rw[if_neg (by decide)]at H
  simp only[Option.some.injEq,Prod.mk.injEq]at H
  obtain⟨rfl,rfl⟩:=H
  go_enter Tryd.func9,Tryd.ntmps9
  go_wp2_with (go_at_call 34;refine(impl_IsSheet.calls k A0 c0 l0 false _ HR0.out HC0.out A1.out).mono ?_;rintro e w1 ⟨rfl,hb⟩;have HB1:=am_ hb;clear hb)
  go_ret2
  exact⟨_,rfl,Kd.R_nil _ _ _ _ _,HB1.out⟩
 | true=>
  rw[if_pos rfl]at H
  by_cases hlen:l0.length<1000000000
  ·rw[if_pos hlen]at H
   have hcl:impl_Hole_39.f l0=some l0:=if_pos hlen
   have HCL:=am_ hcl
   clear hcl hlen
   replace H:=Option.bind_eq_some_iff.mp H
   obtain⟨o,a2,H⟩:=H
   simp only[Option.some.injEq,Prod.mk.injEq]at H
   obtain⟨rfl,rfl⟩:=H
   have A2:=am_ a2
   clear a2
   go_enter Tryd.func9,Tryd.ntmps9
   go_wp2_with (first
    |(go_at_call 34;refine(impl_IsSheet.calls k A0 c0 l0 true _ HR0.out HC0.out A1.out).mono ?_;rintro e w1 ⟨rfl,hb⟩;clear HB;have HB:=am_ hb;clear hb)
    |((with_reducible refine gate_dst (N:=10) rfl ?_);refine Kd.R_lit (Kd.int .i64) _ 3 ?hg (N:=10) ?hd (xs:=([]:List Int)) (inner:=[]) (ok:=fun _=>True) (okp:=fun _=>True) ?hr ?hp (fun _ hk=>hk) trivial (Below.refl _ _) (Nat.le_refl _) (by simp) ?_;(case hd=>rfl);(case hg=>rfl);(case hr=>exact hr_);(case hp=>exact(Reps.none _ _));intro v2 w2 ho3 hb hg_ hnew_;clear hg_ hnew_;have HO2:=am_ (Kd.R_lower ho3 (below_size (a0_)));replace HB:=am_ (below_step (a0_) hb);clear hb ho3))
   (try simp only[Act.put,List.setIfInBounds_toArray,List.set_cons_zero,List.set_cons_succ])
   go_loopg [4,11] k (fun kq v4 v11 w'=>∃(xo:List Int) (xi:Int),v11 = .int .i64 xi∧Aside0 (impl_TrackChecksums.l0 kq l0 xo xi=some o)∧Aside0 (kq≤k)∧Aside0 (Kd.R (Kd.int .i64) 3 w' w.heap.size (fun _=>True) v4 xo)∧Aside0 (Below w.heap.size w w'))
   case atStart=>exact⟨[],0,(by first | rfl|(simp;done)|(simp[*];done)),A2,⟨Nat.le_refl _⟩,⟨(a1_ HO2.out)⟩,⟨a0_⟩⟩
   case round=>
    clear A2
    try clear p2
    obtain⟨xo,xi,rfl,HA,HK1,HO,HB⟩:=hrel
    cases gk with
    | zero=>exact absurd HA.out (by simp[impl_TrackChecksums.l0])
    | succ k1=>
     have H:=HA.out
     clear HA
     simp only[impl_TrackChecksums.l0]at H
     by_cases c4:xi<20
     ·rw[if_pos c4]at H
      replace H:=Option.bind_eq_some_iff.mp H
      obtain⟨t3,a3,H⟩:=H
      by_cases c7:xo.length<17592186044416
      ·rw[if_pos c7]at H
       have A3:=am_ a3
       have H':=am_ H
       have LM:=am_ c7
       clear a3 H c7
       have c4b:decide (xi<20)=true:=decide_eq_true c4
       clear c4
       go_wp2_with (first
        |((with_reducible refine gate_dst (N:=5) rfl ?_);refine box_event ?hg (N:=5) ?hd (cs:= #[.int .i64 0]) (t:=3) ?hr ?_;(case hd=>rfl);(case hg=>rfl);(case hr=>exact hr_);intro gb hgb w5 hbox hb;have HB5:=am_ (below_step HB.out hb);have BK:=am_ hbox;have GB:=am_ (show w.heap.size≤gb by rw[hgb];exact HB.out.size);have HO5:=am_ (Kd.R_below (Kd.R_elderB HO.out gb (Nat.le_of_eq hgb.symm)) hb);clear HO HB hb hbox hgb;have hcz0:w5.cell? ⟨gb,0,none⟩=some (.int .i64 0):=(blk_cell BK.out 0).trans rfl;have hfz0:=blk_frozen BK.out 0)
        |(go_at_call 39;refine(impl_Hole_39.calls A0 c0 l0 l0 _ (Kd.C_below HR0.out (below_set HB5.out GB.out)) HC0.out HCL.out).mono ?_;rintro e w6 ⟨v6,rfl,ho,hb⟩;have HO6:=am_ ho;have HB6:=am_ hb;clear ho hb)
        |(go_at_call 38;refine(impl_TrackChecksums.del gb xi (w5.setCell ⟨gb,0,none⟩ (.int .i64 xi)) ?d1 ?d2 w6 v6 l0 HO6.out HB6.out).mono ?_;(case d1=>have:=blk_lt BK.out;simpa [World.setCell] using this);(case d2=>exact(blk_cell (blk_set BK.out 0 _) 0).trans rfl);rintro e w7 ⟨v7,rfl,ho,hb⟩;obtain⟨A7,c7,e7⟩:=Kd.R_slice ho;subst e7;have HO7:=am_ ho;have HB7:=am_ hb;have HO8:=am_ (Kd.R_below (Kd.R_far (p:=⟨gb,0,none⟩) HO5.out (fun _ hk=>hk.2) (.int .i64 xi)) hb);have HB8:=am_ (below_step (show Below w.heap.size w (w5.setCell ⟨gb,0,none⟩ (.int .i64 xi)) from below_set HB5.out GB.out) hb);clear ho hb)
        |(go_at_call 35;refine(impl_checksumOf.calls k1 _ _ (l0.filter fun x=> !impl_TrackChecksums.out xi x) t3 _ (Kd.R_reads' HO7.out).2.2 (Kd.R_reads' HO7.out).2.1 A3.out).mono ?_;rintro e w9 ⟨rfl,hb⟩;have HO9:=am_ (Kd.R_below HO8.out hb);have HB9:=am_ (below_step HB8.out hb);clear hb)
        |((with_reducible refine gate_builtin (b:= .append) (xs:= #[.tmp 18, .tmp 21]) rfl ?_);at_builtin;refine Kd.R_append (Kd.int .i64) (w0:=w) w.heap.size rfl (.tmp 18) (.tmp 21) 28 3 (.int .i64 0) 8 rfl Tryd.underlying28 impl_TrackChecksums.info rfl (by decide) (by omega) u4 xo t3 [.int .i64 t3] (fun _=>True) (fun _=>False) rfl (by first|(go_simp;done)|(go_simp;rfl)) ?aP (fun _ hk=>hk.elim) ?aF ?aO ?aB ?aS ?aL ?_;(case aP=>exact rfl);(case aB=>exact((a50_ HB9.out)));(case aF=>exact(fun _ _=>trivial));(case aO=>exact(by(with_reducible repeat (first|apply Kd.R_alloc|apply Kd.R_drewN|apply Kd.R_drew));exact Kd.R_mono HO9.out (fun _ _=>trivial)));(case aS=>exact(below_size ((a50_ HB9.out))));(case aL=>have:=LM.out;omega);intro v10 w10 ho hb hg hat;have HO10:=am_ ho;have HB10:=am_ hb;clear ho hb hg hat))
       go_roundg k1
       case measure=>have:=HK1.out;omega
       case rel=>exact⟨xo ++ [t3],wrap64 (xi+1),(by first | rfl|(simp;done)|(simp[*];done)),H',⟨by have:=HK1.out;omega⟩,⟨(a1_ HO10.out)⟩,⟨(a50_ HB10.out)⟩⟩
      ·rw[if_neg c7]at H
       exact absurd H (by simp)
     ·rw[if_neg c4]at H
      have c4b:decide (xi<20)=false:=decide_eq_false c4
      clear c4
      obtain rfl:=Option.some.inj H
      clear H
      go_wp2
      go_ret2
      exact⟨_,rfl,by(with_reducible repeat (first|apply Kd.R_alloc|apply Kd.R_drewN|apply Kd.R_drew));exact HO.out,a0_⟩
  ·rw[if_neg hlen]at H
   exact absurd H (by simp)


end Go.Proofs.YtpbffmjjhmllbaaDoor.QFnChecksums
