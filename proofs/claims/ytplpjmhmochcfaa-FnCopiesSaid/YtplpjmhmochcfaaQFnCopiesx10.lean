/- Written by a program of this session (the kit's printer, with leaf contracts proved by hand put in): what each Go function computes, and that the call computes it. No condition but those that each theorem names. -/
import Derived.Test.YtplpjmhmochcfaaQFnCopiesx0
import Derived.Test.YtplpjmhmochcfaaQFnCopiesx2
import Derived.Test.YtplpjmhmochcfaaQFnCopiesx3
import Derived.Test.YtplpjmhmochcfaaQFnCopiesx8
import Derived.Test.YtplpjmhmochcfaaQFnCopiesx9
namespace Go.Proofs.Ytplpjmhmochcfaa.QFnCopies
open Go.RowKit Go.Proofs.YtplpjmhmochcfaaW.PrintWords Go.Proofs.YtplpjmhmochcfaaW.PrintLast Go.Proofs.YtplpjmhmochcfaaW.PrintMore
attribute [local go_sem] max2_int min2_int max_two min_two max_three min_three max_four min_four   -- for this text's walks alone
set_option linter.unusedVariables false
set_option linter.unusedSimpArgs false

/-! ### spec_AgreeingCopies: function 12 -/
mutual
def spec_AgreeingCopies.l0:Nat→List Int→List (List (S42))→Int→Int→Option (List Int×Bool)
 | 0,_,_,_,_=>none
 | k+1,x4,x17,x18,x19=>if x19<x18 then(if 0≤x19 then(if x19<(x17.length:Int) then((spec_shGood.f k (rd_L3 x17 x19)).bind fun t429=>(if t429=true then((spec_ckSum.f k (rd_L3 x17 x19)).bind fun t430=>(if x4.length<17592186044416 then(spec_AgreeingCopies.l0 k (x4 ++ [t430]) x17 x18 (wrap64 (x19+1))) else(none))) else(some (([]:List Int),false)))) else(none)) else(none)) else(spec_AgreeingCopies.l1 k x4 ([]:List Int) x4 (x4.length:Int) 0)
def spec_AgreeingCopies.l1:Nat→List Int→List Int→List Int→Int→Int→Option (List Int×Bool)
 | 0,_,_,_,_,_=>none
 | k+1,x4,x7,x32,x33,x34=>if x34<x33 then(if 0≤x34 then(if x34<(x32.length:Int) then(spec_AgreeingCopies.l2 k x4 x7 (rd x32 x34) ([]:List Int) x32 x33 x34 x4 (x4.length:Int) 0) else(none)) else(none)) else(some (x7,true))
def spec_AgreeingCopies.l2:Nat→List Int→List Int→Int→List Int→List Int→Int→Int→List Int→Int→Int→Option (List Int×Bool)
 | 0,_,_,_,_,_,_,_,_,_,_=>none
 | k+1,x4,x7,x9,x10,x32,x33,x34,x38,x39,x40=>if x40<x39 then(if 0≤x40 then(if x40<(x38.length:Int) then(if(rd x38 x40)=x9 then(if x10.length<17592186044416 then(spec_AgreeingCopies.l2 k x4 x7 x9 (x10 ++ [x40]) x32 x33 x34 x38 x39 (wrap64 (x40+1))) else(none)) else(spec_AgreeingCopies.l2 k x4 x7 x9 x10 x32 x33 x34 x38 x39 (wrap64 (x40+1)))) else(none)) else(none)) else(if(x10.length:Int)>(x7.length:Int) then(spec_AgreeingCopies.l1 k x4 x10 x32 x33 (wrap64 (x34+1))) else(spec_AgreeingCopies.l1 k x4 x7 x32 x33 (wrap64 (x34+1))))
end
def spec_AgreeingCopies.f (k:Nat) (l0:List (List (S42))):Option (List Int×Bool):=(spec_l1In.f (l0.length:Int) 1 9).bind fun t427=>(if t427=true then(spec_AgreeingCopies.l0 k ([]:List Int) l0 (l0.length:Int) 0) else(some (([]:List Int),false)))
theorem spec_AgreeingCopies.mono_l:∀k,(∀y0 y1 y2 y3,LeO (spec_AgreeingCopies.l0 k y0 y1 y2 y3) (spec_AgreeingCopies.l0 (k+1) y0 y1 y2 y3))∧(∀y0 y1 y2 y3 y4,LeO (spec_AgreeingCopies.l1 k y0 y1 y2 y3 y4) (spec_AgreeingCopies.l1 (k+1) y0 y1 y2 y3 y4))∧(∀y0 y1 y2 y3 y4 y5 y6 y7 y8 y9,LeO (spec_AgreeingCopies.l2 k y0 y1 y2 y3 y4 y5 y6 y7 y8 y9) (spec_AgreeingCopies.l2 (k+1) y0 y1 y2 y3 y4 y5 y6 y7 y8 y9))
 | 0=>⟨fun _ _ _ _ r h=>by simp[spec_AgreeingCopies.l0]at h,fun _ _ _ _ _ r h=>by simp[spec_AgreeingCopies.l1]at h,fun _ _ _ _ _ _ _ _ _ _ r h=>by simp[spec_AgreeingCopies.l2]at h⟩
 | k+1=>by
  obtain⟨ih0,ih1,ih2⟩:=spec_AgreeingCopies.mono_l k
  refine⟨?_,?_,?_⟩
  intros
  unfold spec_AgreeingCopies.l0
  rotate_left
  intros
  unfold spec_AgreeingCopies.l1
  rotate_left
  intros
  unfold spec_AgreeingCopies.l2
  rotate_left
  all_goals repeat' first|(with_reducible first|exact ih0 _ _ _ _|exact ih1 _ _ _ _ _|exact ih2 _ _ _ _ _ _ _ _ _ _|exact spec_ckSum.mono _ _|exact spec_shGood.mono _ _|exact LeO.refl _|exact LeO.none _|refine LeO.ite ?_ ?_|refine LeO.bind ?_ (fun _=>?_))|exact ih0 _ _ _ _|exact ih1 _ _ _ _ _|exact ih2 _ _ _ _ _ _ _ _ _ _|exact spec_ckSum.mono _ _|exact spec_shGood.mono _ _|exact LeO.none _|refine LeO.ite ?_ ?_|refine LeO.bind ?_ (fun _=>?_)
theorem spec_AgreeingCopies.mono:∀a0 k,LeO (spec_AgreeingCopies.f k a0) (spec_AgreeingCopies.f (k+1) a0):=by
 intro a0 k
 obtain⟨ih0,ih1,ih2⟩:=spec_AgreeingCopies.mono_l k
 unfold spec_AgreeingCopies.f
 repeat' first
  |(with_reducible exact ih0 _ _ _ _)
  |(with_reducible exact ih1 _ _ _ _ _)
  |(with_reducible exact ih2 _ _ _ _ _ _ _ _ _ _)
  |(with_reducible exact spec_ckSum.mono _ _)
  |(with_reducible exact spec_shGood.mono _ _)
  |(with_reducible exact LeO.refl _)
  |(with_reducible exact LeO.none _)
  |(with_reducible refine LeO.ite ?_ ?_)
  |(with_reducible refine LeO.bind ?_ (fun _=>?_))
  |exact ih0 _ _ _ _
  |exact ih1 _ _ _ _ _
  |exact ih2 _ _ _ _ _ _ _ _ _ _
  |exact spec_ckSum.mono _ _
  |exact spec_shGood.mono _ _
  |exact LeO.none _
   | refine LeO.ite ?_ ?_
   | refine LeO.bind ?_ (fun _=>?_)
set_option maxHeartbeats 8000000 in
set_option maxRecDepth 100000 in
theorem spec_AgreeingCopies.calls (k:Nat) (A0:Option Addr) (c0:Nat) (l0:List (List (S42))) (r1:List Int) (r2:Bool) (w:World) (hr0:Kd.C (Kd.slice 42 k42) w A0 l0.length l0) (hc0:l0.length≤c0) (h:spec_AgreeingCopies.f k l0=some (r1,r2)) :
 Calls Try.prog 12 #[.slice A0 l0.length c0] w fun e w'=>∃v0_:Value,e = .returned (.tuple #[v0_, .bool r2])∧Kd.R (Kd.int .i64) 3 w' w.heap.size (fun _=>True) v0_ r1∧Below w.heap.size w w':=by
 have HR0:=am_ hr0
 have HC0:=am_ hc0
 clear hr0 hc0
 have HB:=am_ (Below.refl w.heap.size w)
 have H:((spec_l1In.f (l0.length:Int) 1 9).bind fun t427=>(if t427=true then(spec_AgreeingCopies.l0 k ([]:List Int) l0 (l0.length:Int) 0) else(some (([]:List Int),false))))=some (r1,r2):=h
 clear h
 obtain⟨t427,A2,H⟩:=bo_ H
 try dsimp only at H
 by_cases c3:t427=true
 ·subst c3
  replace H:(spec_AgreeingCopies.l0 k ([]:List Int) l0 (l0.length:Int) 0)=some (r1,r2):=by rw[if_pos rfl]at H;exact H
  have H':=am_ H
  clear H
  go_enter Try.func12,Try.ntmps12
  go_wp2_with (first|((with_reducible refine gate_callee (f:=61) rfl ?_);refine goesL_ (some 15) rfl rfl Try.func61 (by kernel_rfl) rfl #[.int .i64 (l0.length:Int), .int .i64 1, .int .i64 9] rfl gd_ ?_;(with_reducible refine(spec_l1In.calls (l0.length:Int) 1 9 true _ A2.out).mono ?_);rintro e w' ⟨rfl,⟨nd,rfl⟩⟩;refine⟨_,rfl,?_⟩))
  (try simp only[Act.put,List.setIfInBounds_toArray,List.set_cons_zero,List.set_cons_succ])
  go_loopg [4,19] k (fun kq v4 v19 w'=>∃(x4_1:List Int) (x19_1:Int),v19 = .int .i64 x19_1∧Aside0 (spec_AgreeingCopies.l0 kq x4_1 l0 (l0.length:Int) x19_1=some (r1,r2))∧Aside0 (kq≤k)∧Aside0 (Kd.R (Kd.int .i64) 3 w' w.heap.size (fun _=>True) v4 x4_1)∧Aside0 (Below w.heap.size w w'))
  case atStart=>exact⟨(([]:List Int)),(0),(by first | rfl|(simp;done)|(simp[*];done)),H',⟨Nat.le_refl _⟩,⟨a28_⟩,⟨a0_⟩⟩
  case round=>
   clear H'
   try clear c1
   try clear p2
   try clear c3
   obtain⟨x4_1,x19_1,rfl,HA,HK1,HO_4,HB⟩:=hrel
   cases gk with
   | zero=>exact absurd HA.out (by simp[spec_AgreeingCopies.l0])
   | succ k1=>
    have H:=HA.out
    clear HA
    simp only[spec_AgreeingCopies.l0]at H
    by_cases c4:x19_1<(l0.length:Int)
    ·rw[if_pos c4]at H
     have c4b0:decide (x19_1<(l0.length:Int))=true:=decide_eq_true c4
     clear c4
     by_cases c5:0≤x19_1
     ·rw[if_pos c5]at H
      have c5b0:decide (0≤x19_1)=true:=decide_eq_true c5
      clear c5
      by_cases c6:x19_1<(l0.length:Int)
      ·rw[if_pos c6]at H
       have c6b0:decide (x19_1<(l0.length:Int))=true:=decide_eq_true c6
       clear c6
       obtain⟨t429,A7,H⟩:=bo_ H
       try dsimp only at H
       by_cases c8:t429=true
       ·subst c8
        replace H:((spec_ckSum.f k1 (rd_L3 l0 x19_1)).bind fun t430=>(if x4_1.length<17592186044416 then(spec_AgreeingCopies.l0 k1 (x4_1 ++ [t430]) l0 (l0.length:Int) (wrap64 (x19_1+1))) else(none)))=some (r1,r2):=by rw[if_pos rfl]at H;exact H
        obtain⟨t430,A9,H⟩:=bo_ H
        try dsimp only at H
        by_cases c10:x4_1.length<17592186044416
        ·rw[if_pos c10]at H
         have LMc10:=am_ c10
         clear c10
         obtain⟨y431,hy431⟩:∃y_:List Int,y_=(x4_1 ++ [t430]):=⟨_,rfl⟩
         replace H:(spec_AgreeingCopies.l0 k1 y431 l0 (l0.length:Int) (wrap64 (x19_1+1)))=some (r1,r2):=by first|(rw[hy431];with_reducible exact H)|(have H2_:=(Option.bind_some _ _).symm.trans H;rw[hy431];with_reducible exact H2_)|(have H2_:=(Option.bind_some _ _).symm.trans H;with_reducible exact H2_) | with_reducible exact H|(rw[hy431];exact H)|exact H
         have Ny431:=am_ hy431
         clear hy431
         have H':=am_ H
         clear H
         have p428:0≤(x19_1:Int):=of_decide_eq_true (a8_)
         have q428:x19_1<(l0.length:Int):=of_decide_eq_true (a8_)
         obtain⟨ad428,A428_0,c428_0,e428,hx428_0,hl428_0,hi428_0⟩:=at_L3 HR0.out x19_1 p428 q428
         cases e428
         replace hx428_0:=(HB.out.cell (World.block_lt_of_cell? w _ hx428_0)).trans hx428_0
         have HR428_0:=am_ hi428_0
         have HC428_0:=am_ hl428_0
         clear hi428_0 hl428_0
         replace p428:=eq_true p428
         replace q428:=eq_true q428
         go_wp2_with (first|((with_reducible refine gate_callee (f:=62) rfl ?_);refine goesL_ (some 24) rfl rfl Try.func62 (by kernel_rfl) rfl #[.slice A428_0 (rd_L3 l0 x19_1).length c428_0] rfl gd_ ?_;(with_reducible refine(spec_shGood.calls k1 _ _ (rd_L3 l0 x19_1) true _ ?side1 ?side2 A7.out).mono ?_);(case side1=>exact(a13_ HR428_0.out));(case side2=>exact HC428_0.out);rintro e w11 ⟨rfl,hb⟩;refine⟨_,rfl,?_⟩;replace HO_4:=am_ (Kd.R_below ((a1_ HO_4.out)) hb);replace HB:=am_ (below_step (a0_) hb);(try clear hb);(try clear hb2);(try clear hk);(try clear hi))|((with_reducible refine gate_callee (f:=63) rfl ?_);refine goesL_ (some 28) rfl rfl Try.func63 (by kernel_rfl) rfl #[.slice A428_0 (rd_L3 l0 x19_1).length c428_0] rfl gd_ ?_;(with_reducible refine(spec_ckSum.calls k1 _ _ (rd_L3 l0 x19_1) t430 _ ?side1 ?side2 A9.out).mono ?_);(case side1=>exact(a13_ HR428_0.out));(case side2=>exact HC428_0.out);rintro e w12 ⟨rfl,hb⟩;refine⟨_,rfl,?_⟩;replace HO_4:=am_ (Kd.R_below ((a1_ HO_4.out)) hb);replace HB:=am_ (below_step (a0_) hb);(try clear hb);(try clear hb2);(try clear hk);(try clear hi))|((with_reducible refine gate_builtin (b:= .append) (xs:= #[.tmp 26, .tmp 29]) rfl ?_);at_builtin;refine Kd.R_append (Kd.int .i64) (w0:=w) w.heap.size rfl (.tmp 26) (.tmp 29) 26 3 (.int .i64 0) 8 rfl Try.underlying26 info3 rfl (by decide) (by omega) u4 x4_1 t430 [.int .i64 t430] (fun _=>True) (fun _=>False) rfl rfl ?aP (fun _ hk=>hk.elim) ?aF ?aO ?aB ?aS ?aL ?_;(case aP=>exact rfl);(case aB=>exact(a0_));(case aF=>exact(fun _ _=>trivial));(case aO=>exact((a1_ HO_4.out)));(case aS=>exact(below_size (a0_)));(case aL=>have:=LMc10.out;omega);intro v432 w13 ho hb hg hat;rw[← Ny431.out]at ho;have n0_:=am_ (hb);have n1_:=am_ (ho);clear HB HO_4;have HB:=n0_;have HO433:=n1_;clear n0_ n1_ ho hb hg hat))
         go_roundg k1
         case measure=>have:=HK1.out;omega
         case rel=>exact⟨(y431),(wrap64 (x19_1+1)),(by first | rfl|(simp;done)|(simp[*];done)),H',⟨by have:=HK1.out;omega⟩,⟨(a1_ HO433.out)⟩,⟨a0_⟩⟩
        ·rw[if_neg c10]at H
         exact absurd H (by simp)
       ·replace c8:=Bool.eq_false_iff.mpr c8
        subst c8
        replace H:(some (([]:List Int),false))=some (r1,r2):=by rw[if_neg (show ¬(false=true) by decide)]at H;exact H
        simp only[Option.some.injEq,Prod.mk.injEq]at H
        obtain⟨rfl,rfl⟩:=H
        have p428:0≤(x19_1:Int):=of_decide_eq_true (a8_)
        have q428:x19_1<(l0.length:Int):=of_decide_eq_true (a8_)
        obtain⟨ad428,A428_0,c428_0,e428,hx428_0,hl428_0,hi428_0⟩:=at_L3 HR0.out x19_1 p428 q428
        cases e428
        replace hx428_0:=(HB.out.cell (World.block_lt_of_cell? w _ hx428_0)).trans hx428_0
        have HR428_0:=am_ hi428_0
        have HC428_0:=am_ hl428_0
        clear hi428_0 hl428_0
        replace p428:=eq_true p428
        replace q428:=eq_true q428
        go_wp2_with (first|((with_reducible refine gate_callee (f:=62) rfl ?_);refine goesL_ (some 24) rfl rfl Try.func62 (by kernel_rfl) rfl #[.slice A428_0 (rd_L3 l0 x19_1).length c428_0] rfl gd_ ?_;(with_reducible refine(spec_shGood.calls k1 _ _ (rd_L3 l0 x19_1) false _ ?side1 ?side2 A7.out).mono ?_);(case side1=>exact(a13_ HR428_0.out));(case side2=>exact HC428_0.out);rintro e w14 ⟨rfl,hb⟩;refine⟨_,rfl,?_⟩;replace HO_4:=am_ (Kd.R_below ((a1_ HO_4.out)) hb);replace HB:=am_ (below_step (a0_) hb);(try clear hb);(try clear hb2);(try clear hk);(try clear hi)))
        go_ret2
        exact⟨_,a9_,a28_,a0_⟩
      ·rw[if_neg c6]at H
       exact absurd H (by simp)
     ·rw[if_neg c5]at H
      exact absurd H (by simp)
    ·rw[if_neg c4]at H
     have c4b0:decide (x19_1<(l0.length:Int))=false:=decide_eq_false c4
     clear c4
     have H':=am_ H
     clear H
     obtain⟨Ao15,co15,eo15⟩:=Kd.R_slice HO_4.out
     subst eo15
     go_wp2
     (try simp only[Act.put,List.setIfInBounds_toArray,List.set_cons_zero,List.set_cons_succ])
     go_loopg [7,34] k1 (fun kq v7 v34 w'=>∃(x7_2:List Int) (x34_2:Int),v34 = .int .i64 x34_2∧Aside0 (spec_AgreeingCopies.l1 kq x4_1 x7_2 x4_1 (x4_1.length:Int) x34_2=some (r1,r2))∧Aside0 (kq≤k1)∧Aside0 (Kd.R (Kd.int .i64) 3 w' w.heap.size (fun k_=>some k_≠(v7:Value).ownBlock) (.slice Ao15 x4_1.length co15) x4_1)∧Aside0 (Kd.R (Kd.int .i64) 3 w' w.heap.size (fun k_=>some k_≠((.slice Ao15 x4_1.length co15):Value).ownBlock∧some k_≠((.slice Ao15 x4_1.length co15):Value).ownBlock) v7 x7_2)∧Aside0 (Kd.R (Kd.int .i64) 3 w' w.heap.size (fun k_=>some k_≠(v7:Value).ownBlock) (.slice Ao15 x4_1.length co15) x4_1)∧Aside0 (Below w.heap.size w w'))
     case atStart=>exact⟨(([]:List Int)),(0),(by first | rfl|(simp;done)|(simp[*];done)),H',⟨Nat.le_refl _⟩,⟨by(with_reducible repeat (first|apply Kd.R_alloc|apply Kd.R_drewN|apply Kd.R_drew));exact Kd.R_mono HO_4.out (fun _ hk=>(by simp[Value.ownBlock]))⟩,⟨a28_⟩,⟨by(with_reducible repeat (first|apply Kd.R_alloc|apply Kd.R_drewN|apply Kd.R_drew));exact Kd.R_mono HO_4.out (fun _ hk=>(by simp[Value.ownBlock]))⟩,⟨a0_⟩⟩
     case round=>
      clear H'
      try clear c1
      try clear p2
      try clear c3
      try clear c4
      try clear c4b0
      try clear p4
      try clear q4
      try clear hx4
      try clear c5
      try clear c5b0
      try clear c6
      try clear c6b0
      try clear p6
      try clear c8
      try clear c10
      try clear c12
      try clear hx428_0
      try clear p2
      try clear p428
      try clear q428
      obtain⟨x7_2,x34_2,rfl,HA,HK2,HO_4,HO_7,HO_32,HB⟩:=hrel
      cases gk with
      | zero=>exact absurd HA.out (by simp[spec_AgreeingCopies.l1])
      | succ k2=>
       have H:=HA.out
       clear HA
       simp only[spec_AgreeingCopies.l1]at H
       by_cases c16:x34_2<(x4_1.length:Int)
       ·rw[if_pos c16]at H
        have c16b0:decide (x34_2<(x4_1.length:Int))=true:=decide_eq_true c16
        clear c16
        by_cases c17:0≤x34_2
        ·rw[if_pos c17]at H
         have c17b0:decide (0≤x34_2)=true:=decide_eq_true c17
         clear c17
         by_cases c18:x34_2<(x4_1.length:Int)
         ·rw[if_pos c18]at H
          have c18b0:decide (x34_2<(x4_1.length:Int))=true:=decide_eq_true c18
          clear c18
          have H':=am_ H
          clear H
          have p434:0≤(x34_2:Int):=of_decide_eq_true (a8_)
          have q434:x34_2<(x4_1.length:Int):=of_decide_eq_true (a8_)
          obtain⟨ad434,e434,hx434_0⟩:=Kd.at_int (Kd.R_reads' HO_32.out).2.2 x34_2 p434 q434
          cases e434
          replace p434:=eq_true p434
          replace q434:=eq_true q434
          go_wp2
          (try simp only[Act.put,List.setIfInBounds_toArray,List.set_cons_zero,List.set_cons_succ])
          go_loopg [10,40] k2 (fun kq v10 v40 w'=>∃(x10_3:List Int) (x40_3:Int),v40 = .int .i64 x40_3∧Aside0 (spec_AgreeingCopies.l2 kq x4_1 x7_2 (rd x4_1 x34_2) x10_3 x4_1 (x4_1.length:Int) x34_2 x4_1 (x4_1.length:Int) x40_3=some (r1,r2))∧Aside0 (kq≤k2)∧Aside0 (Kd.R (Kd.int .i64) 3 w' w.heap.size (fun k_=>some k_≠(u7:Value).ownBlock∧some k_≠(v10:Value).ownBlock) (.slice (some ad434) x4_1.length co15) x4_1)∧Aside0 (Kd.R (Kd.int .i64) 3 w' w.heap.size (fun k_=>some k_≠((.slice (some ad434) x4_1.length co15):Value).ownBlock∧some k_≠(v10:Value).ownBlock∧some k_≠((.slice (some ad434) x4_1.length co15):Value).ownBlock∧some k_≠((.slice (some ad434) x4_1.length co15):Value).ownBlock) u7 x7_2)∧Aside0 (Kd.R (Kd.int .i64) 3 w' w.heap.size (fun k_=>some k_≠((.slice (some ad434) x4_1.length co15):Value).ownBlock∧some k_≠(u7:Value).ownBlock∧some k_≠((.slice (some ad434) x4_1.length co15):Value).ownBlock∧some k_≠((.slice (some ad434) x4_1.length co15):Value).ownBlock) v10 x10_3)∧Aside0 (Kd.R (Kd.int .i64) 3 w' w.heap.size (fun k_=>some k_≠(u7:Value).ownBlock∧some k_≠(v10:Value).ownBlock) (.slice (some ad434) x4_1.length co15) x4_1)∧Aside0 (Kd.R (Kd.int .i64) 3 w' w.heap.size (fun k_=>some k_≠(u7:Value).ownBlock∧some k_≠(v10:Value).ownBlock) (.slice (some ad434) x4_1.length co15) x4_1)∧Aside0 (Below w.heap.size w w'))
          case atStart=>exact⟨(([]:List Int)),(0),(by first | rfl|(simp;done)|(simp[*];done)),H',⟨Nat.le_refl _⟩,⟨(a44_ HO_4.out)⟩,⟨by(with_reducible repeat (first|apply Kd.R_alloc|apply Kd.R_drewN|apply Kd.R_drew));exact Kd.R_mono HO_7.out (fun _ hk=>⟨hk.1,⟨(by simp[Value.ownBlock]),⟨hk.2,hk.1⟩⟩⟩)⟩,⟨a28_⟩,⟨(a44_ HO_32.out)⟩,⟨(a44_ HO_4.out)⟩,⟨a0_⟩⟩
          case round=>
           clear H'
           try clear c1
           try clear p2
           try clear c3
           try clear c4
           try clear c4b0
           try clear p4
           try clear q4
           try clear hx4
           try clear c5
           try clear c5b0
           try clear c6
           try clear c6b0
           try clear p6
           try clear c8
           try clear c10
           try clear c12
           try clear c16
           try clear c16b0
           try clear c17
           try clear c17b0
           try clear c18
           try clear c18b0
           try clear hx428_0
           try clear hx434_0
           try clear p2
           try clear p4
           try clear p428
           try clear p434
           try clear p6
           try clear q4
           try clear q428
           try clear q434
           obtain⟨x10_3,x40_3,rfl,HA,HK3,HO_4,HO_7,HO_10,HO_32,HO_38,HB⟩:=hrel
           cases gk with
           | zero=>exact absurd HA.out (by simp[spec_AgreeingCopies.l2])
           | succ k3=>
            have H:=HA.out
            clear HA
            simp only[spec_AgreeingCopies.l2]at H
            by_cases c19:x40_3<(x4_1.length:Int)
            ·rw[if_pos c19]at H
             have c19b0:decide (x40_3<(x4_1.length:Int))=true:=decide_eq_true c19
             clear c19
             by_cases c20:0≤x40_3
             ·rw[if_pos c20]at H
              have c20b0:decide (0≤x40_3)=true:=decide_eq_true c20
              clear c20
              by_cases c21:x40_3<(x4_1.length:Int)
              ·rw[if_pos c21]at H
               have c21b0:decide (x40_3<(x4_1.length:Int))=true:=decide_eq_true c21
               clear c21
               by_cases c22:(rd x4_1 x40_3)=(rd x4_1 x34_2)
               ·rw[if_pos c22]at H
                have c22b0:((rd x4_1 x40_3) == (rd x4_1 x34_2))=true:=beq_iff_eq.mpr c22
                have c22b1:((rd x4_1 x40_3) != (rd x4_1 x34_2))=false:=bne_eq_false_iff_eq.mpr c22
                clear c22
                by_cases c23:x10_3.length<17592186044416
                ·rw[if_pos c23]at H
                 have LMc23:=am_ c23
                 clear c23
                 obtain⟨y436,hy436⟩:∃y_:List Int,y_=(x10_3 ++ [x40_3]):=⟨_,rfl⟩
                 replace H:(spec_AgreeingCopies.l2 k3 x4_1 x7_2 (rd x4_1 x34_2) y436 x4_1 (x4_1.length:Int) x34_2 x4_1 (x4_1.length:Int) (wrap64 (x40_3+1)))=some (r1,r2):=by first|(rw[hy436];with_reducible exact H)|(have H2_:=(Option.bind_some _ _).symm.trans H;rw[hy436];with_reducible exact H2_)|(have H2_:=(Option.bind_some _ _).symm.trans H;with_reducible exact H2_) | with_reducible exact H|(rw[hy436];exact H)|exact H
                 have Ny436:=am_ hy436
                 clear hy436
                 have H':=am_ H
                 clear H
                 have p435:0≤(x40_3:Int):=of_decide_eq_true (a8_)
                 have q435:x40_3<(x4_1.length:Int):=of_decide_eq_true (a8_)
                 obtain⟨ad435,e435,hx435_0⟩:=Kd.at_int (Kd.R_reads' HO_38.out).2.2 x40_3 p435 q435
                 obtain rfl:ad434=ad435:=(by injection e435)
                 replace p435:=eq_true p435
                 replace q435:=eq_true q435
                 go_wp2_with (first|((with_reducible refine gate_builtin (b:= .append) (xs:= #[.tmp 48, .tmp 50]) rfl ?_);at_builtin;refine Kd.R_append (Kd.int .i64) (w0:=w) w.heap.size rfl (.tmp 48) (.tmp 50) 26 3 (.int .i64 0) 8 rfl Try.underlying26 info3 rfl (by decide) (by omega) u10 x10_3 x40_3 [.int .i64 x40_3] (fun k_=>some k_≠(.slice (some ad434) x4_1.length co15:Value).ownBlock∧some k_≠(u7:Value).ownBlock∧some k_≠(.slice (some ad434) x4_1.length co15:Value).ownBlock∧some k_≠(.slice (some ad434) x4_1.length co15:Value).ownBlock) (fun _=>False) rfl rfl ?aP (fun _ hk=>hk.elim) ?aF ?aO ?aB ?aS ?aL ?_;(case aP=>exact rfl);(case aB=>exact(a0_));(case aF=>exact(fun k_ hk=>⟨Kd.fresh' (Kd.R_lt ((a1_ HO_4.out))) k_ hk,Kd.fresh' (Kd.R_lt ((a1_ HO_7.out))) k_ hk,Kd.fresh' (Kd.R_lt ((a1_ HO_32.out))) k_ hk,Kd.fresh' (Kd.R_lt ((a1_ HO_38.out))) k_ hk⟩));(case aO=>exact((a1_ HO_10.out)));(case aS=>exact(below_size (a0_)));(case aL=>have:=LMc23.out;omega);intro v437 w24 ho hb hg hat;rw[← Ny436.out]at ho;have n0_:=am_ (Kd.R_after (ok:=(fun k_=>some k_≠(u7:Value).ownBlock)) ((a1_ HO_4.out)) hg hat);have n1_:=am_ (Kd.R_after (ok:=(fun k_=>some k_≠(.slice (some ad434) x4_1.length co15:Value).ownBlock∧some k_≠(.slice (some ad434) x4_1.length co15:Value).ownBlock∧some k_≠(.slice (some ad434) x4_1.length co15:Value).ownBlock)) (by(with_reducible repeat (first|apply Kd.R_alloc|apply Kd.R_drewN|apply Kd.R_drew));exact Kd.R_mono HO_7.out (fun _ hk=>⟨⟨hk.1,⟨hk.2.2.1,hk.2.2.2⟩⟩,hk.2.1⟩)) hg hat);have n2_:=am_ (Kd.R_after (ok:=(fun k_=>some k_≠(u7:Value).ownBlock)) ((a1_ HO_32.out)) hg hat);have n3_:=am_ (Kd.R_after (ok:=(fun k_=>some k_≠(u7:Value).ownBlock)) ((a1_ HO_38.out)) hg hat);have n4_:=am_ (hb);have n5_:=am_ (ho);clear HO_4 HO_7 HO_32 HO_38 HB HO_10;have HO_4:=n0_;have HO_7:=n1_;have HO_32:=n2_;have HO_38:=n3_;have HB:=n4_;have HO438:=n5_;clear n0_ n1_ n2_ n3_ n4_ n5_ ho hb hg hat))
                 go_roundg k3
                 case measure=>have:=HK1.out;have:=HK2.out;have:=HK3.out;omega
                 case rel=>exact⟨(y436),(wrap64 (x40_3+1)),(by first | rfl|(simp;done)|(simp[*];done)),H',⟨by have:=HK1.out;have:=HK2.out;have:=HK3.out;omega⟩,⟨(a1_ HO_4.out)⟩,⟨by(with_reducible repeat (first|apply Kd.R_alloc|apply Kd.R_drewN|apply Kd.R_drew));exact Kd.R_mono HO_7.out (fun _ hk=>⟨hk.1.1,⟨hk.2,⟨hk.1.2.1,hk.1.2.2⟩⟩⟩)⟩,⟨(a1_ HO438.out)⟩,⟨(a1_ HO_32.out)⟩,⟨(a1_ HO_38.out)⟩,⟨a0_⟩⟩
                ·rw[if_neg c23]at H
                 exact absurd H (by simp)
               ·rw[if_neg c22]at H
                have c22b0:((rd x4_1 x40_3) == (rd x4_1 x34_2))=false:=beq_eq_false_iff_ne.mpr c22
                have c22b1:((rd x4_1 x40_3) != (rd x4_1 x34_2))=true:=bne_iff_ne.mpr c22
                have H':=am_ H
                clear H
                have p435:0≤(x40_3:Int):=of_decide_eq_true (a8_)
                have q435:x40_3<(x4_1.length:Int):=of_decide_eq_true (a8_)
                obtain⟨ad435,e435,hx435_0⟩:=Kd.at_int (Kd.R_reads' HO_38.out).2.2 x40_3 p435 q435
                obtain rfl:ad434=ad435:=(by injection e435)
                replace p435:=eq_true p435
                replace q435:=eq_true q435
                go_wp2
                go_roundg k3
                case measure=>have:=HK1.out;have:=HK2.out;have:=HK3.out;omega
                case rel=>exact⟨(x10_3),(wrap64 (x40_3+1)),(by first | rfl|(simp;done)|(simp[*];done)),H',⟨by have:=HK1.out;have:=HK2.out;have:=HK3.out;omega⟩,⟨(a1_ HO_4.out)⟩,⟨(a1_ HO_7.out)⟩,⟨(a1_ HO_10.out)⟩,⟨(a1_ HO_32.out)⟩,⟨(a1_ HO_38.out)⟩,⟨a0_⟩⟩
              ·rw[if_neg c21]at H
               exact absurd H (by simp)
             ·rw[if_neg c20]at H
              exact absurd H (by simp)
            ·rw[if_neg c19]at H
             have c19b0:decide (x40_3<(x4_1.length:Int))=false:=decide_eq_false c19
             clear c19
             by_cases c25:(x10_3.length:Int)>(x7_2.length:Int)
             ·rw[if_pos c25]at H
              have c25b0:decide ((x7_2.length:Int)<(x10_3.length:Int))=true:=decide_eq_true c25
              have c25b1:decide (x7_2.length<x10_3.length)=true:=decide_eq_true (Int.ofNat_lt.mp c25)
              clear c25
              have H':=am_ H
              clear H
              obtain⟨Ao26,co26,eo26⟩:=Kd.R_slice HO_10.out
              subst eo26
              obtain⟨Ao27,co27,eo27⟩:=Kd.R_slice HO_7.out
              subst eo27
              go_wp2
              go_roundg k3
              case measure=>have:=HK1.out;have:=HK2.out;have:=HK3.out;omega
              case rel=>exact⟨(x10_3),(wrap64 (x34_2+1)),(by first | rfl|(simp;done)|(simp[*];done)),H',⟨by have:=HK1.out;have:=HK2.out;have:=HK3.out;omega⟩,⟨(a35_ HO_4.out)⟩,⟨by(with_reducible repeat (first|apply Kd.R_alloc|apply Kd.R_drewN|apply Kd.R_drew));exact Kd.R_mono HO_10.out (fun _ hk=>⟨hk.1,hk.2.2.1⟩)⟩,⟨(a35_ HO_32.out)⟩,⟨a0_⟩⟩
             ·rw[if_neg c25]at H
              have c25b0:decide ((x7_2.length:Int)<(x10_3.length:Int))=false:=decide_eq_false c25
              have c25b1:decide (x7_2.length<x10_3.length)=false:=decide_eq_false (fun h=>c25 (Int.ofNat_lt.mpr h))
              clear c25
              have H':=am_ H
              clear H
              obtain⟨Ao28,co28,eo28⟩:=Kd.R_slice HO_10.out
              subst eo28
              obtain⟨Ao29,co29,eo29⟩:=Kd.R_slice HO_7.out
              subst eo29
              go_wp2
              go_roundg k3
              case measure=>have:=HK1.out;have:=HK2.out;have:=HK3.out;omega
              case rel=>exact⟨(x7_2),(wrap64 (x34_2+1)),(by first | rfl|(simp;done)|(simp[*];done)),H',⟨by have:=HK1.out;have:=HK2.out;have:=HK3.out;omega⟩,⟨by(with_reducible repeat (first|apply Kd.R_alloc|apply Kd.R_drewN|apply Kd.R_drew));exact Kd.R_mono HO_4.out (fun _ hk=>hk.1)⟩,⟨by(with_reducible repeat (first|apply Kd.R_alloc|apply Kd.R_drewN|apply Kd.R_drew));exact Kd.R_mono HO_7.out (fun _ hk=>⟨hk.1,hk.2.2.1⟩)⟩,⟨by(with_reducible repeat (first|apply Kd.R_alloc|apply Kd.R_drewN|apply Kd.R_drew));exact Kd.R_mono HO_32.out (fun _ hk=>hk.1)⟩,⟨a0_⟩⟩
         ·rw[if_neg c18]at H
          exact absurd H (by simp)
        ·rw[if_neg c17]at H
         exact absurd H (by simp)
       ·rw[if_neg c16]at H
        have c16b0:decide (x34_2<(x4_1.length:Int))=false:=decide_eq_false c16
        clear c16
        simp only[Option.some.injEq,Prod.mk.injEq]at H
        obtain⟨rfl,rfl⟩:=H
        go_wp2
        go_ret2
        exact⟨_,a9_,(a27_ HO_7.out),a0_⟩
 ·replace c3:=Bool.eq_false_iff.mpr c3
  subst c3
  replace H:(some (([]:List Int),false))=some (r1,r2):=by rw[if_neg (show ¬(false=true) by decide)]at H;exact H
  simp only[Option.some.injEq,Prod.mk.injEq]at H
  obtain⟨rfl,rfl⟩:=H
  go_enter Try.func12,Try.ntmps12
  go_wp2_with (first|((with_reducible refine gate_callee (f:=61) rfl ?_);refine goesL_ (some 15) rfl rfl Try.func61 (by kernel_rfl) rfl #[.int .i64 (l0.length:Int), .int .i64 1, .int .i64 9] rfl gd_ ?_;(with_reducible refine(spec_l1In.calls (l0.length:Int) 1 9 false _ A2.out).mono ?_);rintro e w' ⟨rfl,⟨nd,rfl⟩⟩;refine⟨_,rfl,?_⟩))
  go_ret2
  exact⟨_,a9_,a28_,a0_⟩

/-! ### laws_sameInts: function 13 -/
def laws_sameInts.l0:Nat→List Int→List Int→Int→Int→Option (Bool)
 | 0,_,_,_,_=>none
 | k+1,x0,x1,x12,x13=>if x13<x12 then(if 0≤x13 then(if x13<(x0.length:Int) then(if x13<(x1.length:Int) then(if(rd x0 x13)=(rd x1 x13) then(laws_sameInts.l0 k x0 x1 x12 (wrap64 (x13+1))) else(some false)) else(none)) else(none)) else(none)) else(some true)
def laws_sameInts.f (k:Nat) (l0:List Int) (l1:List Int):Option (Bool):=if(l0.length:Int)=(l1.length:Int) then(laws_sameInts.l0 k l0 l1 (l0.length:Int) 0) else(some false)
theorem laws_sameInts.mono_l:∀k,(∀y0 y1 y2 y3,LeO (laws_sameInts.l0 k y0 y1 y2 y3) (laws_sameInts.l0 (k+1) y0 y1 y2 y3))
 | 0=>fun _ _ _ _ r h=>by simp[laws_sameInts.l0]at h
 | k+1=>by
  have ih0:=laws_sameInts.mono_l k
  intros
  unfold laws_sameInts.l0
  rotate_left
  all_goals repeat' first|(with_reducible first|exact ih0 _ _ _ _|exact LeO.refl _|exact LeO.none _|refine LeO.ite ?_ ?_|refine LeO.bind ?_ (fun _=>?_))|exact ih0 _ _ _ _|exact LeO.none _|refine LeO.ite ?_ ?_|refine LeO.bind ?_ (fun _=>?_)
theorem laws_sameInts.mono:∀a0 a1 k,LeO (laws_sameInts.f k a0 a1) (laws_sameInts.f (k+1) a0 a1):=by
 intro a0 a1 k
 have ih0:=laws_sameInts.mono_l k
 unfold laws_sameInts.f
 repeat' first
  |(with_reducible exact ih0 _ _ _ _)
  |(with_reducible exact LeO.refl _)
  |(with_reducible exact LeO.none _)
  |(with_reducible refine LeO.ite ?_ ?_)
  |(with_reducible refine LeO.bind ?_ (fun _=>?_))
  |exact ih0 _ _ _ _
  |exact LeO.none _
   | refine LeO.ite ?_ ?_
   | refine LeO.bind ?_ (fun _=>?_)
set_option maxHeartbeats 8000000 in
set_option maxRecDepth 100000 in
theorem laws_sameInts.calls (k:Nat) (A0:Option Addr) (c0:Nat) (l0:List Int) (A1:Option Addr) (c1:Nat) (l1:List Int) (r:Bool) (w:World) (hr0:Kd.C (Kd.int .i64) w A0 l0.length l0) (hc0:l0.length≤c0) (hr1:Kd.C (Kd.int .i64) w A1 l1.length l1) (hc1:l1.length≤c1) (h:laws_sameInts.f k l0 l1=some r) :
 Calls Try.prog 13 #[.slice A0 l0.length c0, .slice A1 l1.length c1] w fun e w'=>e = .returned (.bool r)∧Drawn0 w w':=by
 have HR0:=am_ hr0
 have HC0:=am_ hc0
 clear hr0 hc0
 have HR1:=am_ hr1
 have HC1:=am_ hc1
 clear hr1 hc1
 have H:(if(l0.length:Int)=(l1.length:Int) then(laws_sameInts.l0 k l0 l1 (l0.length:Int) 0) else(some false))=some r:=h
 clear h
 by_cases c3:(l0.length:Int)=(l1.length:Int)
 ·rw[if_pos c3]at H
  have c3b0:((l0.length:Int) == (l1.length:Int))=true:=beq_iff_eq.mpr c3
  have c3b1:((l0.length:Int) != (l1.length:Int))=false:=bne_eq_false_iff_eq.mpr c3
  have c3b2:(l0.length == l1.length)=true:=a49_
  clear c3
  have H':=am_ H
  clear H
  go_enter Try.func13,Try.ntmps13
  go_wp2
  repeat (go_quiet (fail);try go_wp2)
  (try simp only[Act.put,List.setIfInBounds_toArray,List.set_cons_zero,List.set_cons_succ])
  go_loopg [13] k (fun kq v13 w'=>∃(x13_1:Int),v13 = .int .i64 x13_1∧Aside0 (laws_sameInts.l0 kq l0 l1 (l0.length:Int) x13_1=some r)∧Aside0 (kq≤k)∧Drawn0 w w')
  case atStart=>exact⟨(0),(by first | rfl|(simp;done)|(simp[*];done)),H',⟨Nat.le_refl _⟩,a29_⟩
  case round=>
   clear H'
   try clear c1
   try clear p2
   try clear c3
   try clear c3b0
   try clear c3b1
   try clear c3b2
   obtain⟨x13_1,rfl,HA,HK1,⟨m1,rfl⟩⟩:=hrel
   cases gk with
   | zero=>exact absurd HA.out (by simp[laws_sameInts.l0])
   | succ k1=>
    have H:=HA.out
    clear HA
    simp only[laws_sameInts.l0]at H
    by_cases c4:x13_1<(l0.length:Int)
    ·rw[if_pos c4]at H
     have c4b0:decide (x13_1<(l0.length:Int))=true:=decide_eq_true c4
     clear c4
     by_cases c5:0≤x13_1
     ·rw[if_pos c5]at H
      have c5b0:decide (0≤x13_1)=true:=decide_eq_true c5
      clear c5
      by_cases c6:x13_1<(l0.length:Int)
      ·rw[if_pos c6]at H
       have c6b0:decide (x13_1<(l0.length:Int))=true:=decide_eq_true c6
       clear c6
       by_cases c7:x13_1<(l1.length:Int)
       ·rw[if_pos c7]at H
        have c7b0:decide (x13_1<(l1.length:Int))=true:=decide_eq_true c7
        clear c7
        by_cases c8:(rd l0 x13_1)=(rd l1 x13_1)
        ·rw[if_pos c8]at H
         have c8b0:((rd l0 x13_1) == (rd l1 x13_1))=true:=beq_iff_eq.mpr c8
         have c8b1:((rd l0 x13_1) != (rd l1 x13_1))=false:=bne_eq_false_iff_eq.mpr c8
         clear c8
         have H':=am_ H
         clear H
         have p439:0≤(x13_1:Int):=of_decide_eq_true (a8_)
         have q439:x13_1<(l0.length:Int):=of_decide_eq_true (a8_)
         obtain⟨ad439,e439,hx439_0⟩:=Kd.at_int HR0.out x13_1 p439 q439
         cases e439
         replace p439:=eq_true p439
         replace q439:=eq_true q439
         have p440:0≤(x13_1:Int):=of_decide_eq_true (a8_)
         have q440:x13_1<(l1.length:Int):=of_decide_eq_true (a8_)
         obtain⟨ad440,e440,hx440_0⟩:=Kd.at_int HR1.out x13_1 p440 q440
         cases e440
         replace p440:=eq_true p440
         replace q440:=eq_true q440
         go_wp2
         repeat (go_quiet (fail);try go_wp2)
         go_roundg k1
         case measure=>have:=HK1.out;omega
         case rel=>exact⟨(wrap64 (x13_1+1)),(by first | rfl|(simp;done)|(simp[*];done)),H',⟨by have:=HK1.out;omega⟩,a29_⟩
        ·rw[if_neg c8]at H
         have c8b0:((rd l0 x13_1) == (rd l1 x13_1))=false:=beq_eq_false_iff_ne.mpr c8
         have c8b1:((rd l0 x13_1) != (rd l1 x13_1))=true:=bne_iff_ne.mpr c8
         obtain rfl:=Option.some.inj H
         have p439:0≤(x13_1:Int):=of_decide_eq_true (a8_)
         have q439:x13_1<(l0.length:Int):=of_decide_eq_true (a8_)
         obtain⟨ad439,e439,hx439_0⟩:=Kd.at_int HR0.out x13_1 p439 q439
         cases e439
         replace p439:=eq_true p439
         replace q439:=eq_true q439
         have p440:0≤(x13_1:Int):=of_decide_eq_true (a8_)
         have q440:x13_1<(l1.length:Int):=of_decide_eq_true (a8_)
         obtain⟨ad440,e440,hx440_0⟩:=Kd.at_int HR1.out x13_1 p440 q440
         cases e440
         replace p440:=eq_true p440
         replace q440:=eq_true q440
         go_wp2
         repeat (go_quiet (fail);try go_wp2)
         go_ret
         exact⟨by first | rfl|(simp;done)|(simp[*];done),a29_⟩
       ·rw[if_neg c7]at H
        exact absurd H (by simp)
      ·rw[if_neg c6]at H
       exact absurd H (by simp)
     ·rw[if_neg c5]at H
      exact absurd H (by simp)
    ·rw[if_neg c4]at H
     have c4b0:decide (x13_1<(l0.length:Int))=false:=decide_eq_false c4
     clear c4
     obtain rfl:=Option.some.inj H
     go_wp2
     repeat (go_quiet (fail);try go_wp2)
     go_ret
     exact⟨by first | rfl|(simp;done)|(simp[*];done),a29_⟩
 ·rw[if_neg c3]at H
  have c3b0:((l0.length:Int) == (l1.length:Int))=false:=beq_eq_false_iff_ne.mpr c3
  have c3b1:((l0.length:Int) != (l1.length:Int))=true:=bne_iff_ne.mpr c3
  have c3b2:(l0.length == l1.length)=false:=a49_
  obtain rfl:=Option.some.inj H
  go_enter Try.func13,Try.ntmps13
  go_wp2
  repeat (go_quiet (fail);try go_wp2)
  go_ret
  exact⟨by first | rfl|(simp;done)|(simp[*];done),a29_⟩

/-! ### impl_ChecksumOf: function 14 -/
def impl_ChecksumOf.f (k:Nat) (l0:List (S42)):Option (Int×Bool):=(impl_IsSheet.f k l0).bind fun t441=>(if t441=true then((impl_checksumOf.f k l0).bind fun t442=>(some (t442,true))) else(some (0,false)))
theorem impl_ChecksumOf.mono:∀a0 k,LeO (impl_ChecksumOf.f k a0) (impl_ChecksumOf.f (k+1) a0):=by
 intro a0 k
 unfold impl_ChecksumOf.f
 repeat' first
  |(with_reducible exact impl_IsSheet.mono _ _)
  |(with_reducible exact impl_checksumOf.mono _ _)
  |(with_reducible exact LeO.refl _)
  |(with_reducible exact LeO.none _)
  |(with_reducible refine LeO.ite ?_ ?_)
  |(with_reducible refine LeO.bind ?_ (fun _=>?_))
  |exact impl_IsSheet.mono _ _
  |exact impl_checksumOf.mono _ _
  |exact LeO.none _
   | refine LeO.ite ?_ ?_
   | refine LeO.bind ?_ (fun _=>?_)
set_option maxHeartbeats 8000000 in
set_option maxRecDepth 100000 in
theorem impl_ChecksumOf.calls (k:Nat) (A0:Option Addr) (c0:Nat) (l0:List (S42)) (r1:Int) (r2:Bool) (w:World) (hr0:Kd.C k42 w A0 l0.length l0) (hc0:l0.length≤c0) (h:impl_ChecksumOf.f k l0=some (r1,r2)) :
 Calls Try.prog 14 #[.slice A0 l0.length c0] w fun e w'=>e = .returned (.tuple #[.int .i64 r1, .bool r2])∧Below w.heap.size w w':=by
 have HR0:=am_ hr0
 have HC0:=am_ hc0
 clear hr0 hc0
 have HB:=am_ (Below.refl w.heap.size w)
 have H:((impl_IsSheet.f k l0).bind fun t441=>(if t441=true then((impl_checksumOf.f k l0).bind fun t442=>(some (t442,true))) else(some (0,false))))=some (r1,r2):=h
 clear h
 obtain⟨t441,A2,H⟩:=bo_ H
 try dsimp only at H
 by_cases c3:t441=true
 ·subst c3
  replace H:((impl_checksumOf.f k l0).bind fun t442=>(some (t442,true)))=some (r1,r2):=by rw[if_pos rfl]at H;exact H
  obtain⟨t442,A4,H⟩:=bo_ H
  try dsimp only at H
  simp only[Option.some.injEq,Prod.mk.injEq]at H
  obtain⟨rfl,rfl⟩:=H
  go_enter Try.func14,Try.ntmps14
  go_wp2_with (first|((with_reducible refine gate_callee (f:=21) rfl ?_);refine goesL_ (some 5) rfl rfl Try.func21 (by kernel_rfl) rfl #[.slice A0 l0.length c0] rfl gd_ ?_;(with_reducible refine(impl_IsSheet.calls k _ _ l0 true _ ?side1 ?side2 A2.out).mono ?_);(case side1=>exact(a21_ HR0.out));(case side2=>exact HC0.out);rintro e w5 ⟨rfl,hb⟩;refine⟨_,rfl,?_⟩;replace HB:=am_ (below_step (a0_) hb);(try clear hb);(try clear hb2);(try clear hk);(try clear hi))|((with_reducible refine gate_callee (f:=60) rfl ?_);refine goesL_ (some 8) rfl rfl Try.func60 (by kernel_rfl) rfl #[.slice A0 l0.length c0] rfl gd_ ?_;(with_reducible refine(impl_checksumOf.calls k _ _ l0 t442 _ ?side1 ?side2 A4.out).mono ?_);(case side1=>exact(a13_ HR0.out));(case side2=>exact HC0.out);rintro e w6 ⟨rfl,hb⟩;refine⟨_,rfl,?_⟩;replace HB:=am_ (below_step (a0_) hb);(try clear hb);(try clear hb2);(try clear hk);(try clear hi)))
  go_ret2
  exact⟨a9_,a0_⟩
 ·replace c3:=Bool.eq_false_iff.mpr c3
  subst c3
  replace H:(some (0,false))=some (r1,r2):=by rw[if_neg (show ¬(false=true) by decide)]at H;exact H
  simp only[Option.some.injEq,Prod.mk.injEq]at H
  obtain⟨rfl,rfl⟩:=H
  go_enter Try.func14,Try.ntmps14
  go_wp2_with (first|((with_reducible refine gate_callee (f:=21) rfl ?_);refine goesL_ (some 5) rfl rfl Try.func21 (by kernel_rfl) rfl #[.slice A0 l0.length c0] rfl gd_ ?_;(with_reducible refine(impl_IsSheet.calls k _ _ l0 false _ ?side1 ?side2 A2.out).mono ?_);(case side1=>exact(a21_ HR0.out));(case side2=>exact HC0.out);rintro e w7 ⟨rfl,hb⟩;refine⟨_,rfl,?_⟩;replace HB:=am_ (below_step (a0_) hb);(try clear hb);(try clear hb2);(try clear hk);(try clear hi)))
  go_ret2
  exact⟨a9_,a0_⟩

/-! ### laws_pIn: function 15 -/
def laws_pIn.l0:Nat→Int→List Int→Int→Int→Option (Bool)
 | 0,_,_,_,_=>none
 | k+1,x1,x7,x8,x9=>if x9<x8 then(if 0≤x9 then(if x9<(x7.length:Int) then(if(rd x7 x9)=x1 then(some true) else(laws_pIn.l0 k x1 x7 x8 (wrap64 (x9+1)))) else(none)) else(none)) else(some false)
def laws_pIn.f (k:Nat) (l0:List Int) (a1:Int):Option (Bool):=laws_pIn.l0 k a1 l0 (l0.length:Int) 0
theorem laws_pIn.mono_l:∀k,(∀y0 y1 y2 y3,LeO (laws_pIn.l0 k y0 y1 y2 y3) (laws_pIn.l0 (k+1) y0 y1 y2 y3))
 | 0=>fun _ _ _ _ r h=>by simp[laws_pIn.l0]at h
 | k+1=>by
  have ih0:=laws_pIn.mono_l k
  intros
  unfold laws_pIn.l0
  rotate_left
  all_goals repeat' first|(with_reducible first|exact ih0 _ _ _ _|exact LeO.refl _|exact LeO.none _|refine LeO.ite ?_ ?_|refine LeO.bind ?_ (fun _=>?_))|exact ih0 _ _ _ _|exact LeO.none _|refine LeO.ite ?_ ?_|refine LeO.bind ?_ (fun _=>?_)
theorem laws_pIn.mono:∀a0 a1 k,LeO (laws_pIn.f k a0 a1) (laws_pIn.f (k+1) a0 a1):=by
 intro a0 a1 k
 have ih0:=laws_pIn.mono_l k
 unfold laws_pIn.f
 repeat' first
  |(with_reducible exact ih0 _ _ _ _)
  |(with_reducible exact LeO.refl _)
  |(with_reducible exact LeO.none _)
  |(with_reducible refine LeO.ite ?_ ?_)
  |(with_reducible refine LeO.bind ?_ (fun _=>?_))
  |exact ih0 _ _ _ _
  |exact LeO.none _
   | refine LeO.ite ?_ ?_
   | refine LeO.bind ?_ (fun _=>?_)
set_option maxHeartbeats 8000000 in
set_option maxRecDepth 100000 in
theorem laws_pIn.calls (k:Nat) (A0:Option Addr) (c0:Nat) (l0:List Int) (a1:Int) (r:Bool) (w:World) (hr0:Kd.C (Kd.int .i64) w A0 l0.length l0) (hc0:l0.length≤c0) (h:laws_pIn.f k l0 a1=some r) :
 Calls Try.prog 15 #[.slice A0 l0.length c0, .int .i64 a1] w fun e w'=>e = .returned (.bool r)∧Drawn0 w w':=by
 have HR0:=am_ hr0
 have HC0:=am_ hc0
 clear hr0 hc0
 have H:(laws_pIn.l0 k a1 l0 (l0.length:Int) 0)=some r:=h
 clear h
 have H':=am_ H
 clear H
 go_enter Try.func15,Try.ntmps15
 go_wp2
 (try simp only[Act.put,List.setIfInBounds_toArray,List.set_cons_zero,List.set_cons_succ])
 go_loopg [9] k (fun kq v9 w'=>∃(x9_1:Int),v9 = .int .i64 x9_1∧Aside0 (laws_pIn.l0 kq a1 l0 (l0.length:Int) x9_1=some r)∧Aside0 (kq≤k)∧Drawn0 w w')
 case atStart=>exact⟨(0),(by first | rfl|(simp;done)|(simp[*];done)),H',⟨Nat.le_refl _⟩,a29_⟩
 case round=>
  clear H'
  try clear c1
  try clear p2
  obtain⟨x9_1,rfl,HA,HK1,⟨m1,rfl⟩⟩:=hrel
  cases gk with
  | zero=>exact absurd HA.out (by simp[laws_pIn.l0])
  | succ k1=>
   have H:=HA.out
   clear HA
   simp only[laws_pIn.l0]at H
   by_cases c3:x9_1<(l0.length:Int)
   ·rw[if_pos c3]at H
    have c3b0:decide (x9_1<(l0.length:Int))=true:=decide_eq_true c3
    clear c3
    by_cases c4:0≤x9_1
    ·rw[if_pos c4]at H
     have c4b0:decide (0≤x9_1)=true:=decide_eq_true c4
     clear c4
     by_cases c5:x9_1<(l0.length:Int)
     ·rw[if_pos c5]at H
      have c5b0:decide (x9_1<(l0.length:Int))=true:=decide_eq_true c5
      clear c5
      by_cases c6:(rd l0 x9_1)=a1
      ·rw[if_pos c6]at H
       have c6b0:((rd l0 x9_1) == a1)=true:=beq_iff_eq.mpr c6
       have c6b1:((rd l0 x9_1) != a1)=false:=bne_eq_false_iff_eq.mpr c6
       clear c6
       obtain rfl:=Option.some.inj H
       have p443:0≤(x9_1:Int):=of_decide_eq_true (a8_)
       have q443:x9_1<(l0.length:Int):=of_decide_eq_true (a8_)
       obtain⟨ad443,e443,hx443_0⟩:=Kd.at_int HR0.out x9_1 p443 q443
       cases e443
       replace p443:=eq_true p443
       replace q443:=eq_true q443
       go_wp2
       go_ret
       exact⟨by first | rfl|(simp;done)|(simp[*];done),a29_⟩
      ·rw[if_neg c6]at H
       have c6b0:((rd l0 x9_1) == a1)=false:=beq_eq_false_iff_ne.mpr c6
       have c6b1:((rd l0 x9_1) != a1)=true:=bne_iff_ne.mpr c6
       have H':=am_ H
       clear H
       have p443:0≤(x9_1:Int):=of_decide_eq_true (a8_)
       have q443:x9_1<(l0.length:Int):=of_decide_eq_true (a8_)
       obtain⟨ad443,e443,hx443_0⟩:=Kd.at_int HR0.out x9_1 p443 q443
       cases e443
       replace p443:=eq_true p443
       replace q443:=eq_true q443
       go_wp2
       go_roundg k1
       case measure=>have:=HK1.out;omega
       case rel=>exact⟨(wrap64 (x9_1+1)),(by first | rfl|(simp;done)|(simp[*];done)),H',⟨by have:=HK1.out;omega⟩,a29_⟩
     ·rw[if_neg c5]at H
      exact absurd H (by simp)
    ·rw[if_neg c4]at H
     exact absurd H (by simp)
   ·rw[if_neg c3]at H
    have c3b0:decide (x9_1<(l0.length:Int))=false:=decide_eq_false c3
    clear c3
    obtain rfl:=Option.some.inj H
    go_wp2
    go_ret
    exact⟨by first | rfl|(simp;done)|(simp[*];done),a29_⟩

/-! ### spec_l1Cur_checksum: function 64 -/
def spec_l1Cur_checksum.f (s0_0:List Int) (s0_1:Int) (s0_2:Int):Option (Int×Int×Int):=(spec_l1Cur_pick.f s0_0 s0_1 s0_2 60000).bind fun bt444=>((spec_l1Cur_among.f s0_0 bt444.2.1 bt444.2.2 (([1000003,(-1)]:List Int))).bind fun bt450=>((spec_l1Cur_among.f s0_0 bt450.2.1 bt450.2.2 (([0,1,31,bt444.1,1000002,bt450.1]:List Int))).bind fun bt456=>(some (bt456.1,bt456.2.1,bt456.2.2))))
set_option maxHeartbeats 8000000 in
set_option maxRecDepth 100000 in
theorem spec_l1Cur_checksum.calls (g:Nat) (s0_0:List Int) (s0_1:Int) (s0_2:Int) (r1:Int) (r2:Int) (r3:Int) (w0 w:World) (hI:IsS76 w0 w g s0_0 s0_1 s0_2) (hB:Below w0.heap.size w0 w) (h:spec_l1Cur_checksum.f s0_0 s0_1 s0_2=some (r1,r2,r3)) :
 Calls Try.prog 64 #[.pointer (some ⟨g,0,none⟩)] w fun e w'=>e = .returned (.int .i64 r1)∧IsS76 w0 w' g s0_0 r2 r3∧Below w0.heap.size w0 w'∧KeepBut w w' g none:=by
 have HI0:=am_ hI
 have HK:=am_ (KeepBut.refl w g none)
 have HL:=am_ hB.size
 clear hI
 have HW0:=am_ hB.size
 have HB:=am_ hB
 clear hB
 have H:((spec_l1Cur_pick.f s0_0 s0_1 s0_2 60000).bind fun bt444=>((spec_l1Cur_among.f s0_0 bt444.2.1 bt444.2.2 (([1000003,(-1)]:List Int))).bind fun bt450=>((spec_l1Cur_among.f s0_0 bt450.2.1 bt450.2.2 (([0,1,31,bt444.1,1000002,bt450.1]:List Int))).bind fun bt456=>(some (bt456.1,bt456.2.1,bt456.2.2)))))=some (r1,r2,r3):=h
 clear h
 obtain⟨⟨t444,t445,t446⟩,A2,H⟩:=bo_ H
 try dsimp only at H
 obtain⟨y447,hy447⟩:∃y_:List Int,y_=(([1000003,(-1)]:List Int)):=⟨_,rfl⟩
 replace H:((spec_l1Cur_among.f s0_0 t445 t446 y447).bind fun bt450=>((spec_l1Cur_among.f s0_0 bt450.2.1 bt450.2.2 (([0,1,31,t444,1000002,bt450.1]:List Int))).bind fun bt456=>(some (bt456.1,bt456.2.1,bt456.2.2))))=some (r1,r2,r3):=by first|(rw[hy447];with_reducible exact H)|(have H2_:=(Option.bind_some _ _).symm.trans H;rw[hy447];with_reducible exact H2_)|(have H2_:=(Option.bind_some _ _).symm.trans H;with_reducible exact H2_) | with_reducible exact H|(rw[hy447];exact H)|exact H
 have Ny447:=am_ hy447
 clear hy447
 obtain⟨⟨t450,t451,t452⟩,A3,H⟩:=bo_ H
 try dsimp only at H
 obtain⟨y453,hy453⟩:∃y_:List Int,y_=(([0,1,31,t444,1000002,t450]:List Int)):=⟨_,rfl⟩
 replace H:((spec_l1Cur_among.f s0_0 t451 t452 y453).bind fun bt456=>(some (bt456.1,bt456.2.1,bt456.2.2)))=some (r1,r2,r3):=by first|(rw[hy453];with_reducible exact H)|(have H2_:=(Option.bind_some _ _).symm.trans H;rw[hy453];with_reducible exact H2_)|(have H2_:=(Option.bind_some _ _).symm.trans H;with_reducible exact H2_) | with_reducible exact H|(rw[hy453];exact H)|exact H
 have Ny453:=am_ hy453
 clear hy453
 obtain⟨⟨t456,t457,t458⟩,A4,H⟩:=bo_ H
 try dsimp only at H
 simp only[Option.some.injEq,Prod.mk.injEq]at H
 obtain⟨rfl,rfl,rfl⟩:=H
 go_enter Try.func64,Try.ntmps64
 go_wp2_with (first|((with_reducible refine gate_callee (f:=55) rfl ?_);refine goesL_ (some 5) rfl rfl Try.func55 (by kernel_rfl) rfl #[.pointer (some ⟨g,0,none⟩), .int .i64 60000] rfl gd_ ?_;(with_reducible refine(spec_l1Cur_pick.calls g s0_0 s0_1 s0_2 60000 t444 t445 t446 w0 _ ?side1 ?side2 A2.out).mono ?_);(case side1=>exact(a3_ HI0.out));(case side2=>exact(a4_ HI0.out));rintro e w5 ⟨rfl,hi,hb,hk⟩;refine⟨_,rfl,?_⟩;replace HK:=am_ (KeepBut.trans (a6_) hk (.inl rfl));replace HB:=am_ (hb);replace HI0:=am_ (hi);(try clear hb);(try clear hb2);(try clear hk);(try clear hi))|((with_reducible refine gate_dst (N:=7) rfl ?_);refine Kd.R_lit (Kd.int .i64) _ 3 ?hg (N:=7) ?hd (xs:=([1000003,(-1)]:List Int)) (inner:=[.int .i64 1000003, .int .i64 (-1)]) (ok:=fun _=>True) (okp:=fun _=>True) ?hr ?hp (fun _ hk=>hk) trivial (Below.refl _ _) (Nat.le_refl _) (by simp) ?_;(case hd=>rfl);(case hg=>rfl);(case hr=>exact hr_);(case hp=>exact(Reps.one (show Kd.M (Kd.int .i64) _ _ _ 1000003 [.int .i64 1000003] from rfl) (Reps.one (show Kd.M (Kd.int .i64) _ _ _ (-1) [.int .i64 (-1)] from rfl) (Reps.none _ _))));intro v448 w6 ho7 hb hg_ hnew_;clear hg_ hnew_;(first|rw[← Ny447.out]at ho7|(simp only[Int.reduceToNat]at ho7;rw[← Ny447.out]at ho7));have HO449:=am_ (Kd.R_lower ho7 (keep_size (w:=w) (g:=g) (row:=none) (a6_)));replace HK:=am_ (KeepBut.trans (a6_) (KeepBut.of_below hb g none) (.inl rfl));replace HB:=am_ (below_step ((a4_ HI0.out)) hb);replace HI0:=am_ (IsS76.below ((a3_ HI0.out)) hb);clear hb ho7;obtain⟨Ao8,co8,eo8⟩:=Kd.R_slice HO449.out;subst eo8)|((with_reducible refine gate_callee (f:=57) rfl ?_);refine goesL_ (some 8) rfl rfl Try.func57 (by kernel_rfl) rfl #[.pointer (some ⟨g,0,none⟩), .slice Ao8 y447.length co8] rfl gd_ ?_;(with_reducible refine(spec_l1Cur_among.calls g s0_0 t445 t446 _ _ y447 t450 t451 t452 w0 _ ?side1 ?side2 ?side3 ?side4 ?side5 A3.out).mono ?_);(case side1=>exact(a3_ HI0.out));(case side2=>exact(a4_ HI0.out));(case side3=>exact(a11_ HO449.out));(case side4=>exact(Kd.R_reads' HO449.out).2.1);(case side5=>exact far_slice (IsS76.own_ne HI0.out HO449.out (by decide)));rintro e w9 ⟨rfl,hi,hb,hk⟩;refine⟨_,rfl,?_⟩;replace HO449:=am_ (Kd.R_mono (Kd.R_keep (IsS76.apart (show IsS76 w0 _ g s0_0 t445 t446 from(a3_ HI0.out)) ((a1_ HO449.out)) (by decide)) hk (fun _ h=>h.2)) (fun _ h=>h.1));replace HK:=am_ (KeepBut.trans (a6_) hk (.inl rfl));replace HB:=am_ (hb);replace HI0:=am_ (hi);(try clear hb);(try clear hb2);(try clear hk);(try clear hi))|((with_reducible refine gate_dst (N:=9) rfl ?_);refine Kd.R_lit (Kd.int .i64) _ 3 ?hg (N:=9) ?hd (xs:=([0,1,31,t444,1000002,t450]:List Int)) (inner:=[.int .i64 0, .int .i64 1, .int .i64 31, .int .i64 t444, .int .i64 1000002, .int .i64 t450]) (ok:=fun _=>True) (okp:=fun _=>True) ?hr ?hp (fun _ hk=>hk) trivial (Below.refl _ _) (Nat.le_refl _) (by simp) ?_;(case hd=>rfl);(case hg=>rfl);(case hr=>exact hr_);(case hp=>exact(Reps.one (show Kd.M (Kd.int .i64) _ _ _ 0 [.int .i64 0] from rfl) (Reps.one (show Kd.M (Kd.int .i64) _ _ _ 1 [.int .i64 1] from rfl) (Reps.one (show Kd.M (Kd.int .i64) _ _ _ 31 [.int .i64 31] from rfl) (Reps.one (show Kd.M (Kd.int .i64) _ _ _ t444 [.int .i64 t444] from rfl) (Reps.one (show Kd.M (Kd.int .i64) _ _ _ 1000002 [.int .i64 1000002] from rfl) (Reps.one (show Kd.M (Kd.int .i64) _ _ _ t450 [.int .i64 t450] from rfl) (Reps.none _ _))))))));intro v454 w10 ho11 hb hg_ hnew_;clear hg_ hnew_;(first|rw[← Ny453.out]at ho11|(simp only[Int.reduceToNat]at ho11;rw[← Ny453.out]at ho11));have HO455:=am_ (Kd.R_lower (Kd.R_new' ho11 (Kd.R_lt ((a1_ HO449.out)))) (keep_size (w:=w) (g:=g) (row:=none) (a6_)));replace HO449:=am_ (Kd.R_elder' ((a1_ HO449.out)) (Kd.R_base ho11) hb);replace HK:=am_ (KeepBut.trans (a6_) (KeepBut.of_below hb g none) (.inl rfl));replace HB:=am_ (below_step ((a4_ HI0.out)) hb);replace HI0:=am_ (IsS76.below ((a3_ HI0.out)) hb);clear hb ho11;obtain⟨Ao12,co12,eo12⟩:=Kd.R_slice HO455.out;subst eo12)|((with_reducible refine gate_callee (f:=57) rfl ?_);refine goesL_ (some 10) rfl rfl Try.func57 (by kernel_rfl) rfl #[.pointer (some ⟨g,0,none⟩), .slice Ao12 y453.length co12] rfl gd_ ?_;(with_reducible refine(spec_l1Cur_among.calls g s0_0 t451 t452 _ _ y453 t456 t457 t458 w0 _ ?side1 ?side2 ?side3 ?side4 ?side5 A4.out).mono ?_);(case side1=>exact(a3_ HI0.out));(case side2=>exact(a4_ HI0.out));(case side3=>exact(a11_ HO455.out));(case side4=>exact(Kd.R_reads' HO455.out).2.1);(case side5=>exact far_slice (IsS76.own_ne HI0.out HO455.out (by decide)));rintro e w13 ⟨rfl,hi,hb,hk⟩;refine⟨_,rfl,?_⟩;replace HO449:=am_ (Kd.R_mono (Kd.R_keep (IsS76.apart (show IsS76 w0 _ g s0_0 t451 t452 from(a3_ HI0.out)) ((a1_ HO449.out)) (by decide)) hk (fun _ h=>h.2)) (fun _ h=>h.1));replace HO455:=am_ (Kd.R_mono (Kd.R_keep (IsS76.apart (show IsS76 w0 _ g s0_0 t451 t452 from(a3_ HI0.out)) ((a1_ HO455.out)) (by decide)) hk (fun _ h=>h.2)) (fun _ h=>h.1));replace HK:=am_ (KeepBut.trans (a6_) hk (.inl rfl));replace HB:=am_ (hb);replace HI0:=am_ (hi);(try clear hb);(try clear hb2);(try clear hk);(try clear hi)))
 go_ret
 exact⟨a9_,(a3_ HI0.out),(a4_ HI0.out),a6_⟩

end Go.Proofs.Ytplpjmhmochcfaa.QFnCopies
