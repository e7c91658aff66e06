/- Written by a program of this session (the kit's printer, with leaf contracts proved by hand put in): what each Go function computes, and that the call computes it. No condition but those that each theorem names. -/
import Derived.Test.YtplpjmhmochcfaaGreatQFnDifferencesx0
import Derived.Test.YtplpjmhmochcfaaGreatQFnDifferencesx8
import Derived.Test.YtplpjmhmochcfaaGreatQFnDifferencesx10
import Derived.Test.YtplpjmhmochcfaaGreatQFnDifferencesx13
namespace Go.Proofs.YtplpjmhmochcfaaGreat.QFnDifferences
open Go.RowKit Go.Proofs.YtplpjmhmochcfaaGreatW.PrintWords Go.Proofs.YtplpjmhmochcfaaGreatW.PrintLast Go.Proofs.YtplpjmhmochcfaaGreatW.PrintMore
attribute [local go_sem] max2_int min2_int max_two min_two max_three min_three max_four min_four   -- for this text's walks alone
set_option linter.unusedVariables false
set_option linter.unusedSimpArgs false

/-! ### impl_NearestSheet: function 20 -/
mutual
def impl_NearestSheet.j0:Nat→List (S40)→List (List (S40))→Bool→Option (Int×Int×Bool)
 | 0,_,_,_=>none
 | k+1,x0,x1,x19=>if x19=true then(some (0,0,false)) else(if 0<(x1.length:Int) then((impl_distanceOf.f x0 (rd_L3 x1 0)).bind fun t601=>(impl_NearestSheet.l0 k x0 0 t601 x1 (x1.length:Int) 0)) else(none))
def impl_NearestSheet.l0:Nat→List (S40)→Int→Int→List (List (S40))→Int→Int→Option (Int×Int×Bool)
 | 0,_,_,_,_,_,_=>none
 | k+1,x0,x7,x8,x25,x26,x27=>if x27<x26 then(if 0≤x27 then(if x27<(x25.length:Int) then((impl_distanceOf.f x0 (rd_L3 x25 x27)).bind fun t603=>(if t603<x8 then(impl_NearestSheet.l0 k x0 x27 t603 x25 x26 (wrap64 (x27+1))) else(impl_NearestSheet.l0 k x0 x7 x8 x25 x26 (wrap64 (x27+1))))) else(none)) else(none)) else(some (x7,x8,true))
end
def impl_NearestSheet.f (k:Nat) (l0:List (S40)) (l1:List (List (S40))):Option (Int×Int×Bool):=(impl_IsSheet.f k l0).bind fun t598=>(if t598=true then((impl_areSheets.f k l1 8).bind fun t599=>(impl_NearestSheet.j0 k l0 l1 (!t599))) else(impl_NearestSheet.j0 k l0 l1 true))
theorem impl_NearestSheet.mono_l:∀k,(∀y0 y1 y2,LeO (impl_NearestSheet.j0 k y0 y1 y2) (impl_NearestSheet.j0 (k+1) y0 y1 y2))∧(∀y0 y1 y2 y3 y4 y5,LeO (impl_NearestSheet.l0 k y0 y1 y2 y3 y4 y5) (impl_NearestSheet.l0 (k+1) y0 y1 y2 y3 y4 y5))
 | 0=>⟨fun _ _ _ r h=>by simp[impl_NearestSheet.j0]at h,fun _ _ _ _ _ _ r h=>by simp[impl_NearestSheet.l0]at h⟩
 | k+1=>by
  obtain⟨ih0,ih1⟩:=impl_NearestSheet.mono_l k
  refine⟨?_,?_⟩
  intros
  unfold impl_NearestSheet.j0
  rotate_left
  intros
  unfold impl_NearestSheet.l0
  rotate_left
  all_goals repeat' first|(with_reducible first|exact ih0 _ _ _|exact ih1 _ _ _ _ _ _|exact impl_IsSheet.mono _ _|exact impl_areSheets.mono _ _ _|exact LeO.refl _|exact LeO.none _|refine LeO.ite ?_ ?_|refine LeO.bind ?_ (fun _=>?_))|exact ih0 _ _ _|exact ih1 _ _ _ _ _ _|exact impl_IsSheet.mono _ _|exact impl_areSheets.mono _ _ _|exact LeO.none _|refine LeO.ite ?_ ?_|refine LeO.bind ?_ (fun _=>?_)
theorem impl_NearestSheet.mono:∀a0 a1 k,LeO (impl_NearestSheet.f k a0 a1) (impl_NearestSheet.f (k+1) a0 a1):=by
 intro a0 a1 k
 obtain⟨ih0,ih1⟩:=impl_NearestSheet.mono_l k
 unfold impl_NearestSheet.f
 repeat' first
  |(with_reducible exact ih0 _ _ _)
  |(with_reducible exact ih1 _ _ _ _ _ _)
  |(with_reducible exact impl_IsSheet.mono _ _)
  |(with_reducible exact impl_areSheets.mono _ _ _)
  |(with_reducible exact LeO.refl _)
  |(with_reducible exact LeO.none _)
  |(with_reducible refine LeO.ite ?_ ?_)
  |(with_reducible refine LeO.bind ?_ (fun _=>?_))
  |exact ih0 _ _ _
  |exact ih1 _ _ _ _ _ _
  |exact impl_IsSheet.mono _ _
  |exact impl_areSheets.mono _ _ _
  |exact LeO.none _
   | refine LeO.ite ?_ ?_
   | refine LeO.bind ?_ (fun _=>?_)
set_option maxHeartbeats 8000000 in
set_option maxRecDepth 100000 in
theorem impl_NearestSheet.calls (k:Nat) (A0:Option Addr) (c0:Nat) (l0:List (S40)) (A1:Option Addr) (c1:Nat) (l1:List (List (S40))) (r1:Int) (r2:Int) (r3:Bool) (w:World) (hr0:Kd.C k40 w A0 l0.length l0) (hc0:l0.length≤c0) (hr1:Kd.C (Kd.slice 40 k40) w A1 l1.length l1) (hc1:l1.length≤c1) (h:impl_NearestSheet.f k l0 l1=some (r1,r2,r3)) :
 Calls Tryz.prog 20 #[.slice A0 l0.length c0, .slice A1 l1.length c1] w fun e w'=>e = .returned (.tuple #[.int .i64 r1, .int .i64 r2, .bool r3])∧Below w.heap.size w w':=by
 have HR0:=am_ hr0
 have HC0:=am_ hc0
 clear hr0 hc0
 have HR1:=am_ hr1
 have HC1:=am_ hc1
 clear hr1 hc1
 have HB:=am_ (Below.refl w.heap.size w)
 have H:((impl_IsSheet.f k l0).bind fun t598=>(if t598=true then((impl_areSheets.f k l1 8).bind fun t599=>(impl_NearestSheet.j0 k l0 l1 (!t599))) else(impl_NearestSheet.j0 k l0 l1 true)))=some (r1,r2,r3):=h
 clear h
 have HC3:=am_ H
 clear H
 go_enter Tryz.func20,Tryz.ntmps20
 go_upto_region 1 with (fail)
 go_cut [19] (fun v19 wc=>∃(kq:Nat) (x19_2:Bool),v19 = .bool x19_2∧Aside0 (impl_NearestSheet.j0 kq l0 l1 x19_2=some (r1,r2,r3))∧Aside0 (kq≤k)∧Aside0 (Below w.heap.size w wc))
 case first=>
  have H:=HC3.out
  clear HC3
  obtain⟨t598,A4,H⟩:=bo_ H
  try dsimp only at H
  by_cases c5:t598=true
  ·subst c5
   replace H:((impl_areSheets.f k l1 8).bind fun t599=>(impl_NearestSheet.j0 k l0 l1 (!t599)))=some (r1,r2,r3):=by rw[if_pos rfl]at H;exact H
   obtain⟨t599,A6,H⟩:=bo_ H
   try dsimp only at H
   have H':=am_ H
   clear H
   go_wp2_with (first|((with_reducible refine gate_callee (f:=45) rfl ?_);refine goesL_ (some 13) rfl rfl Tryz.func45 (by kernel_rfl) rfl #[.slice A0 l0.length c0] rfl gd_ ?_;(with_reducible refine(impl_IsSheet.calls k _ _ l0 true _ ?side1 ?side2 A4.out).mono ?_);(case side1=>exact(a6_ HR0.out));(case side2=>exact HC0.out);rintro e w7 ⟨rfl,hb⟩;refine⟨_,rfl,?_⟩;replace HB:=am_ (below_step (a1_) hb);(try clear hb);(try clear hb2);(try clear hk);(try clear hi))|(go_at_call 57;(with_reducible refine(impl_areSheets.calls k _ _ l1 8 t599 _ ?side1 ?side2 A6.out).mono ?_);(case side1=>exact(a6_ HR1.out));(case side2=>exact HC1.out);rintro e w8 ⟨rfl,hb⟩;replace HB:=am_ (below_step (a1_) hb);(try clear hb);(try clear hb2);(try clear hk);(try clear hi)))
   go_meet
   case rel=>exact⟨_,(!t599),(by first | rfl|(simp;done)|(simp[*];done)),H',⟨by first | omega|exact Nat.le_refl _⟩,⟨a1_⟩⟩
  ·replace c5:=Bool.eq_false_iff.mpr c5
   subst c5
   replace H:(impl_NearestSheet.j0 k l0 l1 true)=some (r1,r2,r3):=by rw[if_neg (show ¬(false=true) by decide)]at H;exact H
   have H':=am_ H
   clear H
   go_wp2_with (first|((with_reducible refine gate_callee (f:=45) rfl ?_);refine goesL_ (some 13) rfl rfl Tryz.func45 (by kernel_rfl) rfl #[.slice A0 l0.length c0] rfl gd_ ?_;(with_reducible refine(impl_IsSheet.calls k _ _ l0 false _ ?side1 ?side2 A4.out).mono ?_);(case side1=>exact(a6_ HR0.out));(case side2=>exact HC0.out);rintro e w9 ⟨rfl,hb⟩;refine⟨_,rfl,?_⟩;replace HB:=am_ (below_step (a1_) hb);(try clear hb);(try clear hb2);(try clear hk);(try clear hi)))
   go_meet
   case rel=>exact⟨_,(true),(by first | rfl|(simp;done)|(simp[*];done)),H',⟨by first | omega|exact Nat.le_refl _⟩,⟨a1_⟩⟩
 case rest=>
  clear HC3
  try clear c1
  try clear c2
  try clear p2
  try clear c4
  try clear c5
  obtain⟨kq,x19_2,rfl,HA,HJ2,HB⟩:=hcut
  cases kq with
  | zero=>exact absurd HA.out (by simp[impl_NearestSheet.j0])
  | succ kj2=>
   have H:=HA.out
   clear HA
   simp only[impl_NearestSheet.j0]at H
   by_cases c10:x19_2=true
   ·subst c10
    replace H:(some (0,0,false))=some (r1,r2,r3):=by rw[if_pos rfl]at H;exact H
    simp only[Option.some.injEq,Prod.mk.injEq]at H
    obtain⟨rfl,rfl,rfl⟩:=H
    go_wp2
    go_ret3
    exact⟨a10_,a1_⟩
   ·replace c10:=Bool.eq_false_iff.mpr c10
    subst c10
    replace H:(if 0<(l1.length:Int) then((impl_distanceOf.f l0 (rd_L3 l1 0)).bind fun t601=>(impl_NearestSheet.l0 kj2 l0 0 t601 l1 (l1.length:Int) 0)) else(none))=some (r1,r2,r3):=by rw[if_neg (show ¬(false=true) by decide)]at H;exact H
    by_cases c11:0<(l1.length:Int)
    ·rw[if_pos c11]at H
     have c11b0:decide (0<(l1.length:Int))=true:=decide_eq_true c11
     have c11b1:decide (0<l1.length)=true:=decide_eq_true (by omega)
     clear c11
     obtain⟨t601,A12,H⟩:=bo_ H
     try dsimp only at H
     have H':=am_ H
     clear H
     have p600:0≤(0:Int):=(by omega)
     have q600:0<(l1.length:Int):=of_decide_eq_true (a12_)
     obtain⟨ad600,A600_0,c600_0,e600,hx600_0,hl600_0,hi600_0⟩:=at_L3 HR1.out 0 p600 q600
     cases e600
     have qi600:(0<l1.length)=True:=eq_true (by omega)
     (try rw[show((0:Int)).toNat=0 from rfl]at hx600_0)
     (try rw[Addr.add_zero']at hx600_0)
     replace hx600_0:=(HB.out.cell (World.block_lt_of_cell? w _ hx600_0)).trans hx600_0
     have HR600_0:=am_ hi600_0
     have HC600_0:=am_ hl600_0
     clear hi600_0 hl600_0
     replace p600:=eq_true p600
     replace q600:=eq_true q600
     go_wp2_with (first|((with_reducible refine gate_callee (f:=49) rfl ?_);refine goesL_ (some 24) rfl rfl Tryz.func49 (by kernel_rfl) rfl #[.slice A0 l0.length c0, .slice A600_0 (rd_L3 l1 0).length c600_0] rfl gd_ ?_;(with_reducible refine(impl_distanceOf.calls _ _ l0 _ _ (rd_L3 l1 0) t601 _ ?side1 ?side2 ?side3 ?side4 A12.out).mono ?_);(case side1=>exact(a6_ HR0.out));(case side2=>exact HC0.out);(case side3=>exact(a6_ HR600_0.out));(case side4=>exact HC600_0.out);rintro e w13 ⟨rfl,hb⟩;refine⟨_,rfl,?_⟩;replace HB:=am_ (below_step (a1_) hb);(try clear hb);(try clear hb2);(try clear hk);(try clear hi)))
     (try simp only[Act.put,List.setIfInBounds_toArray,List.set_cons_zero,List.set_cons_succ])
     go_loopg [7,8,27] kj2 (fun kq v7 v8 v27 w'=>∃(x7_2:Int) (x8_2:Int) (x27_2:Int),v7 = .int .i64 x7_2∧v8 = .int .i64 x8_2∧v27 = .int .i64 x27_2∧Aside0 (impl_NearestSheet.l0 kq l0 x7_2 x8_2 l1 (l1.length:Int) x27_2=some (r1,r2,r3))∧Aside0 (kq≤kj2)∧Aside0 (Below w.heap.size w w'))
     case atStart=>exact⟨(0),(t601),(0),(by first | rfl|(simp;done)|(simp[*];done)),(by first | rfl|(simp;done)|(simp[*];done)),(by first | rfl|(simp;done)|(simp[*];done)),H',⟨Nat.le_refl _⟩,⟨a1_⟩⟩
     case round=>
      clear H'
      try clear c1
      try clear c2
      try clear p2
      try clear c4
      try clear c5
      try clear c6
      try clear p6
      try clear q6
      try clear hx6
      try clear qi6
      try clear c10
      try clear c11
      try clear c11b0
      try clear c11b1
      try clear hx600_0
      try clear p2
      try clear p600
      try clear q600
      obtain⟨x7_2,x8_2,x27_2,rfl,rfl,rfl,HA,HK2,HB⟩:=hrel
      cases gk with
      | zero=>exact absurd HA.out (by simp[impl_NearestSheet.l0])
      | succ k2=>
       have H:=HA.out
       clear HA
       simp only[impl_NearestSheet.l0]at H
       by_cases c14:x27_2<(l1.length:Int)
       ·rw[if_pos c14]at H
        have c14b0:decide (x27_2<(l1.length:Int))=true:=decide_eq_true c14
        clear c14
        by_cases c15:0≤x27_2
        ·rw[if_pos c15]at H
         have c15b0:decide (0≤x27_2)=true:=decide_eq_true c15
         clear c15
         by_cases c16:x27_2<(l1.length:Int)
         ·rw[if_pos c16]at H
          have c16b0:decide (x27_2<(l1.length:Int))=true:=decide_eq_true c16
          clear c16
          obtain⟨t603,A17,H⟩:=bo_ H
          try dsimp only at H
          by_cases c18:t603<x8_2
          ·rw[if_pos c18]at H
           have c18b0:decide (t603<x8_2)=true:=decide_eq_true c18
           clear c18
           have H':=am_ H
           clear H
           have p602:0≤(x27_2:Int):=of_decide_eq_true (a12_)
           have q602:x27_2<(l1.length:Int):=of_decide_eq_true (a12_)
           obtain⟨ad602,A602_0,c602_0,e602,hx602_0,hl602_0,hi602_0⟩:=at_L3 HR1.out x27_2 p602 q602
           obtain rfl:ad600=ad602:=(by injection e602)
           replace hx602_0:=(HB.out.cell (World.block_lt_of_cell? w _ hx602_0)).trans hx602_0
           have HR602_0:=am_ hi602_0
           have HC602_0:=am_ hl602_0
           clear hi602_0 hl602_0
           replace p602:=eq_true p602
           replace q602:=eq_true q602
           go_wp2_with (first|((with_reducible refine gate_callee (f:=49) rfl ?_);refine goesL_ (some 34) rfl rfl Tryz.func49 (by kernel_rfl) rfl #[.slice A0 l0.length c0, .slice A602_0 (rd_L3 l1 x27_2).length c602_0] rfl gd_ ?_;(with_reducible refine(impl_distanceOf.calls _ _ l0 _ _ (rd_L3 l1 x27_2) t603 _ ?side1 ?side2 ?side3 ?side4 A17.out).mono ?_);(case side1=>exact(a6_ HR0.out));(case side2=>exact HC0.out);(case side3=>exact(a6_ HR602_0.out));(case side4=>exact HC602_0.out);rintro e w19 ⟨rfl,hb⟩;refine⟨_,rfl,?_⟩;replace HB:=am_ (below_step (a1_) hb);(try clear hb);(try clear hb2);(try clear hk);(try clear hi)))
           go_roundg k2
           case measure=>have:=HJ2.out;have:=HK2.out;omega
           case rel=>exact⟨(x27_2),(t603),(wrap64 (x27_2+1)),(by first | rfl|(simp;done)|(simp[*];done)),(by first | rfl|(simp;done)|(simp[*];done)),(by first | rfl|(simp;done)|(simp[*];done)),H',⟨by have:=HJ2.out;have:=HK2.out;omega⟩,⟨a1_⟩⟩
          ·rw[if_neg c18]at H
           have c18b0:decide (t603<x8_2)=false:=decide_eq_false c18
           clear c18
           have H':=am_ H
           clear H
           have p602:0≤(x27_2:Int):=of_decide_eq_true (a12_)
           have q602:x27_2<(l1.length:Int):=of_decide_eq_true (a12_)
           obtain⟨ad602,A602_0,c602_0,e602,hx602_0,hl602_0,hi602_0⟩:=at_L3 HR1.out x27_2 p602 q602
           obtain rfl:ad600=ad602:=(by injection e602)
           replace hx602_0:=(HB.out.cell (World.block_lt_of_cell? w _ hx602_0)).trans hx602_0
           have HR602_0:=am_ hi602_0
           have HC602_0:=am_ hl602_0
           clear hi602_0 hl602_0
           replace p602:=eq_true p602
           replace q602:=eq_true q602
           go_wp2_with (first|((with_reducible refine gate_callee (f:=49) rfl ?_);refine goesL_ (some 34) rfl rfl Tryz.func49 (by kernel_rfl) rfl #[.slice A0 l0.length c0, .slice A602_0 (rd_L3 l1 x27_2).length c602_0] rfl gd_ ?_;(with_reducible refine(impl_distanceOf.calls _ _ l0 _ _ (rd_L3 l1 x27_2) t603 _ ?side1 ?side2 ?side3 ?side4 A17.out).mono ?_);(case side1=>exact(a6_ HR0.out));(case side2=>exact HC0.out);(case side3=>exact(a6_ HR602_0.out));(case side4=>exact HC602_0.out);rintro e w20 ⟨rfl,hb⟩;refine⟨_,rfl,?_⟩;replace HB:=am_ (below_step (a1_) hb);(try clear hb);(try clear hb2);(try clear hk);(try clear hi)))
           go_roundg k2
           case measure=>have:=HJ2.out;have:=HK2.out;omega
           case rel=>exact⟨(x7_2),(x8_2),(wrap64 (x27_2+1)),(by first | rfl|(simp;done)|(simp[*];done)),(by first | rfl|(simp;done)|(simp[*];done)),(by first | rfl|(simp;done)|(simp[*];done)),H',⟨by have:=HJ2.out;have:=HK2.out;omega⟩,⟨a1_⟩⟩
         ·rw[if_neg c16]at H
          exact absurd H (by simp)
        ·rw[if_neg c15]at H
         exact absurd H (by simp)
       ·rw[if_neg c14]at H
        have c14b0:decide (x27_2<(l1.length:Int))=false:=decide_eq_false c14
        clear c14
        simp only[Option.some.injEq,Prod.mk.injEq]at H
        obtain⟨rfl,rfl,rfl⟩:=H
        go_wp2
        go_ret3
        exact⟨a10_,a1_⟩
    ·rw[if_neg c11]at H
     exact absurd H (by simp)

end Go.Proofs.YtplpjmhmochcfaaGreat.QFnDifferences
