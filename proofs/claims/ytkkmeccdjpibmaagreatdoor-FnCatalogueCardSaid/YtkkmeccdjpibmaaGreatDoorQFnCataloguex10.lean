/- Written by a program of this session (the kit's printer, with leaf contracts proved by hand put in): what each Go function computes, and that the call computes it. No condition but those that each theorem names. -/
import Derived.Test.YtkkmeccdjpibmaaGreatDoorQFnCataloguex0
import Derived.Test.YtkkmeccdjpibmaaGreatDoorQFnCataloguex5
import Derived.Test.YtkkmeccdjpibmaaGreatDoorQFnCataloguex7
import Derived.Test.YtkkmeccdjpibmaaGreatDoorQFnCataloguex9
namespace Go.Proofs.YtkkmeccdjpibmaaGreatDoor.QFnCatalogue
open Go.RowKit Go.Proofs.YtkkmeccdjpibmaaGreatDoorW.PrintWords Go.Proofs.YtkkmeccdjpibmaaGreatDoorW.PrintLast Go.Proofs.YtkkmeccdjpibmaaGreatDoorW.PrintMore
attribute [local go_sem] max2_int min2_int max_two min_two max_three min_three max_four min_four   -- for this text's walks alone
set_option linter.unusedVariables false
set_option linter.unusedSimpArgs false

/-! ### spec_FirstMasters: function 10 -/
mutual
def spec_FirstMasters.l0:Nat→List (S47)→Int→List (S47)→Int→Int→Option (List Int×Bool)
 | 0,_,_,_,_,_=>none
 | k+1,x0,x4,x13,x14,x15=>if x15<x14 then(if 0≤x15 then(if x15<(x13.length:Int) then(if((rd_T47 x13 x15).f3)<0 then((spec_l1Least.f x4 ((rd_T47 x13 x15).f2)).bind fun t307=>(spec_FirstMasters.l0 k x0 t307 x13 x14 (wrap64 (x15+1)))) else(spec_FirstMasters.l0 k x0 x4 x13 x14 (wrap64 (x15+1)))) else(none)) else(none)) else(spec_FirstMasters.l1 k x4 ([]:List Int) x0 (x0.length:Int) 0)
def spec_FirstMasters.l1:Nat→Int→List Int→List (S47)→Int→Int→Option (List Int×Bool)
 | 0,_,_,_,_,_=>none
 | k+1,x4,x7,x27,x28,x29=>if x29<x28 then(if 0≤x29 then(if x29<(x27.length:Int) then(if((rd_T47 x27 x29).f3)<0 then(if((rd_T47 x27 x29).f2)=x4 then(if x7.length<17592186044416 then(spec_FirstMasters.l1 k x4 (x7 ++ [x29]) x27 x28 (wrap64 (x29+1))) else(none)) else(spec_FirstMasters.l1 k x4 x7 x27 x28 (wrap64 (x29+1)))) else(spec_FirstMasters.l1 k x4 x7 x27 x28 (wrap64 (x29+1)))) else(none)) else(none)) else(some (x7,true))
end
def spec_FirstMasters.f (k:Nat) (l0:List (S47)):Option (List Int×Bool):=(spec_caGood.f k l0).bind fun t304=>(if t304=true then(spec_FirstMasters.l0 k l0 3000 l0 (l0.length:Int) 0) else(some (([]:List Int),false)))
theorem spec_FirstMasters.mono_l:∀k,(∀y0 y1 y2 y3 y4,LeO (spec_FirstMasters.l0 k y0 y1 y2 y3 y4) (spec_FirstMasters.l0 (k+1) y0 y1 y2 y3 y4))∧(∀y0 y1 y2 y3 y4,LeO (spec_FirstMasters.l1 k y0 y1 y2 y3 y4) (spec_FirstMasters.l1 (k+1) y0 y1 y2 y3 y4))
 | 0=>⟨fun _ _ _ _ _ r h=>by simp[spec_FirstMasters.l0]at h,fun _ _ _ _ _ r h=>by simp[spec_FirstMasters.l1]at h⟩
 | k+1=>by
  obtain⟨ih0,ih1⟩:=spec_FirstMasters.mono_l k
  refine⟨?_,?_⟩
  intros
  unfold spec_FirstMasters.l0
  rotate_left
  intros
  unfold spec_FirstMasters.l1
  rotate_left
  all_goals repeat' first|(with_reducible first|exact ih0 _ _ _ _ _|exact ih1 _ _ _ _ _|exact spec_caGood.mono _ _|exact LeO.refl _|exact LeO.none _|refine LeO.ite ?_ ?_|refine LeO.bind ?_ (fun _=>?_))|exact ih0 _ _ _ _ _|exact ih1 _ _ _ _ _|exact spec_caGood.mono _ _|exact LeO.none _|refine LeO.ite ?_ ?_|refine LeO.bind ?_ (fun _=>?_)
theorem spec_FirstMasters.mono:∀a0 k,LeO (spec_FirstMasters.f k a0) (spec_FirstMasters.f (k+1) a0):=by
 intro a0 k;obtain⟨ih0,ih1⟩:=spec_FirstMasters.mono_l k;unfold spec_FirstMasters.f
 repeat' first
  |(with_reducible exact ih0 _ _ _ _ _)
  |(with_reducible exact ih1 _ _ _ _ _)
  |(with_reducible exact spec_caGood.mono _ _)
  |(with_reducible exact LeO.refl _)
  |(with_reducible exact LeO.none _)
  |(with_reducible refine LeO.ite ?_ ?_)
  |(with_reducible refine LeO.bind ?_ (fun _=>?_))
  |exact ih0 _ _ _ _ _
  |exact ih1 _ _ _ _ _
  |exact spec_caGood.mono _ _
  |exact LeO.none _
   | refine LeO.ite ?_ ?_
   | refine LeO.bind ?_ (fun _=>?_)
set_option maxHeartbeats 8000000 in
set_option maxRecDepth 100000 in
theorem spec_FirstMasters.calls (k:Nat) (A0:Option Addr) (c0:Nat) (l0:List (S47)) (r1:List Int) (r2:Bool) (w:World) (hr0:Kd.C k47 w A0 l0.length l0) (hc0:l0.length≤c0) (h:spec_FirstMasters.f k l0=some (r1,r2)) :
 Calls Tryz.prog 10 #[.slice A0 l0.length c0] w fun e w'=>∃v0_:Value,e = .returned (.tuple #[v0_, .bool r2])∧Kd.R (Kd.int .i64) 3 w' w.heap.size (fun _=>True) v0_ r1∧Below w.heap.size w w':=by
 (have hu47:=Tryz.underlying47);(have HR0:=am_ hr0);(have HC0:=am_ hc0);clear hr0 hc0;(have HB:=am_ (Below.refl w.heap.size w));(have H:((spec_caGood.f k l0).bind fun t304=>(if t304=true then(spec_FirstMasters.l0 k l0 3000 l0 (l0.length:Int) 0) else(some (([]:List Int),false))))=some (r1,r2):=h);clear h;obtain⟨t304,A2,H⟩:=bo_ H;(try dsimp only at H);by_cases c3:t304=true
 ·subst c3;(replace H:(spec_FirstMasters.l0 k l0 3000 l0 (l0.length:Int) 0)=some (r1,r2):=by rw[if_pos rfl]at H;exact H);(have H':=am_ H);clear H;(go_enter Tryz.func10,Tryz.ntmps10);(go_wp2_with (first|((with_reducible refine gate_callee (f:=32) rfl ?_);refine goesL_ (some 11) rfl rfl Tryz.func32 (by kernel_rfl) rfl #[.slice A0 l0.length c0] rfl gd_ ?_;(with_reducible refine(spec_caGood.calls k _ _ l0 true _ ?side1 ?side2 A2.out).mono ?_);(case side1=>exact(a15_ HR0.out));(case side2=>exact HC0.out);rintro e w4 ⟨rfl,hb⟩;refine⟨_,rfl,?_⟩;replace HB:=am_ (below_step (a1_) hb);(try clear hb);(try clear hb2);(try clear hk);(try clear hi))));(try simp only[Act.put,List.setIfInBounds_toArray,List.set_cons_zero,List.set_cons_succ])
  go_loopg [4,15] k (fun kq v4 v15 w'=>∃(x4_1:Int) (x15_1:Int),v4 = .int .i64 x4_1∧v15 = .int .i64 x15_1∧Aside0 (spec_FirstMasters.l0 kq l0 x4_1 l0 (l0.length:Int) x15_1=some (r1,r2))∧Aside0 (kq≤k)∧Aside0 (Below w.heap.size w w'))
  case atStart=>exact⟨(3000),(0),(by first | rfl|(simp;done)|(simp[*];done)),(by first | rfl|(simp;done)|(simp[*];done)),H',⟨Nat.le_refl _⟩,⟨a1_⟩⟩
  case round=>
   clear H';(try clear c1);(try clear p2);(try clear c3);obtain⟨x4_1,x15_1,rfl,rfl,HA,HK1,HB⟩:=hrel;cases gk with
   | zero=>exact absurd HA.out (by simp[spec_FirstMasters.l0])
   | succ k1=>
    (have H:=HA.out);clear HA;simp only[spec_FirstMasters.l0]at H;by_cases c5:x15_1<(l0.length:Int)
    ·rw[if_pos c5]at H;(have c5b0:decide (x15_1<(l0.length:Int))=true:=decide_eq_true c5);clear c5;by_cases c6:0≤x15_1
     ·rw[if_pos c6]at H;(have c6b0:decide (0≤x15_1)=true:=decide_eq_true c6);clear c6;by_cases c7:x15_1<(l0.length:Int)
      ·rw[if_pos c7]at H;(have c7b0:decide (x15_1<(l0.length:Int))=true:=decide_eq_true c7);clear c7;by_cases c8:((rd_T47 l0 x15_1).f3)<0
       ·rw[if_pos c8]at H;(have c8b0:decide (((rd_T47 l0 x15_1).f3)<0)=true:=decide_eq_true c8);clear c8;obtain⟨t307,A9,H⟩:=bo_ H;(try dsimp only at H);(have H':=am_ H);clear H;(have p305:0≤(x15_1:Int):=of_decide_eq_true (a6_));(have q305:x15_1<(l0.length:Int):=of_decide_eq_true (a6_));obtain⟨ad305,e305,hx305_0,hx305_1,hx305_2,hx305_3⟩:=at_T47 HR0.out x15_1 p305 q305;cases e305;replace hx305_0:=(HB.out.cell (World.block_lt_of_cell? w _ hx305_0)).trans hx305_0;replace hx305_1:=(HB.out.cell (World.block_lt_of_cell? w _ hx305_1)).trans hx305_1;replace hx305_2:=(HB.out.cell (World.block_lt_of_cell? w _ hx305_2)).trans hx305_2;replace hx305_3:=(HB.out.cell (World.block_lt_of_cell? w _ hx305_3)).trans hx305_3;replace p305:=eq_true p305;replace q305:=eq_true q305;(go_wp2_with (first|((with_reducible refine gate_dst (N:=6) rfl ?_);refine box_event ?hg (N:=6) ?hd (cs:= #[.string (⟨#[]⟩:ByteArray), .string (⟨#[]⟩:ByteArray), .int .i64 0, .int .i64 0]) (t:=47) ?hr ?_;(case hd=>rfl);(case hg=>rfl);(case hr=>exact hr_);intro gb306 hg w10 hbox hb;have BK306:=am_ (hbox);have GW306:=am_ ((by rw[hg];exact(below_size (a1_)):w.heap.size≤gb306));have GE306:=am_ ((by rw[hg];exact(below_size (a1_)):w.heap.size≤gb306));replace HB:=am_ (below_step (a1_) hb);clear hb hbox hg;have hcz11_0:w10.cell? ⟨gb306,0,none⟩=some (.string (⟨#[]⟩:ByteArray)):=(blk_cell BK306.out 0).trans rfl;have hcz11_1:w10.cell? ⟨gb306,1,none⟩=some (.string (⟨#[]⟩:ByteArray)):=(blk_cell BK306.out 1).trans rfl;have hcz11_2:w10.cell? ⟨gb306,2,none⟩=some (.int .i64 0):=(blk_cell BK306.out 2).trans rfl;have hcz11_3:w10.cell? ⟨gb306,3,none⟩=some (.int .i64 0):=(blk_cell BK306.out 3).trans rfl;have hfz11_0:=blk_frozen BK306.out 0;have hfz11_1:=blk_frozen BK306.out 1;have hfz11_2:=blk_frozen BK306.out 2;have hfz11_3:=blk_frozen BK306.out 3)|((with_reducible refine gate_callee (f:=36) rfl ?_);refine goesL_ (some 25) rfl rfl Tryz.func36 (by kernel_rfl) rfl #[.int .i64 x4_1, .int .i64 ((rd_T47 l0 x15_1).f2)] rfl gd_ ?_;(with_reducible refine(spec_l1Least.calls x4_1 ((rd_T47 l0 x15_1).f2) t307 _ A9.out).mono ?_);rintro e w' ⟨rfl,⟨nd,rfl⟩⟩;refine⟨_,rfl,?_⟩)));(go_roundg k1)
        case measure=>have:=HK1.out;omega
        case rel=>exact⟨(t307),(wrap64 (x15_1+1)),(by first | rfl|(simp;done)|(simp[*];done)),(by first | rfl|(simp;done)|(simp[*];done)),H',⟨by have:=HK1.out;omega⟩,⟨(a5_ GE306.out)⟩⟩
       ·rw[if_neg c8]at H;(have c8b0:decide (((rd_T47 l0 x15_1).f3)<0)=false:=decide_eq_false c8);clear c8;(have H':=am_ H);clear H;(have p305:0≤(x15_1:Int):=of_decide_eq_true (a6_));(have q305:x15_1<(l0.length:Int):=of_decide_eq_true (a6_));obtain⟨ad305,e305,hx305_0,hx305_1,hx305_2,hx305_3⟩:=at_T47 HR0.out x15_1 p305 q305;cases e305;replace hx305_0:=(HB.out.cell (World.block_lt_of_cell? w _ hx305_0)).trans hx305_0;replace hx305_1:=(HB.out.cell (World.block_lt_of_cell? w _ hx305_1)).trans hx305_1;replace hx305_2:=(HB.out.cell (World.block_lt_of_cell? w _ hx305_2)).trans hx305_2;replace hx305_3:=(HB.out.cell (World.block_lt_of_cell? w _ hx305_3)).trans hx305_3;replace p305:=eq_true p305;replace q305:=eq_true q305;(go_wp2_with (first|((with_reducible refine gate_dst (N:=6) rfl ?_);refine box_event ?hg (N:=6) ?hd (cs:= #[.string (⟨#[]⟩:ByteArray), .string (⟨#[]⟩:ByteArray), .int .i64 0, .int .i64 0]) (t:=47) ?hr ?_;(case hd=>rfl);(case hg=>rfl);(case hr=>exact hr_);intro gb306 hg w12 hbox hb;have BK306:=am_ (hbox);have GW306:=am_ ((by rw[hg];exact(below_size (a1_)):w.heap.size≤gb306));have GE306:=am_ ((by rw[hg];exact(below_size (a1_)):w.heap.size≤gb306));replace HB:=am_ (below_step (a1_) hb);clear hb hbox hg;have hcz13_0:w12.cell? ⟨gb306,0,none⟩=some (.string (⟨#[]⟩:ByteArray)):=(blk_cell BK306.out 0).trans rfl;have hcz13_1:w12.cell? ⟨gb306,1,none⟩=some (.string (⟨#[]⟩:ByteArray)):=(blk_cell BK306.out 1).trans rfl;have hcz13_2:w12.cell? ⟨gb306,2,none⟩=some (.int .i64 0):=(blk_cell BK306.out 2).trans rfl;have hcz13_3:w12.cell? ⟨gb306,3,none⟩=some (.int .i64 0):=(blk_cell BK306.out 3).trans rfl;have hfz13_0:=blk_frozen BK306.out 0;have hfz13_1:=blk_frozen BK306.out 1;have hfz13_2:=blk_frozen BK306.out 2;have hfz13_3:=blk_frozen BK306.out 3)));(go_roundg k1)
        case measure=>have:=HK1.out;omega
        case rel=>exact⟨(x4_1),(wrap64 (x15_1+1)),(by first | rfl|(simp;done)|(simp[*];done)),(by first | rfl|(simp;done)|(simp[*];done)),H',⟨by have:=HK1.out;omega⟩,⟨(a5_ GE306.out)⟩⟩
      (focus rw[if_neg c7]at H;exact absurd H (by simp))
     (focus rw[if_neg c6]at H;exact absurd H (by simp))
    ·rw[if_neg c5]at H;(have c5b0:decide (x15_1<(l0.length:Int))=false:=decide_eq_false c5);clear c5;(have H':=am_ H);clear H;go_wp2;(try simp only[Act.put,List.setIfInBounds_toArray,List.set_cons_zero,List.set_cons_succ])
     go_loopg [7,29] k1 (fun kq v7 v29 w'=>∃(x7_2:List Int) (x29_2:Int),v29 = .int .i64 x29_2∧Aside0 (spec_FirstMasters.l1 kq x4_1 x7_2 l0 (l0.length:Int) x29_2=some (r1,r2))∧Aside0 (kq≤k1)∧Aside0 (Kd.R (Kd.int .i64) 3 w' w.heap.size (fun _=>True) v7 x7_2)∧Aside0 (Below w.heap.size w w'))
     case atStart=>exact⟨(([]:List Int)),(0),(by first | rfl|(simp;done)|(simp[*];done)),H',⟨Nat.le_refl _⟩,⟨a17_⟩,⟨a1_⟩⟩
     case round=>
      clear H';(try clear c1);(try clear p2);(try clear c3);(try clear p3);(try clear q3);(try clear hx3);(try clear c5);(try clear c5b0);(try clear c6);(try clear c6b0);(try clear p6);(try clear c7);(try clear c7b0);(try clear c8);(try clear c8b0);(try clear c10);(try clear hcz11_0);(try clear hcz11_1);(try clear hcz11_2);(try clear hcz11_3);(try clear hcz13_0);(try clear hcz13_1);(try clear hcz13_2);(try clear hcz13_3);(try clear hfz11_0);(try clear hfz11_1);(try clear hfz11_2);(try clear hfz11_3);(try clear hfz13_0);(try clear hfz13_1);(try clear hfz13_2);(try clear hfz13_3);(try clear hx305_0);(try clear hx305_1);(try clear hx305_2);(try clear hx305_3);(try clear p2);(try clear p305);(try clear q305);obtain⟨x7_2,x29_2,rfl,HA,HK2,HO_7,HB⟩:=hrel;cases gk with
      | zero=>exact absurd HA.out (by simp[spec_FirstMasters.l1])
      | succ k2=>
       (have H:=HA.out);clear HA;simp only[spec_FirstMasters.l1]at H;by_cases c14:x29_2<(l0.length:Int)
       ·rw[if_pos c14]at H;(have c14b0:decide (x29_2<(l0.length:Int))=true:=decide_eq_true c14);clear c14;by_cases c15:0≤x29_2
        ·rw[if_pos c15]at H;(have c15b0:decide (0≤x29_2)=true:=decide_eq_true c15);clear c15;by_cases c16:x29_2<(l0.length:Int)
         ·rw[if_pos c16]at H;(have c16b0:decide (x29_2<(l0.length:Int))=true:=decide_eq_true c16);clear c16;by_cases c17:((rd_T47 l0 x29_2).f3)<0
          ·rw[if_pos c17]at H;(have c17b0:decide (((rd_T47 l0 x29_2).f3)<0)=true:=decide_eq_true c17);clear c17;by_cases c18:((rd_T47 l0 x29_2).f2)=x4_1
           ·rw[if_pos c18]at H;(have c18b0:(((rd_T47 l0 x29_2).f2) == x4_1)=true:=beq_iff_eq.mpr c18);(have c18b1:(((rd_T47 l0 x29_2).f2) != x4_1)=false:=bne_eq_false_iff_eq.mpr c18);clear c18;by_cases c19:x7_2.length<17592186044416
            ·rw[if_pos c19]at H;(have LMc19:=am_ c19);clear c19;(obtain⟨y310,hy310⟩:∃y_:List Int,y_=(x7_2 ++ [x29_2]):=⟨_,rfl⟩);(replace H:(spec_FirstMasters.l1 k2 x4_1 y310 l0 (l0.length:Int) (wrap64 (x29_2+1)))=some (r1,r2):=by first|(rw[hy310];with_reducible exact H)|(have H2_:=(Option.bind_some _ _).symm.trans H;rw[hy310];with_reducible exact H2_)|(have H2_:=(Option.bind_some _ _).symm.trans H;with_reducible exact H2_) | with_reducible exact H|(rw[hy310];exact H)|exact H);(have Ny310:=am_ hy310);clear hy310;(have H':=am_ H);clear H;(have p308:0≤(x29_2:Int):=of_decide_eq_true (a6_));(have q308:x29_2<(l0.length:Int):=of_decide_eq_true (a6_));obtain⟨ad308,e308,hx308_0,hx308_1,hx308_2,hx308_3⟩:=at_T47 HR0.out x29_2 p308 q308;cases e308;replace hx308_0:=(HB.out.cell (World.block_lt_of_cell? w _ hx308_0)).trans hx308_0;replace hx308_1:=(HB.out.cell (World.block_lt_of_cell? w _ hx308_1)).trans hx308_1;replace hx308_2:=(HB.out.cell (World.block_lt_of_cell? w _ hx308_2)).trans hx308_2;replace hx308_3:=(HB.out.cell (World.block_lt_of_cell? w _ hx308_3)).trans hx308_3;replace p308:=eq_true p308;replace q308:=eq_true q308;(go_wp2_with (first|((with_reducible refine gate_dst (N:=9) rfl ?_);refine box_event ?hg (N:=9) ?hd (cs:= #[.string (⟨#[]⟩:ByteArray), .string (⟨#[]⟩:ByteArray), .int .i64 0, .int .i64 0]) (t:=47) ?hr ?_;(case hd=>rfl);(case hg=>rfl);(case hr=>exact hr_);intro gb309 hg w20 hbox hb;replace HO_7:=am_ (Kd.R_below ((a0_ HO_7.out)) hb);have BK309:=am_ (hbox);have GW309:=am_ ((by rw[hg];exact(below_size (a1_)):w.heap.size≤gb309));have GE309:=am_ ((by rw[hg];exact(below_size (a1_)):w.heap.size≤gb309));replace HB:=am_ (below_step (a1_) hb);clear hb hbox hg;have hcz21_0:w20.cell? ⟨gb309,0,none⟩=some (.string (⟨#[]⟩:ByteArray)):=(blk_cell BK309.out 0).trans rfl;have hcz21_1:w20.cell? ⟨gb309,1,none⟩=some (.string (⟨#[]⟩:ByteArray)):=(blk_cell BK309.out 1).trans rfl;have hcz21_2:w20.cell? ⟨gb309,2,none⟩=some (.int .i64 0):=(blk_cell BK309.out 2).trans rfl;have hcz21_3:w20.cell? ⟨gb309,3,none⟩=some (.int .i64 0):=(blk_cell BK309.out 3).trans rfl;have hfz21_0:=blk_frozen BK309.out 0;have hfz21_1:=blk_frozen BK309.out 1;have hfz21_2:=blk_frozen BK309.out 2;have hfz21_3:=blk_frozen BK309.out 3)|((with_reducible refine gate_builtin (b:= .append) (xs:= #[.tmp 43, .tmp 45]) rfl ?_);at_builtin;refine Kd.R_append (Kd.int .i64) (w0:=w) w.heap.size rfl (.tmp 43) (.tmp 45) 27 3 (.int .i64 0) 8 rfl Tryz.underlying27 info3 rfl (by decide) (by omega) u7 x7_2 x29_2 [.int .i64 x29_2] (fun _=>True) (fun _=>False) rfl (by first|(go_simp;done)|(go_simp;rfl)) ?aP (fun _ hk=>hk.elim) ?aF ?aO ?aB ?aS ?aL ?_;(case aP=>exact rfl);(case aB=>exact((a5_ GE309.out)));(case aF=>exact(fun _ _=>trivial));(case aO=>exact((a29_ HO_7.out BK309.out)));(case aS=>exact(below_size ((a5_ GE309.out))));(case aL=>have:=LMc19.out;omega);intro v311 w22 ho hb hg hat;rw[← Ny310.out]at ho;have n0_:=am_ (blk_grown (g:=gb309) (o:= .cells #[.string ((rd_T47 l0 x29_2).f0), .string ((rd_T47 l0 x29_2).f1), .int .i64 ((rd_T47 l0 x29_2).f2), .int .i64 ((rd_T47 l0 x29_2).f3)] 47 (0,0)) (by(with_reducible repeat (first|refine blk_drewN ?_ _ | refine blk_drew ?_ | refine blk_alloc ?_ _));refine blk_put (cs:= #[.string ((rd_T47 l0 x29_2).f0), .string ((rd_T47 l0 x29_2).f1), .int .i64 ((rd_T47 l0 x29_2).f2), .int .i64 0]) ?_ 3 _ rfl;(with_reducible repeat (first|refine blk_drewN ?_ _ | refine blk_drew ?_ | refine blk_alloc ?_ _));refine blk_put (cs:= #[.string ((rd_T47 l0 x29_2).f0), .string ((rd_T47 l0 x29_2).f1), .int .i64 0, .int .i64 0]) ?_ 2 _ rfl;(with_reducible repeat (first|refine blk_drewN ?_ _ | refine blk_drew ?_ | refine blk_alloc ?_ _));refine blk_put (cs:= #[.string ((rd_T47 l0 x29_2).f0), .string (⟨#[]⟩:ByteArray), .int .i64 0, .int .i64 0]) ?_ 1 _ rfl;(with_reducible repeat (first|refine blk_drewN ?_ _ | refine blk_drew ?_ | refine blk_alloc ?_ _));refine blk_put (cs:= #[.string (⟨#[]⟩:ByteArray), .string (⟨#[]⟩:ByteArray), .int .i64 0, .int .i64 0]) ?_ 0 _ rfl;(with_reducible repeat (first|refine blk_drewN ?_ _ | refine blk_drew ?_ | refine blk_alloc ?_ _));exact BK309.out) hg (Kd.R_ne HO_7.out BK309.out (by decide)));have n1_:=am_ (hb);have n2_:=am_ (ho);clear BK309 HB HO_7;have BK309:=n0_;have HB:=n1_;have HO312:=n2_;clear n0_ n1_ n2_ ho hb hg hat)));(go_roundg k2)
             case measure=>have:=HK1.out;have:=HK2.out;omega
             case rel=>exact⟨(y310),(wrap64 (x29_2+1)),(by first | rfl|(simp;done)|(simp[*];done)),H',⟨by have:=HK1.out;have:=HK2.out;omega⟩,⟨(a0_ HO312.out)⟩,⟨(a5_ GE309.out)⟩⟩
            (focus rw[if_neg c19]at H;exact absurd H (by simp))
           ·rw[if_neg c18]at H;(have c18b0:(((rd_T47 l0 x29_2).f2) == x4_1)=false:=beq_eq_false_iff_ne.mpr c18);(have c18b1:(((rd_T47 l0 x29_2).f2) != x4_1)=true:=bne_iff_ne.mpr c18);(have H':=am_ H);clear H;(have p308:0≤(x29_2:Int):=of_decide_eq_true (a6_));(have q308:x29_2<(l0.length:Int):=of_decide_eq_true (a6_));obtain⟨ad308,e308,hx308_0,hx308_1,hx308_2,hx308_3⟩:=at_T47 HR0.out x29_2 p308 q308;cases e308;replace hx308_0:=(HB.out.cell (World.block_lt_of_cell? w _ hx308_0)).trans hx308_0;replace hx308_1:=(HB.out.cell (World.block_lt_of_cell? w _ hx308_1)).trans hx308_1;replace hx308_2:=(HB.out.cell (World.block_lt_of_cell? w _ hx308_2)).trans hx308_2;replace hx308_3:=(HB.out.cell (World.block_lt_of_cell? w _ hx308_3)).trans hx308_3;replace p308:=eq_true p308;replace q308:=eq_true q308;(go_wp2_with (first|((with_reducible refine gate_dst (N:=9) rfl ?_);refine box_event ?hg (N:=9) ?hd (cs:= #[.string (⟨#[]⟩:ByteArray), .string (⟨#[]⟩:ByteArray), .int .i64 0, .int .i64 0]) (t:=47) ?hr ?_;(case hd=>rfl);(case hg=>rfl);(case hr=>exact hr_);intro gb309 hg w23 hbox hb;replace HO_7:=am_ (Kd.R_below ((a0_ HO_7.out)) hb);have BK309:=am_ (hbox);have GW309:=am_ ((by rw[hg];exact(below_size (a1_)):w.heap.size≤gb309));have GE309:=am_ ((by rw[hg];exact(below_size (a1_)):w.heap.size≤gb309));replace HB:=am_ (below_step (a1_) hb);clear hb hbox hg;have hcz24_0:w23.cell? ⟨gb309,0,none⟩=some (.string (⟨#[]⟩:ByteArray)):=(blk_cell BK309.out 0).trans rfl;have hcz24_1:w23.cell? ⟨gb309,1,none⟩=some (.string (⟨#[]⟩:ByteArray)):=(blk_cell BK309.out 1).trans rfl;have hcz24_2:w23.cell? ⟨gb309,2,none⟩=some (.int .i64 0):=(blk_cell BK309.out 2).trans rfl;have hcz24_3:w23.cell? ⟨gb309,3,none⟩=some (.int .i64 0):=(blk_cell BK309.out 3).trans rfl;have hfz24_0:=blk_frozen BK309.out 0;have hfz24_1:=blk_frozen BK309.out 1;have hfz24_2:=blk_frozen BK309.out 2;have hfz24_3:=blk_frozen BK309.out 3)));(go_roundg k2)
            case measure=>have:=HK1.out;have:=HK2.out;omega
            case rel=>exact⟨(x7_2),(wrap64 (x29_2+1)),(by first | rfl|(simp;done)|(simp[*];done)),H',⟨by have:=HK1.out;have:=HK2.out;omega⟩,⟨(a29_ HO_7.out BK309.out)⟩,⟨(a5_ GE309.out)⟩⟩
          ·rw[if_neg c17]at H;(have c17b0:decide (((rd_T47 l0 x29_2).f3)<0)=false:=decide_eq_false c17);clear c17;(have H':=am_ H);clear H;(have p308:0≤(x29_2:Int):=of_decide_eq_true (a6_));(have q308:x29_2<(l0.length:Int):=of_decide_eq_true (a6_));obtain⟨ad308,e308,hx308_0,hx308_1,hx308_2,hx308_3⟩:=at_T47 HR0.out x29_2 p308 q308;cases e308;replace hx308_0:=(HB.out.cell (World.block_lt_of_cell? w _ hx308_0)).trans hx308_0;replace hx308_1:=(HB.out.cell (World.block_lt_of_cell? w _ hx308_1)).trans hx308_1;replace hx308_2:=(HB.out.cell (World.block_lt_of_cell? w _ hx308_2)).trans hx308_2;replace hx308_3:=(HB.out.cell (World.block_lt_of_cell? w _ hx308_3)).trans hx308_3;replace p308:=eq_true p308;replace q308:=eq_true q308;(go_wp2_with (first|((with_reducible refine gate_dst (N:=9) rfl ?_);refine box_event ?hg (N:=9) ?hd (cs:= #[.string (⟨#[]⟩:ByteArray), .string (⟨#[]⟩:ByteArray), .int .i64 0, .int .i64 0]) (t:=47) ?hr ?_;(case hd=>rfl);(case hg=>rfl);(case hr=>exact hr_);intro gb309 hg w25 hbox hb;replace HO_7:=am_ (Kd.R_below ((a0_ HO_7.out)) hb);have BK309:=am_ (hbox);have GW309:=am_ ((by rw[hg];exact(below_size (a1_)):w.heap.size≤gb309));have GE309:=am_ ((by rw[hg];exact(below_size (a1_)):w.heap.size≤gb309));replace HB:=am_ (below_step (a1_) hb);clear hb hbox hg;have hcz26_0:w25.cell? ⟨gb309,0,none⟩=some (.string (⟨#[]⟩:ByteArray)):=(blk_cell BK309.out 0).trans rfl;have hcz26_1:w25.cell? ⟨gb309,1,none⟩=some (.string (⟨#[]⟩:ByteArray)):=(blk_cell BK309.out 1).trans rfl;have hcz26_2:w25.cell? ⟨gb309,2,none⟩=some (.int .i64 0):=(blk_cell BK309.out 2).trans rfl;have hcz26_3:w25.cell? ⟨gb309,3,none⟩=some (.int .i64 0):=(blk_cell BK309.out 3).trans rfl;have hfz26_0:=blk_frozen BK309.out 0;have hfz26_1:=blk_frozen BK309.out 1;have hfz26_2:=blk_frozen BK309.out 2;have hfz26_3:=blk_frozen BK309.out 3)));(go_roundg k2)
           case measure=>have:=HK1.out;have:=HK2.out;omega
           case rel=>exact⟨(x7_2),(wrap64 (x29_2+1)),(by first | rfl|(simp;done)|(simp[*];done)),H',⟨by have:=HK1.out;have:=HK2.out;omega⟩,⟨(a29_ HO_7.out BK309.out)⟩,⟨(a5_ GE309.out)⟩⟩
         (focus rw[if_neg c16]at H;exact absurd H (by simp))
        (focus rw[if_neg c15]at H;exact absurd H (by simp))
       (focus rw[if_neg c14]at H;(have c14b0:decide (x29_2<(l0.length:Int))=false:=decide_eq_false c14);clear c14;simp only[Option.some.injEq,Prod.mk.injEq]at H;obtain⟨rfl,rfl⟩:=H;go_wp2;go_ret2;exact⟨_,a10_,(a0_ HO_7.out),a1_⟩)
 (focus replace c3:=Bool.eq_false_iff.mpr c3;subst c3;(replace H:(some (([]:List Int),false))=some (r1,r2):=by rw[if_neg (show ¬(false=true) by decide)]at H;exact H);simp only[Option.some.injEq,Prod.mk.injEq]at H;obtain⟨rfl,rfl⟩:=H;(go_enter Tryz.func10,Tryz.ntmps10);(go_wp2_with (first|((with_reducible refine gate_callee (f:=32) rfl ?_);refine goesL_ (some 11) rfl rfl Tryz.func32 (by kernel_rfl) rfl #[.slice A0 l0.length c0] rfl gd_ ?_;(with_reducible refine(spec_caGood.calls k _ _ l0 false _ ?side1 ?side2 A2.out).mono ?_);(case side1=>exact(a15_ HR0.out));(case side2=>exact HC0.out);rintro e w27 ⟨rfl,hb⟩;refine⟨_,rfl,?_⟩;replace HB:=am_ (below_step (a1_) hb);(try clear hb);(try clear hb2);(try clear hk);(try clear hi))));go_ret2;exact⟨_,a10_,a17_,a1_⟩)

/-! ### slices_Index_string_string: function 62 -/
def slices_Index_string_string.l0:Nat→List ByteArray→ByteArray→Int→Int→Option (Int)
 | 0,_,_,_,_=>none
 | k+1,x0,x1,x7,x8=>if x8<x7 then(if 0≤x8 then(if x8<(x0.length:Int) then(if x1.toList=(rdOf ByteArray.empty x0 x8).toList then(some x8) else(slices_Index_string_string.l0 k x0 x1 x7 (wrap64 (x8+1)))) else(none)) else(none)) else(some (-1))
def slices_Index_string_string.f (k:Nat) (l0:List ByteArray) (a1:ByteArray):Option (Int):=slices_Index_string_string.l0 k l0 a1 (l0.length:Int) 0
theorem slices_Index_string_string.mono_l:∀k,(∀y0 y1 y2 y3,LeO (slices_Index_string_string.l0 k y0 y1 y2 y3) (slices_Index_string_string.l0 (k+1) y0 y1 y2 y3))
 | 0=>fun _ _ _ _ r h=>by simp[slices_Index_string_string.l0]at h
 | k+1=>by
  have ih0:=slices_Index_string_string.mono_l k
  intros
  unfold slices_Index_string_string.l0
  rotate_left
  all_goals repeat' first|(with_reducible first|exact ih0 _ _ _ _|exact LeO.refl _|exact LeO.none _|refine LeO.ite ?_ ?_|refine LeO.bind ?_ (fun _=>?_))|exact ih0 _ _ _ _|exact LeO.none _|refine LeO.ite ?_ ?_|refine LeO.bind ?_ (fun _=>?_)
theorem slices_Index_string_string.mono:∀a0 a1 k,LeO (slices_Index_string_string.f k a0 a1) (slices_Index_string_string.f (k+1) a0 a1):=by
 intro a0 a1 k;(have ih0:=slices_Index_string_string.mono_l k);unfold slices_Index_string_string.f
 repeat' first
  |(with_reducible exact ih0 _ _ _ _)
  |(with_reducible exact LeO.refl _)
  |(with_reducible exact LeO.none _)
  |(with_reducible refine LeO.ite ?_ ?_)
  |(with_reducible refine LeO.bind ?_ (fun _=>?_))
  |exact ih0 _ _ _ _
  |exact LeO.none _
   | refine LeO.ite ?_ ?_
   | refine LeO.bind ?_ (fun _=>?_)
set_option maxHeartbeats 8000000 in
set_option maxRecDepth 100000 in
theorem slices_Index_string_string.calls (k:Nat) (A0:Option Addr) (c0:Nat) (l0:List ByteArray) (a1:ByteArray) (r:Int) (w:World) (hr0:Kd.C Kd.string w A0 l0.length l0) (hc0:l0.length≤c0) (h:slices_Index_string_string.f k l0 a1=some r) :
 Calls Tryz.prog 62 #[.slice A0 l0.length c0, .string a1] w fun e w'=>e = .returned (.int .i64 r)∧Drawn0 w w':=by
 (have HR0:=am_ hr0);(have HC0:=am_ hc0);clear hr0 hc0;(have H:(slices_Index_string_string.l0 k l0 a1 (l0.length:Int) 0)=some r:=h);clear h;(have H':=am_ H);clear H;(go_enter Tryz.func62,Tryz.ntmps62);go_wp2;(try simp only[Act.put,List.setIfInBounds_toArray,List.set_cons_zero,List.set_cons_succ])
 go_loopg [8] k (fun kq v8 w'=>∃(x8_1:Int),v8 = .int .i64 x8_1∧Aside0 (slices_Index_string_string.l0 kq l0 a1 (l0.length:Int) x8_1=some r)∧Aside0 (kq≤k)∧Drawn0 w w')
 case atStart=>exact⟨(0),(by first | rfl|(simp;done)|(simp[*];done)),H',⟨Nat.le_refl _⟩,a19_⟩
 case round=>
  clear H';(try clear p2);obtain⟨x8_1,rfl,HA,HK1,⟨m1,rfl⟩⟩:=hrel;cases gk with
  | zero=>exact absurd HA.out (by simp[slices_Index_string_string.l0])
  | succ k1=>
   (have H:=HA.out);clear HA;simp only[slices_Index_string_string.l0]at H;by_cases c3:x8_1<(l0.length:Int)
   ·rw[if_pos c3]at H;(have c3b0:decide (x8_1<(l0.length:Int))=true:=decide_eq_true c3);clear c3;by_cases c4:0≤x8_1
    ·rw[if_pos c4]at H;(have c4b0:decide (0≤x8_1)=true:=decide_eq_true c4);clear c4;by_cases c5:x8_1<(l0.length:Int)
     ·rw[if_pos c5]at H;(have c5b0:decide (x8_1<(l0.length:Int))=true:=decide_eq_true c5);clear c5;by_cases c6:a1.toList=(rdOf ByteArray.empty l0 x8_1).toList;(focus rw[if_pos c6]at H;(have c6b0:(a1.toList == (rdOf ByteArray.empty l0 x8_1).toList)=true:=beq_iff_eq.mpr c6);(have c6b1:(a1.toList != (rdOf ByteArray.empty l0 x8_1).toList)=false:=bne_eq_false_iff_eq.mpr c6);clear c6;obtain rfl:=Option.some.inj H;(have p313:0≤(x8_1:Int):=of_decide_eq_true (a6_));(have q313:x8_1<(l0.length:Int):=of_decide_eq_true (a6_));obtain⟨ad313,e313,hx313_0⟩:=Kd.at_string HR0.out x8_1 p313 q313;cases e313;replace p313:=eq_true p313;replace q313:=eq_true q313;go_wp2;go_ret;exact⟨by first | rfl|(simp;done)|(simp[*];done),a19_⟩)
      ·rw[if_neg c6]at H;(have c6b0:(a1.toList == (rdOf ByteArray.empty l0 x8_1).toList)=false:=beq_eq_false_iff_ne.mpr c6);(have c6b1:(a1.toList != (rdOf ByteArray.empty l0 x8_1).toList)=true:=bne_iff_ne.mpr c6);(have H':=am_ H);clear H;(have p313:0≤(x8_1:Int):=of_decide_eq_true (a6_));(have q313:x8_1<(l0.length:Int):=of_decide_eq_true (a6_));obtain⟨ad313,e313,hx313_0⟩:=Kd.at_string HR0.out x8_1 p313 q313;cases e313;replace p313:=eq_true p313;replace q313:=eq_true q313;go_wp2;(go_roundg k1)
       case measure=>have:=HK1.out;omega
       case rel=>exact⟨(wrap64 (x8_1+1)),(by first | rfl|(simp;done)|(simp[*];done)),H',⟨by have:=HK1.out;omega⟩,a19_⟩
     (focus rw[if_neg c5]at H;exact absurd H (by simp))
    (focus rw[if_neg c4]at H;exact absurd H (by simp))
   (focus rw[if_neg c3]at H;(have c3b0:decide (x8_1<(l0.length:Int))=false:=decide_eq_false c3);clear c3;obtain rfl:=Option.some.inj H;go_wp2;go_ret;exact⟨by first | rfl|(simp;done)|(simp[*];done),a19_⟩)

/-! ### slices_Contains_string_string: function 37 -/
def slices_Contains_string_string.f (k:Nat) (l0:List ByteArray) (a1:ByteArray):Option (Bool):=(slices_Index_string_string.f k l0 a1).bind fun t314=>(some (decide (t314≥0)))
theorem slices_Contains_string_string.mono:∀a0 a1 k,LeO (slices_Contains_string_string.f k a0 a1) (slices_Contains_string_string.f (k+1) a0 a1):=by
 intro a0 a1 k;unfold slices_Contains_string_string.f
 repeat' first
  |(with_reducible exact slices_Index_string_string.mono _ _ _)
  |(with_reducible exact LeO.refl _)
  |(with_reducible exact LeO.none _)
  |(with_reducible refine LeO.ite ?_ ?_)
  |(with_reducible refine LeO.bind ?_ (fun _=>?_))
  |exact slices_Index_string_string.mono _ _ _
  |exact LeO.none _
   | refine LeO.ite ?_ ?_
   | refine LeO.bind ?_ (fun _=>?_)
set_option maxHeartbeats 8000000 in
set_option maxRecDepth 100000 in
theorem slices_Contains_string_string.calls (k:Nat) (A0:Option Addr) (c0:Nat) (l0:List ByteArray) (a1:ByteArray) (r:Bool) (w:World) (hr0:Kd.C Kd.string w A0 l0.length l0) (hc0:l0.length≤c0) (h:slices_Contains_string_string.f k l0 a1=some r) :
 Calls Tryz.prog 37 #[.slice A0 l0.length c0, .string a1] w fun e w'=>e = .returned (.bool r)∧Drawn0 w w':=by
 (have HR0:=am_ hr0);(have HC0:=am_ hc0);clear hr0 hc0;(have H:((slices_Index_string_string.f k l0 a1).bind fun t314=>(some (decide (t314≥0))))=some r:=h);clear h;obtain⟨t314,A3,H⟩:=bo_ H;(try dsimp only at H);obtain rfl:=Option.some.inj H;(go_enter Tryz.func37,Tryz.ntmps37);(go_wp2_with (first|((with_reducible refine gate_callee (f:=62) rfl ?_);refine goesL_ (some 7) rfl rfl Tryz.func62 (by kernel_rfl) rfl #[.slice A0 l0.length c0, .string a1] rfl gd_ ?_;(with_reducible refine(slices_Index_string_string.calls k _ _ l0 a1 t314 _ ?side1 ?side2 A3.out).mono ?_);(case side1=>exact(a15_ HR0.out));(case side2=>exact HC0.out);rintro e w' ⟨rfl,⟨nd,rfl⟩⟩;refine⟨_,rfl,?_⟩)));go_ret;exact⟨by first | rfl|(simp;done)|(simp[*];done),a19_⟩

/-! ### impl_MakersOf: function 11 -/
def impl_MakersOf.l0:Nat→List ByteArray→List (S47)→Int→Int→Option (List ByteArray×Bool)
 | 0,_,_,_,_=>none
 | k+1,x4,x11,x12,x13=>if x13<x12 then(if 0≤x13 then(if x13<(x11.length:Int) then((slices_Contains_string_string.f k x4 ((rd_T47 x11 x13).f1)).bind fun t321=>(if t321=true then(impl_MakersOf.l0 k x4 x11 x12 (wrap64 (x13+1))) else(if x4.length<8796093022208 then(impl_MakersOf.l0 k (x4 ++ [(rd_T47 x11 x13).f1]) x11 x12 (wrap64 (x13+1))) else(none)))) else(none)) else(none)) else(some (x4,true))
def impl_MakersOf.f (k:Nat) (l0:List (S47)):Option (List ByteArray×Bool):=(impl_IsCatalogue.f k l0).bind fun t315=>(if t315=true then(impl_MakersOf.l0 k (([]:List ByteArray)) l0 (l0.length:Int) 0) else(some (([]:List ByteArray),false)))
theorem impl_MakersOf.mono_l:∀k,(∀y0 y1 y2 y3,LeO (impl_MakersOf.l0 k y0 y1 y2 y3) (impl_MakersOf.l0 (k+1) y0 y1 y2 y3))
 | 0=>fun _ _ _ _ r h=>by simp[impl_MakersOf.l0]at h
 | k+1=>by
  have ih0:=impl_MakersOf.mono_l k
  intros
  unfold impl_MakersOf.l0
  rotate_left
  all_goals repeat' first|(with_reducible first|exact ih0 _ _ _ _|exact impl_IsCatalogue.mono _ _|exact slices_Contains_string_string.mono _ _ _|exact LeO.refl _|exact LeO.none _|refine LeO.ite ?_ ?_|refine LeO.bind ?_ (fun _=>?_))|exact ih0 _ _ _ _|exact impl_IsCatalogue.mono _ _|exact slices_Contains_string_string.mono _ _ _|exact LeO.none _|refine LeO.ite ?_ ?_|refine LeO.bind ?_ (fun _=>?_)
theorem impl_MakersOf.mono:∀a0 k,LeO (impl_MakersOf.f k a0) (impl_MakersOf.f (k+1) a0):=by
 intro a0 k;(have ih0:=impl_MakersOf.mono_l k);unfold impl_MakersOf.f
 repeat' first
  |(with_reducible exact ih0 _ _ _ _)
  |(with_reducible exact impl_IsCatalogue.mono _ _)
  |(with_reducible exact slices_Contains_string_string.mono _ _ _)
  |(with_reducible exact LeO.refl _)
  |(with_reducible exact LeO.none _)
  |(with_reducible refine LeO.ite ?_ ?_)
  |(with_reducible refine LeO.bind ?_ (fun _=>?_))
  |exact ih0 _ _ _ _
  |exact impl_IsCatalogue.mono _ _
  |exact slices_Contains_string_string.mono _ _ _
  |exact LeO.none _
   | refine LeO.ite ?_ ?_
   | refine LeO.bind ?_ (fun _=>?_)
set_option maxHeartbeats 8000000 in
set_option maxRecDepth 100000 in
theorem impl_MakersOf.calls (k:Nat) (A0:Option Addr) (c0:Nat) (l0:List (S47)) (r1:List ByteArray) (r2:Bool) (w:World) (hr0:Kd.C k47 w A0 l0.length l0) (hc0:l0.length≤c0) (h:impl_MakersOf.f k l0=some (r1,r2)) :
 Calls Tryz.prog 11 #[.slice A0 l0.length c0] w fun e w'=>∃v0_:Value,e = .returned (.tuple #[v0_, .bool r2])∧Kd.R Kd.string 9 w' w.heap.size (fun _=>True) v0_ r1∧Below w.heap.size w w':=by
 (have hu47:=Tryz.underlying47);(have HR0:=am_ hr0);(have HC0:=am_ hc0);clear hr0 hc0;(have HB:=am_ (Below.refl w.heap.size w));(have H:((impl_IsCatalogue.f k l0).bind fun t315=>(if t315=true then(impl_MakersOf.l0 k (([]:List ByteArray)) l0 (l0.length:Int) 0) else(some (([]:List ByteArray),false))))=some (r1,r2):=h);clear h;obtain⟨t315,A2,H⟩:=bo_ H;(try dsimp only at H);by_cases c3:t315=true
 ·subst c3;(replace H:(impl_MakersOf.l0 k (([]:List ByteArray)) l0 (l0.length:Int) 0)=some (r1,r2):=by rw[if_pos rfl]at H;exact H);(obtain⟨y316,hy316⟩:∃y_:List ByteArray,y_=(([]:List ByteArray)):=⟨_,rfl⟩);(replace H:(impl_MakersOf.l0 k y316 l0 (l0.length:Int) 0)=some (r1,r2):=by first|(rw[hy316];with_reducible exact H)|(have H2_:=(Option.bind_some _ _).symm.trans H;rw[hy316];with_reducible exact H2_)|(have H2_:=(Option.bind_some _ _).symm.trans H;with_reducible exact H2_) | with_reducible exact H|(rw[hy316];exact H)|exact H);(have Ny316:=am_ hy316);clear hy316;(have H':=am_ H);clear H;(go_enter Tryz.func11,Tryz.ntmps11);(go_wp2_with (first|((with_reducible refine gate_callee (f:=22) rfl ?_);refine goesL_ (some 8) rfl rfl Tryz.func22 (by kernel_rfl) rfl #[.slice A0 l0.length c0] rfl gd_ ?_;(with_reducible refine(impl_IsCatalogue.calls k _ _ l0 true _ ?side1 ?side2 A2.out).mono ?_);(case side1=>exact(a15_ HR0.out));(case side2=>exact HC0.out);rintro e w4 ⟨rfl,hb⟩;refine⟨_,rfl,?_⟩;replace HB:=am_ (below_step (a1_) hb);(try clear hb);(try clear hb2);(try clear hk);(try clear hi))|((with_reducible refine gate_dst (N:=10) rfl ?_);refine Kd.R_lit Kd.string _ 9 ?hg (N:=10) ?hd (xs:=([]:List ByteArray)) (inner:=[]) (ok:=fun _=>True) (okp:=fun _=>True) ?hr ?hp (fun _ hk=>hk) trivial (Below.refl _ _) (Nat.le_refl _) (by simp) ?_;(case hd=>rfl);(case hg=>rfl);(case hr=>exact hr_);(case hp=>exact(Reps.none _ _));intro v317 w5 ho6 hb hg_ hnew_;clear hg_ hnew_;(first|rw[← Ny316.out]at ho6|(simp only[Int.reduceToNat]at ho6;rw[← Ny316.out]at ho6));have HO318:=am_ (Kd.R_lower ho6 (below_size (a1_)));replace HB:=am_ (below_step (a1_) hb);clear hb ho6)));(try simp only[Act.put,List.setIfInBounds_toArray,List.set_cons_zero,List.set_cons_succ])
  go_loopg [4,13] k (fun kq v4 v13 w'=>∃(x4_1:List ByteArray) (x13_1:Int),v13 = .int .i64 x13_1∧Aside0 (impl_MakersOf.l0 kq x4_1 l0 (l0.length:Int) x13_1=some (r1,r2))∧Aside0 (kq≤k)∧Aside0 (Kd.R Kd.string 9 w' w.heap.size (fun _=>True) v4 x4_1)∧Aside0 (Below w.heap.size w w'))
  case atStart=>exact⟨(y316),(0),(by first | rfl|(simp;done)|(simp[*];done)),H',⟨Nat.le_refl _⟩,⟨(a0_ HO318.out)⟩,⟨a1_⟩⟩
  case round=>
   clear H';(try clear c1);(try clear c2);(try clear p2);(try clear c3);obtain⟨x4_1,x13_1,rfl,HA,HK1,HO_4,HB⟩:=hrel;cases gk with
   | zero=>exact absurd HA.out (by simp[impl_MakersOf.l0])
   | succ k1=>
    (have H:=HA.out);clear HA;simp only[impl_MakersOf.l0]at H;by_cases c7:x13_1<(l0.length:Int)
    ·rw[if_pos c7]at H;(have c7b0:decide (x13_1<(l0.length:Int))=true:=decide_eq_true c7);clear c7;by_cases c8:0≤x13_1
     ·rw[if_pos c8]at H;(have c8b0:decide (0≤x13_1)=true:=decide_eq_true c8);clear c8;by_cases c9:x13_1<(l0.length:Int)
      ·rw[if_pos c9]at H;(have c9b0:decide (x13_1<(l0.length:Int))=true:=decide_eq_true c9);clear c9;obtain⟨t321,A10,H⟩:=bo_ H;(try dsimp only at H);by_cases c11:t321=true
       ·subst c11;(replace H:(impl_MakersOf.l0 k1 x4_1 l0 (l0.length:Int) (wrap64 (x13_1+1)))=some (r1,r2):=by rw[if_pos rfl]at H;exact H);(have H':=am_ H);clear H;(have p319:0≤(x13_1:Int):=of_decide_eq_true (a6_));(have q319:x13_1<(l0.length:Int):=of_decide_eq_true (a6_));obtain⟨ad319,e319,hx319_0,hx319_1,hx319_2,hx319_3⟩:=at_T47 HR0.out x13_1 p319 q319;cases e319;replace hx319_0:=(HB.out.cell (World.block_lt_of_cell? w _ hx319_0)).trans hx319_0;replace hx319_1:=(HB.out.cell (World.block_lt_of_cell? w _ hx319_1)).trans hx319_1;replace hx319_2:=(HB.out.cell (World.block_lt_of_cell? w _ hx319_2)).trans hx319_2;replace hx319_3:=(HB.out.cell (World.block_lt_of_cell? w _ hx319_3)).trans hx319_3;replace p319:=eq_true p319;replace q319:=eq_true q319;(go_wp2_with (first|((with_reducible refine gate_dst (N:=6) rfl ?_);refine box_event ?hg (N:=6) ?hd (cs:= #[.string (⟨#[]⟩:ByteArray), .string (⟨#[]⟩:ByteArray), .int .i64 0, .int .i64 0]) (t:=47) ?hr ?_;(case hd=>rfl);(case hg=>rfl);(case hr=>exact hr_);intro gb320 hg w12 hbox hb;replace HO_4:=am_ (Kd.R_below ((a0_ HO_4.out)) hb);have BK320:=am_ (hbox);have GW320:=am_ ((by rw[hg];exact(below_size (a1_)):w.heap.size≤gb320));have GE320:=am_ ((by rw[hg];exact(below_size (a1_)):w.heap.size≤gb320));replace HB:=am_ (below_step (a1_) hb);clear hb hbox hg;have hcz13_0:w12.cell? ⟨gb320,0,none⟩=some (.string (⟨#[]⟩:ByteArray)):=(blk_cell BK320.out 0).trans rfl;have hcz13_1:w12.cell? ⟨gb320,1,none⟩=some (.string (⟨#[]⟩:ByteArray)):=(blk_cell BK320.out 1).trans rfl;have hcz13_2:w12.cell? ⟨gb320,2,none⟩=some (.int .i64 0):=(blk_cell BK320.out 2).trans rfl;have hcz13_3:w12.cell? ⟨gb320,3,none⟩=some (.int .i64 0):=(blk_cell BK320.out 3).trans rfl;have hfz13_0:=blk_frozen BK320.out 0;have hfz13_1:=blk_frozen BK320.out 1;have hfz13_2:=blk_frozen BK320.out 2;have hfz13_3:=blk_frozen BK320.out 3;obtain⟨Ao14,co14,eo14⟩:=Kd.R_slice HO_4.out;subst eo14)|((with_reducible refine gate_callee (f:=37) rfl ?_);refine goesL_ (some 20) rfl rfl Tryz.func37 (by kernel_rfl) rfl #[.slice Ao14 x4_1.length co14, .string ((rd_T47 l0 x13_1).f1)] rfl gd_ ?_;(with_reducible refine(slices_Contains_string_string.calls k1 _ _ x4_1 ((rd_T47 l0 x13_1).f1) true _ ?side1 ?side2 A10.out).mono ?_);(case side1=>refine(Kd.R_reads' (e:=9) (base:=w.heap.size) (ok:=fun k_=>True) (n:=x4_1.length) (c:=co14) ?_).2.2;exact((a33_ HO_4.out BK320.out)));(case side2=>exact(Kd.R_reads' HO_4.out).2.1);rintro e w' ⟨rfl,⟨nd,rfl⟩⟩;refine⟨_,rfl,?_⟩)));(go_roundg k1)
        case measure=>have:=HK1.out;omega
        case rel=>exact⟨(x4_1),(wrap64 (x13_1+1)),(by first | rfl|(simp;done)|(simp[*];done)),H',⟨by have:=HK1.out;omega⟩,⟨(a31_ HO_4.out BK320.out)⟩,⟨(a5_ GE320.out)⟩⟩
       ·replace c11:=Bool.eq_false_iff.mpr c11;subst c11;(replace H:(if x4_1.length<8796093022208 then(impl_MakersOf.l0 k1 (x4_1 ++ [(rd_T47 l0 x13_1).f1]) l0 (l0.length:Int) (wrap64 (x13_1+1))) else(none))=some (r1,r2):=by rw[if_neg (show ¬(false=true) by decide)]at H;exact H);by_cases c15:x4_1.length<8796093022208
        ·rw[if_pos c15]at H;(have LMc15:=am_ c15);clear c15;(obtain⟨y322,hy322⟩:∃y_:List ByteArray,y_=(x4_1 ++ [(rd_T47 l0 x13_1).f1]):=⟨_,rfl⟩);(replace H:(impl_MakersOf.l0 k1 y322 l0 (l0.length:Int) (wrap64 (x13_1+1)))=some (r1,r2):=by first|(rw[hy322];with_reducible exact H)|(have H2_:=(Option.bind_some _ _).symm.trans H;rw[hy322];with_reducible exact H2_)|(have H2_:=(Option.bind_some _ _).symm.trans H;with_reducible exact H2_) | with_reducible exact H|(rw[hy322];exact H)|exact H);(have Ny322:=am_ hy322);clear hy322;(have H':=am_ H);clear H;(have p319:0≤(x13_1:Int):=of_decide_eq_true (a6_));(have q319:x13_1<(l0.length:Int):=of_decide_eq_true (a6_));obtain⟨ad319,e319,hx319_0,hx319_1,hx319_2,hx319_3⟩:=at_T47 HR0.out x13_1 p319 q319;cases e319;replace hx319_0:=(HB.out.cell (World.block_lt_of_cell? w _ hx319_0)).trans hx319_0;replace hx319_1:=(HB.out.cell (World.block_lt_of_cell? w _ hx319_1)).trans hx319_1;replace hx319_2:=(HB.out.cell (World.block_lt_of_cell? w _ hx319_2)).trans hx319_2;replace hx319_3:=(HB.out.cell (World.block_lt_of_cell? w _ hx319_3)).trans hx319_3;replace p319:=eq_true p319;replace q319:=eq_true q319;(go_wp2_with (first|((with_reducible refine gate_dst (N:=6) rfl ?_);refine box_event ?hg (N:=6) ?hd (cs:= #[.string (⟨#[]⟩:ByteArray), .string (⟨#[]⟩:ByteArray), .int .i64 0, .int .i64 0]) (t:=47) ?hr ?_;(case hd=>rfl);(case hg=>rfl);(case hr=>exact hr_);intro gb320 hg w16 hbox hb;replace HO_4:=am_ (Kd.R_below ((a0_ HO_4.out)) hb);have BK320:=am_ (hbox);have GW320:=am_ ((by rw[hg];exact(below_size (a1_)):w.heap.size≤gb320));have GE320:=am_ ((by rw[hg];exact(below_size (a1_)):w.heap.size≤gb320));replace HB:=am_ (below_step (a1_) hb);clear hb hbox hg;have hcz17_0:w16.cell? ⟨gb320,0,none⟩=some (.string (⟨#[]⟩:ByteArray)):=(blk_cell BK320.out 0).trans rfl;have hcz17_1:w16.cell? ⟨gb320,1,none⟩=some (.string (⟨#[]⟩:ByteArray)):=(blk_cell BK320.out 1).trans rfl;have hcz17_2:w16.cell? ⟨gb320,2,none⟩=some (.int .i64 0):=(blk_cell BK320.out 2).trans rfl;have hcz17_3:w16.cell? ⟨gb320,3,none⟩=some (.int .i64 0):=(blk_cell BK320.out 3).trans rfl;have hfz17_0:=blk_frozen BK320.out 0;have hfz17_1:=blk_frozen BK320.out 1;have hfz17_2:=blk_frozen BK320.out 2;have hfz17_3:=blk_frozen BK320.out 3;obtain⟨Ao18,co18,eo18⟩:=Kd.R_slice HO_4.out;subst eo18)|((with_reducible refine gate_callee (f:=37) rfl ?_);refine goesL_ (some 20) rfl rfl Tryz.func37 (by kernel_rfl) rfl #[.slice Ao18 x4_1.length co18, .string ((rd_T47 l0 x13_1).f1)] rfl gd_ ?_;(with_reducible refine(slices_Contains_string_string.calls k1 _ _ x4_1 ((rd_T47 l0 x13_1).f1) false _ ?side1 ?side2 A10.out).mono ?_);(case side1=>refine(Kd.R_reads' (e:=9) (base:=w.heap.size) (ok:=fun k_=>True) (n:=x4_1.length) (c:=co18) ?_).2.2;exact((a33_ HO_4.out BK320.out)));(case side2=>exact(Kd.R_reads' HO_4.out).2.1);rintro e w' ⟨rfl,⟨nd,rfl⟩⟩;refine⟨_,rfl,?_⟩)|((with_reducible refine gate_builtin (b:= .append) (xs:= #[.tmp 22, .tmp 25]) rfl ?_);at_builtin;refine Kd.R_append Kd.string (w0:=w) w.heap.size rfl (.tmp 22) (.tmp 25) 30 9 (.string ⟨#[]⟩) 16 rfl Tryz.underlying30 info9 rfl (by decide) (by omega) (.slice Ao18 x4_1.length co18) x4_1 ((rd_T47 l0 x13_1).f1) [.string ((rd_T47 l0 x13_1).f1)] (fun _=>True) (fun _=>False) rfl (by first|(go_simp;done)|(go_simp;rfl)) ?aP (fun _ hk=>hk.elim) ?aF ?aO ?aB ?aS ?aL ?_;(case aP=>exact rfl);(case aB=>exact((a5_ GE320.out)));(case aF=>exact(fun _ _=>trivial));(case aO=>exact((a31_ HO_4.out BK320.out)));(case aS=>exact(below_size ((a5_ GE320.out))));(case aL=>have:=LMc15.out;omega);intro v323 w19 ho hb hg hat;rw[← Ny322.out]at ho;have n0_:=am_ (blk_grown (g:=gb320) (o:= .cells #[.string ((rd_T47 l0 x13_1).f0), .string ((rd_T47 l0 x13_1).f1), .int .i64 ((rd_T47 l0 x13_1).f2), .int .i64 ((rd_T47 l0 x13_1).f3)] 47 (0,0)) ((a16_ BK320.out)) hg (Kd.R_ne HO_4.out BK320.out (by decide)));have n1_:=am_ (hb);have n2_:=am_ (ho);clear BK320 HB HO_4;have BK320:=n0_;have HB:=n1_;have HO324:=n2_;clear n0_ n1_ n2_ ho hb hg hat)));(go_roundg k1)
         case measure=>have:=HK1.out;omega
         case rel=>exact⟨(y322),(wrap64 (x13_1+1)),(by first | rfl|(simp;done)|(simp[*];done)),H',⟨by have:=HK1.out;omega⟩,⟨(a0_ HO324.out)⟩,⟨(a5_ GE320.out)⟩⟩
        (focus rw[if_neg c15]at H;exact absurd H (by simp))
      (focus rw[if_neg c9]at H;exact absurd H (by simp))
     (focus rw[if_neg c8]at H;exact absurd H (by simp))
    (focus rw[if_neg c7]at H;(have c7b0:decide (x13_1<(l0.length:Int))=false:=decide_eq_false c7);clear c7;simp only[Option.some.injEq,Prod.mk.injEq]at H;obtain⟨rfl,rfl⟩:=H;go_wp2;go_ret2;exact⟨_,a10_,(a0_ HO_4.out),a1_⟩)
 (focus replace c3:=Bool.eq_false_iff.mpr c3;subst c3;(replace H:(some (([]:List ByteArray),false))=some (r1,r2):=by rw[if_neg (show ¬(false=true) by decide)]at H;exact H);simp only[Option.some.injEq,Prod.mk.injEq]at H;obtain⟨rfl,rfl⟩:=H;(go_enter Tryz.func11,Tryz.ntmps11);(go_wp2_with (first|((with_reducible refine gate_callee (f:=22) rfl ?_);refine goesL_ (some 8) rfl rfl Tryz.func22 (by kernel_rfl) rfl #[.slice A0 l0.length c0] rfl gd_ ?_;(with_reducible refine(impl_IsCatalogue.calls k _ _ l0 false _ ?side1 ?side2 A2.out).mono ?_);(case side1=>exact(a15_ HR0.out));(case side2=>exact HC0.out);rintro e w20 ⟨rfl,hb⟩;refine⟨_,rfl,?_⟩;replace HB:=am_ (below_step (a1_) hb);(try clear hb);(try clear hb2);(try clear hk);(try clear hi))));go_ret2;exact⟨_,a10_,a17_,a1_⟩)

/-! ### spec_l1HasS: function 38 -/
def spec_l1HasS.l0:Nat→ByteArray→List ByteArray→Int→Int→Option (Bool)
 | 0,_,_,_,_=>none
 | k+1,x1,x7,x8,x9=>if x9<x8 then(if 0≤x9 then(if x9<(x7.length:Int) then(if(rdOf ByteArray.empty x7 x9).toList=x1.toList then(some true) else(spec_l1HasS.l0 k x1 x7 x8 (wrap64 (x9+1)))) else(none)) else(none)) else(some false)
def spec_l1HasS.f (k:Nat) (l0:List ByteArray) (a1:ByteArray):Option (Bool):=spec_l1HasS.l0 k a1 l0 (l0.length:Int) 0
theorem spec_l1HasS.mono_l:∀k,(∀y0 y1 y2 y3,LeO (spec_l1HasS.l0 k y0 y1 y2 y3) (spec_l1HasS.l0 (k+1) y0 y1 y2 y3))
 | 0=>fun _ _ _ _ r h=>by simp[spec_l1HasS.l0]at h
 | k+1=>by
  have ih0:=spec_l1HasS.mono_l k
  intros
  unfold spec_l1HasS.l0
  rotate_left
  all_goals repeat' first|(with_reducible first|exact ih0 _ _ _ _|exact LeO.refl _|exact LeO.none _|refine LeO.ite ?_ ?_|refine LeO.bind ?_ (fun _=>?_))|exact ih0 _ _ _ _|exact LeO.none _|refine LeO.ite ?_ ?_|refine LeO.bind ?_ (fun _=>?_)
theorem spec_l1HasS.mono:∀a0 a1 k,LeO (spec_l1HasS.f k a0 a1) (spec_l1HasS.f (k+1) a0 a1):=by
 intro a0 a1 k;(have ih0:=spec_l1HasS.mono_l k);unfold spec_l1HasS.f
 repeat' first
  |(with_reducible exact ih0 _ _ _ _)
  |(with_reducible exact LeO.refl _)
  |(with_reducible exact LeO.none _)
  |(with_reducible refine LeO.ite ?_ ?_)
  |(with_reducible refine LeO.bind ?_ (fun _=>?_))
  |exact ih0 _ _ _ _
  |exact LeO.none _
   | refine LeO.ite ?_ ?_
   | refine LeO.bind ?_ (fun _=>?_)
set_option maxHeartbeats 8000000 in
set_option maxRecDepth 100000 in
theorem spec_l1HasS.calls (k:Nat) (A0:Option Addr) (c0:Nat) (l0:List ByteArray) (a1:ByteArray) (r:Bool) (w:World) (hr0:Kd.C Kd.string w A0 l0.length l0) (hc0:l0.length≤c0) (h:spec_l1HasS.f k l0 a1=some r) :
 Calls Tryz.prog 38 #[.slice A0 l0.length c0, .string a1] w fun e w'=>e = .returned (.bool r)∧Drawn0 w w':=by
 (have HR0:=am_ hr0);(have HC0:=am_ hc0);clear hr0 hc0;(have H:(spec_l1HasS.l0 k a1 l0 (l0.length:Int) 0)=some r:=h);clear h;(have H':=am_ H);clear H;(go_enter Tryz.func38,Tryz.ntmps38);go_wp2;(try simp only[Act.put,List.setIfInBounds_toArray,List.set_cons_zero,List.set_cons_succ])
 go_loopg [9] k (fun kq v9 w'=>∃(x9_1:Int),v9 = .int .i64 x9_1∧Aside0 (spec_l1HasS.l0 kq a1 l0 (l0.length:Int) x9_1=some r)∧Aside0 (kq≤k)∧Drawn0 w w')
 case atStart=>exact⟨(0),(by first | rfl|(simp;done)|(simp[*];done)),H',⟨Nat.le_refl _⟩,a19_⟩
 case round=>
  clear H';(try clear p2);obtain⟨x9_1,rfl,HA,HK1,⟨m1,rfl⟩⟩:=hrel;cases gk with
  | zero=>exact absurd HA.out (by simp[spec_l1HasS.l0])
  | succ k1=>
   (have H:=HA.out);clear HA;simp only[spec_l1HasS.l0]at H;by_cases c3:x9_1<(l0.length:Int)
   ·rw[if_pos c3]at H;(have c3b0:decide (x9_1<(l0.length:Int))=true:=decide_eq_true c3);clear c3;by_cases c4:0≤x9_1
    ·rw[if_pos c4]at H;(have c4b0:decide (0≤x9_1)=true:=decide_eq_true c4);clear c4;by_cases c5:x9_1<(l0.length:Int)
     ·rw[if_pos c5]at H;(have c5b0:decide (x9_1<(l0.length:Int))=true:=decide_eq_true c5);clear c5;by_cases c6:(rdOf ByteArray.empty l0 x9_1).toList=a1.toList;(focus rw[if_pos c6]at H;(have c6b0:((rdOf ByteArray.empty l0 x9_1).toList == a1.toList)=true:=beq_iff_eq.mpr c6);(have c6b1:((rdOf ByteArray.empty l0 x9_1).toList != a1.toList)=false:=bne_eq_false_iff_eq.mpr c6);clear c6;obtain rfl:=Option.some.inj H;(have p325:0≤(x9_1:Int):=of_decide_eq_true (a6_));(have q325:x9_1<(l0.length:Int):=of_decide_eq_true (a6_));obtain⟨ad325,e325,hx325_0⟩:=Kd.at_string HR0.out x9_1 p325 q325;cases e325;replace p325:=eq_true p325;replace q325:=eq_true q325;go_wp2;go_ret;exact⟨by first | rfl|(simp;done)|(simp[*];done),a19_⟩)
      ·rw[if_neg c6]at H;(have c6b0:((rdOf ByteArray.empty l0 x9_1).toList == a1.toList)=false:=beq_eq_false_iff_ne.mpr c6);(have c6b1:((rdOf ByteArray.empty l0 x9_1).toList != a1.toList)=true:=bne_iff_ne.mpr c6);(have H':=am_ H);clear H;(have p325:0≤(x9_1:Int):=of_decide_eq_true (a6_));(have q325:x9_1<(l0.length:Int):=of_decide_eq_true (a6_));obtain⟨ad325,e325,hx325_0⟩:=Kd.at_string HR0.out x9_1 p325 q325;cases e325;replace p325:=eq_true p325;replace q325:=eq_true q325;go_wp2;(go_roundg k1)
       case measure=>have:=HK1.out;omega
       case rel=>exact⟨(wrap64 (x9_1+1)),(by first | rfl|(simp;done)|(simp[*];done)),H',⟨by have:=HK1.out;omega⟩,a19_⟩
     (focus rw[if_neg c5]at H;exact absurd H (by simp))
    (focus rw[if_neg c4]at H;exact absurd H (by simp))
   (focus rw[if_neg c3]at H;(have c3b0:decide (x9_1<(l0.length:Int))=false:=decide_eq_false c3);clear c3;obtain rfl:=Option.some.inj H;go_wp2;go_ret;exact⟨by first | rfl|(simp;done)|(simp[*];done),a19_⟩)

end Go.Proofs.YtkkmeccdjpibmaaGreatDoor.QFnCatalogue
