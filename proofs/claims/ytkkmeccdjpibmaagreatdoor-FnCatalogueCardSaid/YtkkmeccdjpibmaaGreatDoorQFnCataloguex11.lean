/- Written by a program of this session (the kit's printer, with leaf contracts proved by hand put in): what each Go function computes, and that the call computes it. No condition but those that each theorem names. -/
import Derived.Test.YtkkmeccdjpibmaaGreatDoorQFnCataloguex0
import Derived.Test.YtkkmeccdjpibmaaGreatDoorQFnCataloguex2
import Derived.Test.YtkkmeccdjpibmaaGreatDoorQFnCataloguex3
import Derived.Test.YtkkmeccdjpibmaaGreatDoorQFnCataloguex5
import Derived.Test.YtkkmeccdjpibmaaGreatDoorQFnCataloguex6
import Derived.Test.YtkkmeccdjpibmaaGreatDoorQFnCataloguex7
import Derived.Test.YtkkmeccdjpibmaaGreatDoorQFnCataloguex8
import Derived.Test.YtkkmeccdjpibmaaGreatDoorQFnCataloguex10
namespace Go.Proofs.YtkkmeccdjpibmaaGreatDoor.QFnCatalogue
open Go.RowKit Go.Proofs.YtkkmeccdjpibmaaGreatDoorW.PrintWords Go.Proofs.YtkkmeccdjpibmaaGreatDoorW.PrintLast Go.Proofs.YtkkmeccdjpibmaaGreatDoorW.PrintMore
attribute [local go_sem] max2_int min2_int max_two min_two max_three min_three max_four min_four   -- for this text's walks alone
set_option linter.unusedVariables false
set_option linter.unusedSimpArgs false

/-! ### spec_MakersOf: function 12 -/
def spec_MakersOf.l0:Nat→List ByteArray→List (S47)→Int→Int→Option (List ByteArray×Bool)
 | 0,_,_,_,_=>none
 | k+1,x4,x10,x11,x12=>if x12<x11 then(if 0≤x12 then(if x12<(x10.length:Int) then((spec_l1HasS.f k x4 ((rd_T47 x10 x12).f1)).bind fun t329=>(if t329=true then(spec_MakersOf.l0 k x4 x10 x11 (wrap64 (x12+1))) else(if x4.length<8796093022208 then(spec_MakersOf.l0 k (x4 ++ [(rd_T47 x10 x12).f1]) x10 x11 (wrap64 (x12+1))) else(none)))) else(none)) else(none)) else(some (x4,true))
def spec_MakersOf.f (k:Nat) (l0:List (S47)):Option (List ByteArray×Bool):=(spec_caGood.f k l0).bind fun t326=>(if t326=true then(spec_MakersOf.l0 k ([]:List ByteArray) l0 (l0.length:Int) 0) else(some (([]:List ByteArray),false)))
theorem spec_MakersOf.mono_l:∀k,(∀y0 y1 y2 y3,LeO (spec_MakersOf.l0 k y0 y1 y2 y3) (spec_MakersOf.l0 (k+1) y0 y1 y2 y3))
 | 0=>fun _ _ _ _ r h=>by simp[spec_MakersOf.l0]at h
 | k+1=>by
  have ih0:=spec_MakersOf.mono_l k
  intros
  unfold spec_MakersOf.l0
  rotate_left
  all_goals repeat' first|(with_reducible first|exact ih0 _ _ _ _|exact spec_caGood.mono _ _|exact spec_l1HasS.mono _ _ _|exact LeO.refl _|exact LeO.none _|refine LeO.ite ?_ ?_|refine LeO.bind ?_ (fun _=>?_))|exact ih0 _ _ _ _|exact spec_caGood.mono _ _|exact spec_l1HasS.mono _ _ _|exact LeO.none _|refine LeO.ite ?_ ?_|refine LeO.bind ?_ (fun _=>?_)
theorem spec_MakersOf.mono:∀a0 k,LeO (spec_MakersOf.f k a0) (spec_MakersOf.f (k+1) a0):=by
 intro a0 k;(have ih0:=spec_MakersOf.mono_l k);unfold spec_MakersOf.f
 repeat' first
  |(with_reducible exact ih0 _ _ _ _)
  |(with_reducible exact spec_caGood.mono _ _)
  |(with_reducible exact spec_l1HasS.mono _ _ _)
  |(with_reducible exact LeO.refl _)
  |(with_reducible exact LeO.none _)
  |(with_reducible refine LeO.ite ?_ ?_)
  |(with_reducible refine LeO.bind ?_ (fun _=>?_))
  |exact ih0 _ _ _ _
  |exact spec_caGood.mono _ _
  |exact spec_l1HasS.mono _ _ _
  |exact LeO.none _
   | refine LeO.ite ?_ ?_
   | refine LeO.bind ?_ (fun _=>?_)
set_option maxHeartbeats 8000000 in
set_option maxRecDepth 100000 in
theorem spec_MakersOf.calls (k:Nat) (A0:Option Addr) (c0:Nat) (l0:List (S47)) (r1:List ByteArray) (r2:Bool) (w:World) (hr0:Kd.C k47 w A0 l0.length l0) (hc0:l0.length≤c0) (h:spec_MakersOf.f k l0=some (r1,r2)) :
 Calls Tryz.prog 12 #[.slice A0 l0.length c0] w fun e w'=>∃v0_:Value,e = .returned (.tuple #[v0_, .bool r2])∧Kd.R Kd.string 9 w' w.heap.size (fun _=>True) v0_ r1∧Below w.heap.size w w':=by
 (have hu47:=Tryz.underlying47);(have HR0:=am_ hr0);(have HC0:=am_ hc0);clear hr0 hc0;(have HB:=am_ (Below.refl w.heap.size w));(have H:((spec_caGood.f k l0).bind fun t326=>(if t326=true then(spec_MakersOf.l0 k ([]:List ByteArray) l0 (l0.length:Int) 0) else(some (([]:List ByteArray),false))))=some (r1,r2):=h);clear h;obtain⟨t326,A2,H⟩:=bo_ H;(try dsimp only at H);by_cases c3:t326=true
 ·subst c3;(replace H:(spec_MakersOf.l0 k ([]:List ByteArray) l0 (l0.length:Int) 0)=some (r1,r2):=by rw[if_pos rfl]at H;exact H);(have H':=am_ H);clear H;(go_enter Tryz.func12,Tryz.ntmps12);(go_wp2_with (first|((with_reducible refine gate_callee (f:=32) rfl ?_);refine goesL_ (some 8) rfl rfl Tryz.func32 (by kernel_rfl) rfl #[.slice A0 l0.length c0] rfl gd_ ?_;(with_reducible refine(spec_caGood.calls k _ _ l0 true _ ?side1 ?side2 A2.out).mono ?_);(case side1=>exact(a15_ HR0.out));(case side2=>exact HC0.out);rintro e w4 ⟨rfl,hb⟩;refine⟨_,rfl,?_⟩;replace HB:=am_ (below_step (a1_) hb);(try clear hb);(try clear hb2);(try clear hk);(try clear hi))));(try simp only[Act.put,List.setIfInBounds_toArray,List.set_cons_zero,List.set_cons_succ])
  go_loopg [4,12] k (fun kq v4 v12 w'=>∃(x4_1:List ByteArray) (x12_1:Int),v12 = .int .i64 x12_1∧Aside0 (spec_MakersOf.l0 kq x4_1 l0 (l0.length:Int) x12_1=some (r1,r2))∧Aside0 (kq≤k)∧Aside0 (Kd.R Kd.string 9 w' w.heap.size (fun _=>True) v4 x4_1)∧Aside0 (Below w.heap.size w w'))
  case atStart=>exact⟨(([]:List ByteArray)),(0),(by first | rfl|(simp;done)|(simp[*];done)),H',⟨Nat.le_refl _⟩,⟨a17_⟩,⟨a1_⟩⟩
  case round=>
   clear H';(try clear c1);(try clear p2);(try clear c3);obtain⟨x4_1,x12_1,rfl,HA,HK1,HO_4,HB⟩:=hrel;cases gk with
   | zero=>exact absurd HA.out (by simp[spec_MakersOf.l0])
   | succ k1=>
    (have H:=HA.out);clear HA;simp only[spec_MakersOf.l0]at H;by_cases c5:x12_1<(l0.length:Int)
    ·rw[if_pos c5]at H;(have c5b0:decide (x12_1<(l0.length:Int))=true:=decide_eq_true c5);clear c5;by_cases c6:0≤x12_1
     ·rw[if_pos c6]at H;(have c6b0:decide (0≤x12_1)=true:=decide_eq_true c6);clear c6;by_cases c7:x12_1<(l0.length:Int)
      ·rw[if_pos c7]at H;(have c7b0:decide (x12_1<(l0.length:Int))=true:=decide_eq_true c7);clear c7;obtain⟨t329,A8,H⟩:=bo_ H;(try dsimp only at H);by_cases c9:t329=true
       ·subst c9;(replace H:(spec_MakersOf.l0 k1 x4_1 l0 (l0.length:Int) (wrap64 (x12_1+1)))=some (r1,r2):=by rw[if_pos rfl]at H;exact H);(have H':=am_ H);clear H;(have p327:0≤(x12_1:Int):=of_decide_eq_true (a6_));(have q327:x12_1<(l0.length:Int):=of_decide_eq_true (a6_));obtain⟨ad327,e327,hx327_0,hx327_1,hx327_2,hx327_3⟩:=at_T47 HR0.out x12_1 p327 q327;cases e327;replace hx327_0:=(HB.out.cell (World.block_lt_of_cell? w _ hx327_0)).trans hx327_0;replace hx327_1:=(HB.out.cell (World.block_lt_of_cell? w _ hx327_1)).trans hx327_1;replace hx327_2:=(HB.out.cell (World.block_lt_of_cell? w _ hx327_2)).trans hx327_2;replace hx327_3:=(HB.out.cell (World.block_lt_of_cell? w _ hx327_3)).trans hx327_3;replace p327:=eq_true p327;replace q327:=eq_true q327;(go_wp2_with (first|((with_reducible refine gate_dst (N:=6) rfl ?_);refine box_event ?hg (N:=6) ?hd (cs:= #[.string (⟨#[]⟩:ByteArray), .string (⟨#[]⟩:ByteArray), .int .i64 0, .int .i64 0]) (t:=47) ?hr ?_;(case hd=>rfl);(case hg=>rfl);(case hr=>exact hr_);intro gb328 hg w10 hbox hb;replace HO_4:=am_ (Kd.R_below ((a0_ HO_4.out)) hb);have BK328:=am_ (hbox);have GW328:=am_ ((by rw[hg];exact(below_size (a1_)):w.heap.size≤gb328));have GE328:=am_ ((by rw[hg];exact(below_size (a1_)):w.heap.size≤gb328));replace HB:=am_ (below_step (a1_) hb);clear hb hbox hg;have hcz11_0:w10.cell? ⟨gb328,0,none⟩=some (.string (⟨#[]⟩:ByteArray)):=(blk_cell BK328.out 0).trans rfl;have hcz11_1:w10.cell? ⟨gb328,1,none⟩=some (.string (⟨#[]⟩:ByteArray)):=(blk_cell BK328.out 1).trans rfl;have hcz11_2:w10.cell? ⟨gb328,2,none⟩=some (.int .i64 0):=(blk_cell BK328.out 2).trans rfl;have hcz11_3:w10.cell? ⟨gb328,3,none⟩=some (.int .i64 0):=(blk_cell BK328.out 3).trans rfl;have hfz11_0:=blk_frozen BK328.out 0;have hfz11_1:=blk_frozen BK328.out 1;have hfz11_2:=blk_frozen BK328.out 2;have hfz11_3:=blk_frozen BK328.out 3;obtain⟨Ao12,co12,eo12⟩:=Kd.R_slice HO_4.out;subst eo12)|((with_reducible refine gate_callee (f:=38) rfl ?_);refine goesL_ (some 19) rfl rfl Tryz.func38 (by kernel_rfl) rfl #[.slice Ao12 x4_1.length co12, .string ((rd_T47 l0 x12_1).f1)] rfl gd_ ?_;(with_reducible refine(spec_l1HasS.calls k1 _ _ x4_1 ((rd_T47 l0 x12_1).f1) true _ ?side1 ?side2 A8.out).mono ?_);(case side1=>refine(Kd.R_reads' (e:=9) (base:=w.heap.size) (ok:=fun k_=>True) (n:=x4_1.length) (c:=co12) ?_).2.2;exact((a34_ HO_4.out BK328.out)));(case side2=>exact(Kd.R_reads' HO_4.out).2.1);rintro e w' ⟨rfl,⟨nd,rfl⟩⟩;refine⟨_,rfl,?_⟩)));(go_roundg k1)
        case measure=>have:=HK1.out;omega
        case rel=>exact⟨(x4_1),(wrap64 (x12_1+1)),(by first | rfl|(simp;done)|(simp[*];done)),H',⟨by have:=HK1.out;omega⟩,⟨(a32_ HO_4.out BK328.out)⟩,⟨(a5_ GE328.out)⟩⟩
       ·replace c9:=Bool.eq_false_iff.mpr c9;subst c9;(replace H:(if x4_1.length<8796093022208 then(spec_MakersOf.l0 k1 (x4_1 ++ [(rd_T47 l0 x12_1).f1]) l0 (l0.length:Int) (wrap64 (x12_1+1))) else(none))=some (r1,r2):=by rw[if_neg (show ¬(false=true) by decide)]at H;exact H);by_cases c13:x4_1.length<8796093022208
        ·rw[if_pos c13]at H;(have LMc13:=am_ c13);clear c13;(obtain⟨y330,hy330⟩:∃y_:List ByteArray,y_=(x4_1 ++ [(rd_T47 l0 x12_1).f1]):=⟨_,rfl⟩);(replace H:(spec_MakersOf.l0 k1 y330 l0 (l0.length:Int) (wrap64 (x12_1+1)))=some (r1,r2):=by first|(rw[hy330];with_reducible exact H)|(have H2_:=(Option.bind_some _ _).symm.trans H;rw[hy330];with_reducible exact H2_)|(have H2_:=(Option.bind_some _ _).symm.trans H;with_reducible exact H2_) | with_reducible exact H|(rw[hy330];exact H)|exact H);(have Ny330:=am_ hy330);clear hy330;(have H':=am_ H);clear H;(have p327:0≤(x12_1:Int):=of_decide_eq_true (a6_));(have q327:x12_1<(l0.length:Int):=of_decide_eq_true (a6_));obtain⟨ad327,e327,hx327_0,hx327_1,hx327_2,hx327_3⟩:=at_T47 HR0.out x12_1 p327 q327;cases e327;replace hx327_0:=(HB.out.cell (World.block_lt_of_cell? w _ hx327_0)).trans hx327_0;replace hx327_1:=(HB.out.cell (World.block_lt_of_cell? w _ hx327_1)).trans hx327_1;replace hx327_2:=(HB.out.cell (World.block_lt_of_cell? w _ hx327_2)).trans hx327_2;replace hx327_3:=(HB.out.cell (World.block_lt_of_cell? w _ hx327_3)).trans hx327_3;replace p327:=eq_true p327;replace q327:=eq_true q327;(go_wp2_with (first|((with_reducible refine gate_dst (N:=6) rfl ?_);refine box_event ?hg (N:=6) ?hd (cs:= #[.string (⟨#[]⟩:ByteArray), .string (⟨#[]⟩:ByteArray), .int .i64 0, .int .i64 0]) (t:=47) ?hr ?_;(case hd=>rfl);(case hg=>rfl);(case hr=>exact hr_);intro gb328 hg w14 hbox hb;replace HO_4:=am_ (Kd.R_below ((a0_ HO_4.out)) hb);have BK328:=am_ (hbox);have GW328:=am_ ((by rw[hg];exact(below_size (a1_)):w.heap.size≤gb328));have GE328:=am_ ((by rw[hg];exact(below_size (a1_)):w.heap.size≤gb328));replace HB:=am_ (below_step (a1_) hb);clear hb hbox hg;have hcz15_0:w14.cell? ⟨gb328,0,none⟩=some (.string (⟨#[]⟩:ByteArray)):=(blk_cell BK328.out 0).trans rfl;have hcz15_1:w14.cell? ⟨gb328,1,none⟩=some (.string (⟨#[]⟩:ByteArray)):=(blk_cell BK328.out 1).trans rfl;have hcz15_2:w14.cell? ⟨gb328,2,none⟩=some (.int .i64 0):=(blk_cell BK328.out 2).trans rfl;have hcz15_3:w14.cell? ⟨gb328,3,none⟩=some (.int .i64 0):=(blk_cell BK328.out 3).trans rfl;have hfz15_0:=blk_frozen BK328.out 0;have hfz15_1:=blk_frozen BK328.out 1;have hfz15_2:=blk_frozen BK328.out 2;have hfz15_3:=blk_frozen BK328.out 3;obtain⟨Ao16,co16,eo16⟩:=Kd.R_slice HO_4.out;subst eo16)|((with_reducible refine gate_callee (f:=38) rfl ?_);refine goesL_ (some 19) rfl rfl Tryz.func38 (by kernel_rfl) rfl #[.slice Ao16 x4_1.length co16, .string ((rd_T47 l0 x12_1).f1)] rfl gd_ ?_;(with_reducible refine(spec_l1HasS.calls k1 _ _ x4_1 ((rd_T47 l0 x12_1).f1) false _ ?side1 ?side2 A8.out).mono ?_);(case side1=>refine(Kd.R_reads' (e:=9) (base:=w.heap.size) (ok:=fun k_=>True) (n:=x4_1.length) (c:=co16) ?_).2.2;exact((a34_ HO_4.out BK328.out)));(case side2=>exact(Kd.R_reads' HO_4.out).2.1);rintro e w' ⟨rfl,⟨nd,rfl⟩⟩;refine⟨_,rfl,?_⟩)|((with_reducible refine gate_builtin (b:= .append) (xs:= #[.tmp 21, .tmp 24]) rfl ?_);at_builtin;refine Kd.R_append Kd.string (w0:=w) w.heap.size rfl (.tmp 21) (.tmp 24) 30 9 (.string ⟨#[]⟩) 16 rfl Tryz.underlying30 info9 rfl (by decide) (by omega) (.slice Ao16 x4_1.length co16) x4_1 ((rd_T47 l0 x12_1).f1) [.string ((rd_T47 l0 x12_1).f1)] (fun _=>True) (fun _=>False) rfl (by first|(go_simp;done)|(go_simp;rfl)) ?aP (fun _ hk=>hk.elim) ?aF ?aO ?aB ?aS ?aL ?_;(case aP=>exact rfl);(case aB=>exact((a5_ GE328.out)));(case aF=>exact(fun _ _=>trivial));(case aO=>exact((a32_ HO_4.out BK328.out)));(case aS=>exact(below_size ((a5_ GE328.out))));(case aL=>have:=LMc13.out;omega);intro v331 w17 ho hb hg hat;rw[← Ny330.out]at ho;have n0_:=am_ (blk_grown (g:=gb328) (o:= .cells #[.string ((rd_T47 l0 x12_1).f0), .string ((rd_T47 l0 x12_1).f1), .int .i64 ((rd_T47 l0 x12_1).f2), .int .i64 ((rd_T47 l0 x12_1).f3)] 47 (0,0)) (by(with_reducible repeat (first|refine blk_drewN ?_ _ | refine blk_drew ?_ | refine blk_alloc ?_ _));refine blk_put (cs:= #[.string ((rd_T47 l0 x12_1).f0), .string ((rd_T47 l0 x12_1).f1), .int .i64 ((rd_T47 l0 x12_1).f2), .int .i64 0]) ?_ 3 _ rfl;(with_reducible repeat (first|refine blk_drewN ?_ _ | refine blk_drew ?_ | refine blk_alloc ?_ _));refine blk_put (cs:= #[.string ((rd_T47 l0 x12_1).f0), .string ((rd_T47 l0 x12_1).f1), .int .i64 0, .int .i64 0]) ?_ 2 _ rfl;(with_reducible repeat (first|refine blk_drewN ?_ _ | refine blk_drew ?_ | refine blk_alloc ?_ _));refine blk_put (cs:= #[.string ((rd_T47 l0 x12_1).f0), .string (⟨#[]⟩:ByteArray), .int .i64 0, .int .i64 0]) ?_ 1 _ rfl;(with_reducible repeat (first|refine blk_drewN ?_ _ | refine blk_drew ?_ | refine blk_alloc ?_ _));refine blk_put (cs:= #[.string (⟨#[]⟩:ByteArray), .string (⟨#[]⟩:ByteArray), .int .i64 0, .int .i64 0]) ?_ 0 _ rfl;(with_reducible repeat (first|refine blk_drewN ?_ _ | refine blk_drew ?_ | refine blk_alloc ?_ _));exact BK328.out) hg (Kd.R_ne HO_4.out BK328.out (by decide)));have n1_:=am_ (hb);have n2_:=am_ (ho);clear BK328 HB HO_4;have BK328:=n0_;have HB:=n1_;have HO332:=n2_;clear n0_ n1_ n2_ ho hb hg hat)));(go_roundg k1)
         case measure=>have:=HK1.out;omega
         case rel=>exact⟨(y330),(wrap64 (x12_1+1)),(by first | rfl|(simp;done)|(simp[*];done)),H',⟨by have:=HK1.out;omega⟩,⟨(a0_ HO332.out)⟩,⟨(a5_ GE328.out)⟩⟩
        (focus rw[if_neg c13]at H;exact absurd H (by simp))
      (focus rw[if_neg c7]at H;exact absurd H (by simp))
     (focus rw[if_neg c6]at H;exact absurd H (by simp))
    (focus rw[if_neg c5]at H;(have c5b0:decide (x12_1<(l0.length:Int))=false:=decide_eq_false c5);clear c5;simp only[Option.some.injEq,Prod.mk.injEq]at H;obtain⟨rfl,rfl⟩:=H;go_wp2;go_ret2;exact⟨_,a10_,(a0_ HO_4.out),a1_⟩)
 (focus replace c3:=Bool.eq_false_iff.mpr c3;subst c3;(replace H:(some (([]:List ByteArray),false))=some (r1,r2):=by rw[if_neg (show ¬(false=true) by decide)]at H;exact H);simp only[Option.some.injEq,Prod.mk.injEq]at H;obtain⟨rfl,rfl⟩:=H;(go_enter Tryz.func12,Tryz.ntmps12);(go_wp2_with (first|((with_reducible refine gate_callee (f:=32) rfl ?_);refine goesL_ (some 8) rfl rfl Tryz.func32 (by kernel_rfl) rfl #[.slice A0 l0.length c0] rfl gd_ ?_;(with_reducible refine(spec_caGood.calls k _ _ l0 false _ ?side1 ?side2 A2.out).mono ?_);(case side1=>exact(a15_ HR0.out));(case side2=>exact HC0.out);rintro e w18 ⟨rfl,hb⟩;refine⟨_,rfl,?_⟩;replace HB:=am_ (below_step (a1_) hb);(try clear hb);(try clear hb2);(try clear hk);(try clear hi))));go_ret2;exact⟨_,a10_,a17_,a1_⟩)

/-! ### spec_l1Cur_rollIndex: function 40 -/
def spec_l1Cur_rollIndex.f (s0_0:List Int) (s0_1:Int) (s0_2:Int) (l1:List (S47)):Option (Int×Int×Int):=(spec_l1Cur_pick.f s0_0 s0_1 s0_2 16).bind fun bt333=>((spec_l1Cur_pick.f s0_0 bt333.2.1 bt333.2.2 (wrap64 ((l1.length:Int)+(wrap64 (Int.tdiv bt333.1 15))))).bind fun bt336=>((spec_l1Cur_pick.f s0_0 bt336.2.1 bt336.2.2 24).bind fun bt339=>(some (wrap64 (bt336.1-(wrap64 (Int.tdiv bt339.1 23))),bt339.2.1,bt339.2.2))))
set_option maxHeartbeats 8000000 in
set_option maxRecDepth 100000 in
theorem spec_l1Cur_rollIndex.calls (g:Nat) (s0_0:List Int) (s0_1:Int) (s0_2:Int) (A1:Option Addr) (c1:Nat) (l1:List (S47)) (r1:Int) (r2:Int) (r3:Int) (w0 w:World) (hI:IsS65 w0 w g s0_0 s0_1 s0_2) (hB:Below w0.heap.size w0 w) (hr1:∀W_,KeepBut w W_ g none→Kd.C k47 W_ A1 l1.length l1) (hc1:l1.length≤c1) (h:spec_l1Cur_rollIndex.f s0_0 s0_1 s0_2 l1=some (r1,r2,r3)) :
 Calls Tryz.prog 40 #[.pointer (some ⟨g,0,none⟩), .slice A1 l1.length c1] w fun e w'=>e = .returned (.int .i64 r1)∧IsS65 w0 w' g s0_0 r2 r3∧Below w0.heap.size w0 w'∧KeepBut w w' g none:=by
 (have HR1:=am_ hr1);(have HC1:=am_ hc1);clear hr1 hc1;(have HI0:=am_ hI);(have HK:=am_ (KeepBut.refl w g none));(have HL:=am_ hB.size);clear hI;(have HW0:=am_ hB.size);(have HB:=am_ hB);clear hB;(have H:((spec_l1Cur_pick.f s0_0 s0_1 s0_2 16).bind fun bt333=>((spec_l1Cur_pick.f s0_0 bt333.2.1 bt333.2.2 (wrap64 ((l1.length:Int)+(wrap64 (Int.tdiv bt333.1 15))))).bind fun bt336=>((spec_l1Cur_pick.f s0_0 bt336.2.1 bt336.2.2 24).bind fun bt339=>(some (wrap64 (bt336.1-(wrap64 (Int.tdiv bt339.1 23))),bt339.2.1,bt339.2.2)))))=some (r1,r2,r3):=h);clear h;obtain⟨⟨t333,t334,t335⟩,A3,H⟩:=bo_ H;(try dsimp only at H);obtain⟨⟨t336,t337,t338⟩,A4,H⟩:=bo_ H;(try dsimp only at H);obtain⟨⟨t339,t340,t341⟩,A5,H⟩:=bo_ H;(try dsimp only at H);simp only[Option.some.injEq,Prod.mk.injEq]at H;obtain⟨rfl,rfl,rfl⟩:=H;(go_enter Tryz.func40,Tryz.ntmps40);(go_wp2_with (first|((with_reducible refine gate_callee (f:=63) rfl ?_);refine goesL_ (some 9) rfl rfl Tryz.func63 (by kernel_rfl) rfl #[.pointer (some ⟨g,0,none⟩), .int .i64 16] rfl gd_ ?_;(with_reducible refine(spec_l1Cur_pick.calls g s0_0 s0_1 s0_2 16 t333 t334 t335 w0 _ ?side1 ?side2 A3.out).mono ?_);(case side1=>exact(a2_ HI0.out));(case side2=>exact(a3_ HI0.out));rintro e w6 ⟨rfl,hi,hb,hk⟩;refine⟨_,rfl,?_⟩;replace HK:=am_ (KeepBut.trans (a4_) hk (.inl rfl));replace HB:=am_ (hb);replace HI0:=am_ (hi);(try clear hb);(try clear hb2);(try clear hk);(try clear hi))|((with_reducible refine gate_callee (f:=63) rfl ?_);refine goesL_ (some 12) rfl rfl Tryz.func63 (by kernel_rfl) rfl #[.pointer (some ⟨g,0,none⟩), .int .i64 (wrap64 ((l1.length:Int)+(wrap64 (Int.tdiv t333 15))))] rfl gd_ ?_;(with_reducible refine(spec_l1Cur_pick.calls g s0_0 t334 t335 (wrap64 ((l1.length:Int)+(wrap64 (Int.tdiv t333 15)))) t336 t337 t338 w0 _ ?side1 ?side2 A4.out).mono ?_);(case side1=>exact(a2_ HI0.out));(case side2=>exact(a3_ HI0.out));rintro e w7 ⟨rfl,hi,hb,hk⟩;refine⟨_,rfl,?_⟩;replace HK:=am_ (KeepBut.trans (a4_) hk (.inl rfl));replace HB:=am_ (hb);replace HI0:=am_ (hi);(try clear hb);(try clear hb2);(try clear hk);(try clear hi))|((with_reducible refine gate_callee (f:=63) rfl ?_);refine goesL_ (some 14) rfl rfl Tryz.func63 (by kernel_rfl) rfl #[.pointer (some ⟨g,0,none⟩), .int .i64 24] rfl gd_ ?_;(with_reducible refine(spec_l1Cur_pick.calls g s0_0 t337 t338 24 t339 t340 t341 w0 _ ?side1 ?side2 A5.out).mono ?_);(case side1=>exact(a2_ HI0.out));(case side2=>exact(a3_ HI0.out));rintro e w8 ⟨rfl,hi,hb,hk⟩;refine⟨_,rfl,?_⟩;replace HK:=am_ (KeepBut.trans (a4_) hk (.inl rfl));replace HB:=am_ (hb);replace HI0:=am_ (hi);(try clear hb);(try clear hb2);(try clear hk);(try clear hi))));go_ret;exact⟨a10_,(a2_ HI0.out),(a3_ HI0.out),a4_⟩

/-! ### spec_DrawCommonSource: function 13 -/
def spec_DrawCommonSource.f (k:Nat) (l0:List Int):Option ((List (S47))×Int×Int):=(spec_l1Cur_rolls.f k l0 0 0).bind fun bt343=>((spec_l1Cur_rollIndex.f l0 bt343.2.1 bt343.2.2 bt343.1).bind fun bt348=>((spec_l1Cur_rollIndex.f l0 bt348.2.1 bt348.2.2 bt343.1).bind fun bt351=>(some (bt343.1,bt348.1,bt351.1))))
theorem spec_DrawCommonSource.mono:∀a0 k,LeO (spec_DrawCommonSource.f k a0) (spec_DrawCommonSource.f (k+1) a0):=by
 intro a0 k;unfold spec_DrawCommonSource.f
 repeat' first
  |(with_reducible exact spec_l1Cur_rolls.mono _ _ _ _)
  |(with_reducible exact LeO.refl _)
  |(with_reducible exact LeO.none _)
  |(with_reducible refine LeO.ite ?_ ?_)
  |(with_reducible refine LeO.bind ?_ (fun _=>?_))
  |exact spec_l1Cur_rolls.mono _ _ _ _
  |exact LeO.none _
   | refine LeO.ite ?_ ?_
   | refine LeO.bind ?_ (fun _=>?_)
set_option maxHeartbeats 8000000 in
set_option maxRecDepth 100000 in
theorem spec_DrawCommonSource.calls (k:Nat) (A0:Option Addr) (c0:Nat) (l0:List Int) (r1:List (S47)) (r2:Int) (r3:Int) (w:World) (hr0:Kd.C (Kd.int .u8) w A0 l0.length l0) (hc0:l0.length≤c0) (h:spec_DrawCommonSource.f k l0=some (r1,r2,r3)) :
 Calls Tryz.prog 13 #[.slice A0 l0.length c0] w fun e w'=>∃v0_:Value,e = .returned (.tuple #[v0_, .int .i64 r2, .int .i64 r3])∧Kd.R k47 47 w' w.heap.size (fun _=>True) v0_ r1∧Below w.heap.size w w':=by
 (have hu65:=Tryz.underlying65);(have HR0:=am_ hr0);(have HC0:=am_ hc0);clear hr0 hc0;(have HB:=am_ (Below.refl w.heap.size w));(have H:((spec_l1Cur_rolls.f k l0 0 0).bind fun bt343=>((spec_l1Cur_rollIndex.f l0 bt343.2.1 bt343.2.2 bt343.1).bind fun bt348=>((spec_l1Cur_rollIndex.f l0 bt348.2.1 bt348.2.2 bt343.1).bind fun bt351=>(some (bt343.1,bt348.1,bt351.1)))))=some (r1,r2,r3):=h);clear h;obtain⟨⟨t343,t346,t347⟩,A2,H⟩:=bo_ H;(try dsimp only at H);obtain⟨⟨t348,t349,t350⟩,A3,H⟩:=bo_ H;(try dsimp only at H);obtain⟨⟨t351,t352,t353⟩,A4,H⟩:=bo_ H;(try dsimp only at H);simp only[Option.some.injEq,Prod.mk.injEq]at H;obtain⟨rfl,rfl,rfl⟩:=H;(go_enter Tryz.func13,Tryz.ntmps13);(go_wp2_with (first|((with_reducible refine gate_dst (N:=9) rfl ?_);refine box_event ?hg (N:=9) ?hd (cs:= #[.slice A0 l0.length c0, .int .i64 0, .int .u64 0]) (t:=65) ?hr ?_;(case hd=>rfl);(case hg=>rfl);(case hr=>exact hr_);intro g342 hg w5 hbox hb;have HI342:=am_ ((⟨_,_,hbox,by rw[hg];exact(below_size (a1_)),HR0.out⟩:IsS65 w w5 g342 l0 0 0));replace HB:=am_ (below_step (a1_) hb);clear hb hbox hg)|((with_reducible refine gate_callee (f:=39) rfl ?_);refine goesL_ (some 11) rfl rfl Tryz.func39 (by kernel_rfl) rfl #[.pointer (some ⟨g342,0,none⟩)] rfl gd_ ?_;(with_reducible refine(spec_l1Cur_rolls.calls k g342 l0 0 0 t343 t346 t347 w _ ?side1 ?side2 A2.out).mono ?_);(case side1=>exact(a2_ HI342.out));(case side2=>exact(a3_ HI342.out));rintro e w6 ⟨v344,rfl,ho0,hi,hb,hk⟩;refine⟨_,rfl,?_⟩;have HO345:=am_ (Kd.R_lower ho0 (below_size ((a3_ HI342.out))));replace HB:=am_ (hb);replace HI342:=am_ (hi);(try clear hb);(try clear hb2);(try clear hk);(try clear hi);(try clear ho0);obtain⟨Ao7,co7,eo7⟩:=Kd.R_slice HO345.out;subst eo7)|((with_reducible refine gate_callee (f:=40) rfl ?_);refine goesL_ (some 15) rfl rfl Tryz.func40 (by kernel_rfl) rfl #[.pointer (some ⟨g342,0,none⟩), .slice Ao7 t343.length co7] rfl gd_ ?_;(with_reducible refine(spec_l1Cur_rollIndex.calls g342 l0 t346 t347 _ _ t343 t348 t349 t350 w _ ?side1 ?side2 ?side3 ?side4 A3.out).mono ?_);(case side1=>exact(a2_ HI342.out));(case side2=>exact(a3_ HI342.out));(case side3=>exact Kd.C_foot_own (IsS65.apart (show IsS65 w _ g342 l0 t346 t347 from(a2_ HI342.out)) ((a0_ HO345.out)) (by decide)) (fun _ h_=>h_.2));(case side4=>exact(Kd.R_reads' HO345.out).2.1);rintro e w8 ⟨rfl,hi,hb,hk⟩;refine⟨_,rfl,?_⟩;replace HO345:=am_ (Kd.R_mono (Kd.R_keep (IsS65.apart (show IsS65 w _ g342 l0 t346 t347 from(a2_ HI342.out)) ((a0_ HO345.out)) (by decide)) hk (fun _ h=>h.2)) (fun _ h=>h.1));replace HB:=am_ (hb);replace HI342:=am_ (hi);(try clear hb);(try clear hb2);(try clear hk);(try clear hi))|((with_reducible refine gate_callee (f:=40) rfl ?_);refine goesL_ (some 18) rfl rfl Tryz.func40 (by kernel_rfl) rfl #[.pointer (some ⟨g342,0,none⟩), .slice Ao7 t343.length co7] rfl gd_ ?_;(with_reducible refine(spec_l1Cur_rollIndex.calls g342 l0 t349 t350 _ _ t343 t351 t352 t353 w _ ?side1 ?side2 ?side3 ?side4 A4.out).mono ?_);(case side1=>exact(a2_ HI342.out));(case side2=>exact(a3_ HI342.out));(case side3=>exact Kd.C_foot_own (IsS65.apart (show IsS65 w _ g342 l0 t349 t350 from(a2_ HI342.out)) ((a0_ HO345.out)) (by decide)) (fun _ h_=>h_.2));(case side4=>exact(Kd.R_reads' HO345.out).2.1);rintro e w9 ⟨rfl,hi,hb,hk⟩;refine⟨_,rfl,?_⟩;replace HO345:=am_ (Kd.R_mono (Kd.R_keep (IsS65.apart (show IsS65 w _ g342 l0 t349 t350 from(a2_ HI342.out)) ((a0_ HO345.out)) (by decide)) hk (fun _ h=>h.2)) (fun _ h=>h.1));replace HB:=am_ (hb);replace HI342:=am_ (hi);(try clear hb);(try clear hb2);(try clear hk);(try clear hi))));(go_ret3);exact⟨_,a10_,(a0_ HO345.out),(a3_ HI342.out)⟩

/-! ### impl_isRoll: function 41 -/
def impl_isRoll.f (k:Nat) (l0:List (S47)) (a1:Int):Option (Bool):=(impl_IsCatalogue.f k l0).bind fun t354=>(if t354=true then(if a1≥0 then(some (decide (a1<(l0.length:Int)))) else(some false)) else(some false))
theorem impl_isRoll.mono:∀a0 a1 k,LeO (impl_isRoll.f k a0 a1) (impl_isRoll.f (k+1) a0 a1):=by
 intro a0 a1 k;unfold impl_isRoll.f
 repeat' first
  |(with_reducible exact impl_IsCatalogue.mono _ _)
  |(with_reducible exact LeO.refl _)
  |(with_reducible exact LeO.none _)
  |(with_reducible refine LeO.ite ?_ ?_)
  |(with_reducible refine LeO.bind ?_ (fun _=>?_))
  |exact impl_IsCatalogue.mono _ _
  |exact LeO.none _
   | refine LeO.ite ?_ ?_
   | refine LeO.bind ?_ (fun _=>?_)
set_option maxHeartbeats 8000000 in
set_option maxRecDepth 100000 in
theorem impl_isRoll.calls (k:Nat) (A0:Option Addr) (c0:Nat) (l0:List (S47)) (a1:Int) (r:Bool) (w:World) (hr0:Kd.C k47 w A0 l0.length l0) (hc0:l0.length≤c0) (h:impl_isRoll.f k l0 a1=some r) :
 Calls Tryz.prog 41 #[.slice A0 l0.length c0, .int .i64 a1] w fun e w'=>e = .returned (.bool r)∧Below w.heap.size w w':=by
 (have HR0:=am_ hr0);(have HC0:=am_ hc0);clear hr0 hc0;(have HB:=am_ (Below.refl w.heap.size w));(have H:((impl_IsCatalogue.f k l0).bind fun t354=>(if t354=true then(if a1≥0 then(some (decide (a1<(l0.length:Int)))) else(some false)) else(some false)))=some r:=h);clear h;obtain⟨t354,A3,H⟩:=bo_ H;(try dsimp only at H);by_cases c4:t354=true;(focus subst c4;(replace H:(if a1≥0 then(some (decide (a1<(l0.length:Int)))) else(some false))=some r:=by rw[if_pos rfl]at H;exact H);by_cases c5:a1≥0;(focus rw[if_pos c5]at H;(have c5b0:decide (0≤a1)=true:=decide_eq_true c5);clear c5;obtain rfl:=Option.some.inj H;(go_enter Tryz.func41,Tryz.ntmps41);(go_wp2_with (first|((with_reducible refine gate_callee (f:=22) rfl ?_);refine goesL_ (some 6) rfl rfl Tryz.func22 (by kernel_rfl) rfl #[.slice A0 l0.length c0] rfl gd_ ?_;(with_reducible refine(impl_IsCatalogue.calls k _ _ l0 true _ ?side1 ?side2 A3.out).mono ?_);(case side1=>exact(a15_ HR0.out));(case side2=>exact HC0.out);rintro e w6 ⟨rfl,hb⟩;refine⟨_,rfl,?_⟩;replace HB:=am_ (below_step (a1_) hb);(try clear hb);(try clear hb2);(try clear hk);(try clear hi))));go_ret;exact⟨a10_,a1_⟩);(focus rw[if_neg c5]at H;(have c5b0:decide (0≤a1)=false:=decide_eq_false c5);clear c5;obtain rfl:=Option.some.inj H;(go_enter Tryz.func41,Tryz.ntmps41);(go_wp2_with (first|((with_reducible refine gate_callee (f:=22) rfl ?_);refine goesL_ (some 6) rfl rfl Tryz.func22 (by kernel_rfl) rfl #[.slice A0 l0.length c0] rfl gd_ ?_;(with_reducible refine(impl_IsCatalogue.calls k _ _ l0 true _ ?side1 ?side2 A3.out).mono ?_);(case side1=>exact(a15_ HR0.out));(case side2=>exact HC0.out);rintro e w7 ⟨rfl,hb⟩;refine⟨_,rfl,?_⟩;replace HB:=am_ (below_step (a1_) hb);(try clear hb);(try clear hb2);(try clear hk);(try clear hi))));go_ret;exact⟨a10_,a1_⟩));(focus replace c4:=Bool.eq_false_iff.mpr c4;subst c4;(replace H:(some false)=some r:=by rw[if_neg (show ¬(false=true) by decide)]at H;exact H);obtain rfl:=Option.some.inj H;(go_enter Tryz.func41,Tryz.ntmps41);(go_wp2_with (first|((with_reducible refine gate_callee (f:=22) rfl ?_);refine goesL_ (some 6) rfl rfl Tryz.func22 (by kernel_rfl) rfl #[.slice A0 l0.length c0] rfl gd_ ?_;(with_reducible refine(impl_IsCatalogue.calls k _ _ l0 false _ ?side1 ?side2 A3.out).mono ?_);(case side1=>exact(a15_ HR0.out));(case side2=>exact HC0.out);rintro e w8 ⟨rfl,hb⟩;refine⟨_,rfl,?_⟩;replace HB:=am_ (below_step (a1_) hb);(try clear hb);(try clear hb2);(try clear hk);(try clear hi))));go_ret;exact⟨a10_,a1_⟩)

/-! ### slices_Index_int_int: function 67 -/
def slices_Index_int_int.l0:Nat→List Int→Int→Int→Int→Option (Int)
 | 0,_,_,_,_=>none
 | k+1,x0,x1,x7,x8=>if x8<x7 then(if 0≤x8 then(if x8<(x0.length:Int) then(if x1=(rd x0 x8) then(some x8) else(slices_Index_int_int.l0 k x0 x1 x7 (wrap64 (x8+1)))) else(none)) else(none)) else(some (-1))
def slices_Index_int_int.f (k:Nat) (l0:List Int) (a1:Int):Option (Int):=slices_Index_int_int.l0 k l0 a1 (l0.length:Int) 0
theorem slices_Index_int_int.mono_l:∀k,(∀y0 y1 y2 y3,LeO (slices_Index_int_int.l0 k y0 y1 y2 y3) (slices_Index_int_int.l0 (k+1) y0 y1 y2 y3))
 | 0=>fun _ _ _ _ r h=>by simp[slices_Index_int_int.l0]at h
 | k+1=>by
  have ih0:=slices_Index_int_int.mono_l k
  intros
  unfold slices_Index_int_int.l0
  rotate_left
  all_goals repeat' first|(with_reducible first|exact ih0 _ _ _ _|exact LeO.refl _|exact LeO.none _|refine LeO.ite ?_ ?_|refine LeO.bind ?_ (fun _=>?_))|exact ih0 _ _ _ _|exact LeO.none _|refine LeO.ite ?_ ?_|refine LeO.bind ?_ (fun _=>?_)
theorem slices_Index_int_int.mono:∀a0 a1 k,LeO (slices_Index_int_int.f k a0 a1) (slices_Index_int_int.f (k+1) a0 a1):=by
 intro a0 a1 k;(have ih0:=slices_Index_int_int.mono_l k);unfold slices_Index_int_int.f
 repeat' first
  |(with_reducible exact ih0 _ _ _ _)
  |(with_reducible exact LeO.refl _)
  |(with_reducible exact LeO.none _)
  |(with_reducible refine LeO.ite ?_ ?_)
  |(with_reducible refine LeO.bind ?_ (fun _=>?_))
  |exact ih0 _ _ _ _
  |exact LeO.none _
   | refine LeO.ite ?_ ?_
   | refine LeO.bind ?_ (fun _=>?_)
set_option maxHeartbeats 8000000 in
set_option maxRecDepth 100000 in
theorem slices_Index_int_int.calls (k:Nat) (A0:Option Addr) (c0:Nat) (l0:List Int) (a1:Int) (r:Int) (w:World) (hr0:Kd.C (Kd.int .i64) w A0 l0.length l0) (hc0:l0.length≤c0) (h:slices_Index_int_int.f k l0 a1=some r) :
 Calls Tryz.prog 67 #[.slice A0 l0.length c0, .int .i64 a1] w fun e w'=>e = .returned (.int .i64 r)∧Drawn0 w w':=by
 (have HR0:=am_ hr0);(have HC0:=am_ hc0);clear hr0 hc0;(have H:(slices_Index_int_int.l0 k l0 a1 (l0.length:Int) 0)=some r:=h);clear h;(have H':=am_ H);clear H;(go_enter Tryz.func67,Tryz.ntmps67);go_wp2;(try simp only[Act.put,List.setIfInBounds_toArray,List.set_cons_zero,List.set_cons_succ])
 go_loopg [8] k (fun kq v8 w'=>∃(x8_1:Int),v8 = .int .i64 x8_1∧Aside0 (slices_Index_int_int.l0 kq l0 a1 (l0.length:Int) x8_1=some r)∧Aside0 (kq≤k)∧Drawn0 w w')
 case atStart=>exact⟨(0),(by first | rfl|(simp;done)|(simp[*];done)),H',⟨Nat.le_refl _⟩,a19_⟩
 case round=>
  clear H';(try clear p2);obtain⟨x8_1,rfl,HA,HK1,⟨m1,rfl⟩⟩:=hrel;cases gk with
  | zero=>exact absurd HA.out (by simp[slices_Index_int_int.l0])
  | succ k1=>
   (have H:=HA.out);clear HA;simp only[slices_Index_int_int.l0]at H;by_cases c3:x8_1<(l0.length:Int)
   ·rw[if_pos c3]at H;(have c3b0:decide (x8_1<(l0.length:Int))=true:=decide_eq_true c3);clear c3;by_cases c4:0≤x8_1
    ·rw[if_pos c4]at H;(have c4b0:decide (0≤x8_1)=true:=decide_eq_true c4);clear c4;by_cases c5:x8_1<(l0.length:Int)
     ·rw[if_pos c5]at H;(have c5b0:decide (x8_1<(l0.length:Int))=true:=decide_eq_true c5);clear c5;by_cases c6:a1=(rd l0 x8_1);(focus rw[if_pos c6]at H;(have c6b0:(a1 == (rd l0 x8_1))=true:=beq_iff_eq.mpr c6);(have c6b1:(a1 != (rd l0 x8_1))=false:=bne_eq_false_iff_eq.mpr c6);clear c6;obtain rfl:=Option.some.inj H;(have p355:0≤(x8_1:Int):=of_decide_eq_true (a6_));(have q355:x8_1<(l0.length:Int):=of_decide_eq_true (a6_));obtain⟨ad355,e355,hx355_0⟩:=Kd.at_int HR0.out x8_1 p355 q355;cases e355;replace p355:=eq_true p355;replace q355:=eq_true q355;go_wp2;go_ret;exact⟨by first | rfl|(simp;done)|(simp[*];done),a19_⟩)
      ·rw[if_neg c6]at H;(have c6b0:(a1 == (rd l0 x8_1))=false:=beq_eq_false_iff_ne.mpr c6);(have c6b1:(a1 != (rd l0 x8_1))=true:=bne_iff_ne.mpr c6);(have H':=am_ H);clear H;(have p355:0≤(x8_1:Int):=of_decide_eq_true (a6_));(have q355:x8_1<(l0.length:Int):=of_decide_eq_true (a6_));obtain⟨ad355,e355,hx355_0⟩:=Kd.at_int HR0.out x8_1 p355 q355;cases e355;replace p355:=eq_true p355;replace q355:=eq_true q355;go_wp2;(go_roundg k1)
       case measure=>have:=HK1.out;omega
       case rel=>exact⟨(wrap64 (x8_1+1)),(by first | rfl|(simp;done)|(simp[*];done)),H',⟨by have:=HK1.out;omega⟩,a19_⟩
     (focus rw[if_neg c5]at H;exact absurd H (by simp))
    (focus rw[if_neg c4]at H;exact absurd H (by simp))
   (focus rw[if_neg c3]at H;(have c3b0:decide (x8_1<(l0.length:Int))=false:=decide_eq_false c3);clear c3;obtain rfl:=Option.some.inj H;go_wp2;go_ret;exact⟨by first | rfl|(simp;done)|(simp[*];done),a19_⟩)

/-! ### slices_Contains_int_int: function 42 -/
def slices_Contains_int_int.f (k:Nat) (l0:List Int) (a1:Int):Option (Bool):=(slices_Index_int_int.f k l0 a1).bind fun t356=>(some (decide (t356≥0)))
theorem slices_Contains_int_int.mono:∀a0 a1 k,LeO (slices_Contains_int_int.f k a0 a1) (slices_Contains_int_int.f (k+1) a0 a1):=by
 intro a0 a1 k;unfold slices_Contains_int_int.f
 repeat' first
  |(with_reducible exact slices_Index_int_int.mono _ _ _)
  |(with_reducible exact LeO.refl _)
  |(with_reducible exact LeO.none _)
  |(with_reducible refine LeO.ite ?_ ?_)
  |(with_reducible refine LeO.bind ?_ (fun _=>?_))
  |exact slices_Index_int_int.mono _ _ _
  |exact LeO.none _
   | refine LeO.ite ?_ ?_
   | refine LeO.bind ?_ (fun _=>?_)
set_option maxHeartbeats 8000000 in
set_option maxRecDepth 100000 in
theorem slices_Contains_int_int.calls (k:Nat) (A0:Option Addr) (c0:Nat) (l0:List Int) (a1:Int) (r:Bool) (w:World) (hr0:Kd.C (Kd.int .i64) w A0 l0.length l0) (hc0:l0.length≤c0) (h:slices_Contains_int_int.f k l0 a1=some r) :
 Calls Tryz.prog 42 #[.slice A0 l0.length c0, .int .i64 a1] w fun e w'=>e = .returned (.bool r)∧Drawn0 w w':=by
 (have HR0:=am_ hr0);(have HC0:=am_ hc0);clear hr0 hc0;(have H:((slices_Index_int_int.f k l0 a1).bind fun t356=>(some (decide (t356≥0))))=some r:=h);clear h;obtain⟨t356,A3,H⟩:=bo_ H;(try dsimp only at H);obtain rfl:=Option.some.inj H;(go_enter Tryz.func42,Tryz.ntmps42);(go_wp2_with (first|((with_reducible refine gate_callee (f:=67) rfl ?_);refine goesL_ (some 7) rfl rfl Tryz.func67 (by kernel_rfl) rfl #[.slice A0 l0.length c0, .int .i64 a1] rfl gd_ ?_;(with_reducible refine(slices_Index_int_int.calls k _ _ l0 a1 t356 _ ?side1 ?side2 A3.out).mono ?_);(case side1=>exact(a15_ HR0.out));(case side2=>exact HC0.out);rintro e w' ⟨rfl,⟨nd,rfl⟩⟩;refine⟨_,rfl,?_⟩)));go_ret;exact⟨by first | rfl|(simp;done)|(simp[*];done),a19_⟩

/-! ### impl_CommonSource: function 14 -/
mutual
def impl_CommonSource.j0:Nat→List (S47)→Int→Int→Bool→Option (Int×Bool)
 | 0,_,_,_,_=>none
 | k+1,x0,x1,x2,x20=>if x20=true then(some (0,false)) else((impl_provenanceOf.f k x0 x2).bind fun t359=>((impl_provenanceOf.f k x0 x1).bind fun t362=>(impl_CommonSource.l0 k t359 t362 (t362.length:Int) 0)))
def impl_CommonSource.l0:Nat→List Int→List Int→Int→Int→Option (Int×Bool)
 | 0,_,_,_,_=>none
 | k+1,x8,x26,x27,x28=>if x28<x27 then(if 0≤x28 then(if x28<(x26.length:Int) then((slices_Contains_int_int.f k x8 (rd x26 x28)).bind fun t366=>(if t366=true then(some (rd x26 x28,true)) else(impl_CommonSource.l0 k x8 x26 x27 (wrap64 (x28+1))))) else(none)) else(none)) else(some (0,false))
end
def impl_CommonSource.f (k:Nat) (l0:List (S47)) (a1:Int) (a2:Int):Option (Int×Bool):=(impl_isRoll.f k l0 a1).bind fun t357=>(if t357=true then((impl_isRoll.f k l0 a2).bind fun t358=>(impl_CommonSource.j0 k l0 a1 a2 (!t358))) else(impl_CommonSource.j0 k l0 a1 a2 true))
theorem impl_CommonSource.mono_l:∀k,(∀y0 y1 y2 y3,LeO (impl_CommonSource.j0 k y0 y1 y2 y3) (impl_CommonSource.j0 (k+1) y0 y1 y2 y3))∧(∀y0 y1 y2 y3,LeO (impl_CommonSource.l0 k y0 y1 y2 y3) (impl_CommonSource.l0 (k+1) y0 y1 y2 y3))
 | 0=>⟨fun _ _ _ _ r h=>by simp[impl_CommonSource.j0]at h,fun _ _ _ _ r h=>by simp[impl_CommonSource.l0]at h⟩
 | k+1=>by
  obtain⟨ih0,ih1⟩:=impl_CommonSource.mono_l k
  refine⟨?_,?_⟩
  intros
  unfold impl_CommonSource.j0
  rotate_left
  intros
  unfold impl_CommonSource.l0
  rotate_left
  all_goals repeat' first|(with_reducible first|exact ih0 _ _ _ _|exact ih1 _ _ _ _|exact impl_isRoll.mono _ _ _|exact impl_provenanceOf.mono _ _ _|exact slices_Contains_int_int.mono _ _ _|exact LeO.refl _|exact LeO.none _|refine LeO.ite ?_ ?_|refine LeO.bind ?_ (fun _=>?_))|exact ih0 _ _ _ _|exact ih1 _ _ _ _|exact impl_isRoll.mono _ _ _|exact impl_provenanceOf.mono _ _ _|exact slices_Contains_int_int.mono _ _ _|exact LeO.none _|refine LeO.ite ?_ ?_|refine LeO.bind ?_ (fun _=>?_)
theorem impl_CommonSource.mono:∀a0 a1 a2 k,LeO (impl_CommonSource.f k a0 a1 a2) (impl_CommonSource.f (k+1) a0 a1 a2):=by
 intro a0 a1 a2 k;obtain⟨ih0,ih1⟩:=impl_CommonSource.mono_l k;unfold impl_CommonSource.f
 repeat' first
  |(with_reducible exact ih0 _ _ _ _)
  |(with_reducible exact ih1 _ _ _ _)
  |(with_reducible exact impl_isRoll.mono _ _ _)
  |(with_reducible exact impl_provenanceOf.mono _ _ _)
  |(with_reducible exact slices_Contains_int_int.mono _ _ _)
  |(with_reducible exact LeO.refl _)
  |(with_reducible exact LeO.none _)
  |(with_reducible refine LeO.ite ?_ ?_)
  |(with_reducible refine LeO.bind ?_ (fun _=>?_))
  |exact ih0 _ _ _ _
  |exact ih1 _ _ _ _
  |exact impl_isRoll.mono _ _ _
  |exact impl_provenanceOf.mono _ _ _
  |exact slices_Contains_int_int.mono _ _ _
  |exact LeO.none _
   | refine LeO.ite ?_ ?_
   | refine LeO.bind ?_ (fun _=>?_)
set_option maxHeartbeats 8000000 in
set_option maxRecDepth 100000 in
theorem impl_CommonSource.calls (k:Nat) (A0:Option Addr) (c0:Nat) (l0:List (S47)) (a1:Int) (a2:Int) (r1:Int) (r2:Bool) (w:World) (hr0:Kd.C k47 w A0 l0.length l0) (hc0:l0.length≤c0) (h:impl_CommonSource.f k l0 a1 a2=some (r1,r2)) :
 Calls Tryz.prog 14 #[.slice A0 l0.length c0, .int .i64 a1, .int .i64 a2] w fun e w'=>e = .returned (.tuple #[.int .i64 r1, .bool r2])∧Below w.heap.size w w':=by
 (have HR0:=am_ hr0);(have HC0:=am_ hc0);clear hr0 hc0;(have HB:=am_ (Below.refl w.heap.size w));(have H:((impl_isRoll.f k l0 a1).bind fun t357=>(if t357=true then((impl_isRoll.f k l0 a2).bind fun t358=>(impl_CommonSource.j0 k l0 a1 a2 (!t358))) else(impl_CommonSource.j0 k l0 a1 a2 true)))=some (r1,r2):=h);clear h;(have HC4:=am_ H);clear H;(go_enter Tryz.func14,Tryz.ntmps14);(go_upto_region 1 with (fail));(go_cut [20] (fun v20 wc=>∃(kq:Nat) (x20_3:Bool),v20 = .bool x20_3∧Aside0 (impl_CommonSource.j0 kq l0 a1 a2 x20_3=some (r1,r2))∧Aside0 (kq≤k)∧Aside0 (Below w.heap.size w wc)))
 case first=>
  (have H:=HC4.out);clear HC4;obtain⟨t357,A5,H⟩:=bo_ H;(try dsimp only at H);by_cases c6:t357=true
  ·subst c6;(replace H:((impl_isRoll.f k l0 a2).bind fun t358=>(impl_CommonSource.j0 k l0 a1 a2 (!t358)))=some (r1,r2):=by rw[if_pos rfl]at H;exact H);obtain⟨t358,A7,H⟩:=bo_ H;(try dsimp only at H);(have H':=am_ H);clear H;(go_wp2_with (first|((with_reducible refine gate_callee (f:=41) rfl ?_);refine goesL_ (some 13) rfl rfl Tryz.func41 (by kernel_rfl) rfl #[.slice A0 l0.length c0, .int .i64 a1] rfl gd_ ?_;(with_reducible refine(impl_isRoll.calls k _ _ l0 a1 true _ ?side1 ?side2 A5.out).mono ?_);(case side1=>exact(a18_ HR0.out));(case side2=>exact HC0.out);rintro e w8 ⟨rfl,hb⟩;refine⟨_,rfl,?_⟩;replace HB:=am_ (below_step (a1_) hb);(try clear hb);(try clear hb2);(try clear hk);(try clear hi))|(go_at_call 41;(with_reducible refine(impl_isRoll.calls k _ _ l0 a2 t358 _ ?side1 ?side2 A7.out).mono ?_);(case side1=>exact(a18_ HR0.out));(case side2=>exact HC0.out);rintro e w9 ⟨rfl,hb⟩;replace HB:=am_ (below_step (a1_) hb);(try clear hb);(try clear hb2);(try clear hk);(try clear hi))));go_meet
   case rel=>exact⟨_,(!t358),(by first | rfl|(simp;done)|(simp[*];done)),H',⟨by first | omega|exact Nat.le_refl _⟩,⟨a1_⟩⟩
  ·replace c6:=Bool.eq_false_iff.mpr c6;subst c6;(replace H:(impl_CommonSource.j0 k l0 a1 a2 true)=some (r1,r2):=by rw[if_neg (show ¬(false=true) by decide)]at H;exact H);(have H':=am_ H);clear H;(go_wp2_with (first|((with_reducible refine gate_callee (f:=41) rfl ?_);refine goesL_ (some 13) rfl rfl Tryz.func41 (by kernel_rfl) rfl #[.slice A0 l0.length c0, .int .i64 a1] rfl gd_ ?_;(with_reducible refine(impl_isRoll.calls k _ _ l0 a1 false _ ?side1 ?side2 A5.out).mono ?_);(case side1=>exact(a18_ HR0.out));(case side2=>exact HC0.out);rintro e w10 ⟨rfl,hb⟩;refine⟨_,rfl,?_⟩;replace HB:=am_ (below_step (a1_) hb);(try clear hb);(try clear hb2);(try clear hk);(try clear hi))));go_meet
   case rel=>exact⟨_,(true),(by first | rfl|(simp;done)|(simp[*];done)),H',⟨by first | omega|exact Nat.le_refl _⟩,⟨a1_⟩⟩
 case rest=>
  clear HC4;(try clear c1);(try clear p2);(try clear c4);(try clear c6);obtain⟨kq,x20_3,rfl,HA,HJ3,HB⟩:=hcut;cases kq with
  | zero=>exact absurd HA.out (by simp[impl_CommonSource.j0])
  | succ kj3=>
   (have H:=HA.out);clear HA;simp only[impl_CommonSource.j0]at H;by_cases c11:x20_3=true;(focus subst c11;(replace H:(some (0,false))=some (r1,r2):=by rw[if_pos rfl]at H;exact H);simp only[Option.some.injEq,Prod.mk.injEq]at H;obtain⟨rfl,rfl⟩:=H;go_wp2;go_ret2;exact⟨a10_,a1_⟩)
   ·replace c11:=Bool.eq_false_iff.mpr c11;subst c11;(replace H:((impl_provenanceOf.f kj3 l0 a2).bind fun t359=>((impl_provenanceOf.f kj3 l0 a1).bind fun t362=>(impl_CommonSource.l0 kj3 t359 t362 (t362.length:Int) 0)))=some (r1,r2):=by rw[if_neg (show ¬(false=true) by decide)]at H;exact H);obtain⟨t359,A12,H⟩:=bo_ H;(try dsimp only at H);obtain⟨t362,A13,H⟩:=bo_ H;(try dsimp only at H);(have H':=am_ H);clear H;(go_wp2_with (first|((with_reducible refine gate_callee (f:=34) rfl ?_);refine goesL_ (some 23) rfl rfl Tryz.func34 (by kernel_rfl) rfl #[.slice A0 l0.length c0, .int .i64 a2] rfl gd_ ?_;(with_reducible refine(impl_provenanceOf.calls kj3 _ _ l0 a2 t359 _ ?side1 ?side2 A12.out).mono ?_);(case side1=>exact(a18_ HR0.out));(case side2=>exact HC0.out);rintro e w14 ⟨v360,rfl,ho0,hb⟩;refine⟨_,rfl,?_⟩;have HO361:=am_ (Kd.R_lower ho0 (below_size (a1_)));replace HB:=am_ (below_step (a1_) hb);(try clear hb);(try clear hb2);(try clear hk);(try clear hi);(try clear ho0))|((with_reducible refine gate_callee (f:=34) rfl ?_);refine goesL_ (some 26) rfl rfl Tryz.func34 (by kernel_rfl) rfl #[.slice A0 l0.length c0, .int .i64 a1] rfl gd_ ?_;(with_reducible refine(impl_provenanceOf.calls kj3 _ _ l0 a1 t362 _ ?side1 ?side2 A13.out).mono ?_);(case side1=>exact(a18_ HR0.out));(case side2=>exact HC0.out);rintro e w15 ⟨v363,rfl,ho0,hb⟩;refine⟨_,rfl,?_⟩;have HO364:=am_ (Kd.R_lower (Kd.R_new' ho0 (Kd.R_lt ((a0_ HO361.out)))) (below_size (a1_)));replace HO361:=am_ (Kd.R_elder' ((a0_ HO361.out)) (Kd.R_base ho0) hb);replace HB:=am_ (below_step (a1_) hb);(try clear hb);(try clear hb2);(try clear hk);(try clear hi);(try clear ho0);obtain⟨Ao16,co16,eo16⟩:=Kd.R_slice HO364.out;subst eo16)));(try simp only[Act.put,List.setIfInBounds_toArray,List.set_cons_zero,List.set_cons_succ])
    go_loopg [28] kj3 (fun kq v28 w'=>∃(x28_2:Int),v28 = .int .i64 x28_2∧Aside0 (impl_CommonSource.l0 kq t359 t362 (t362.length:Int) x28_2=some (r1,r2))∧Aside0 (kq≤kj3)∧Aside0 (Kd.R (Kd.int .i64) 3 w' w.heap.size (fun k_=>some k_≠((.slice Ao16 t362.length co16):Value).ownBlock) v360 t359)∧Aside0 (Kd.R (Kd.int .i64) 3 w' w.heap.size (fun k_=>some k_≠(v360:Value).ownBlock) (.slice Ao16 t362.length co16) t362)∧Aside0 (Below w.heap.size w w'))
    case atStart=>exact⟨(0),(by first | rfl|(simp;done)|(simp[*];done)),H',⟨Nat.le_refl _⟩,⟨(a21_ HO361.out)⟩,⟨(a21_ HO364.out)⟩,⟨a1_⟩⟩
    case round=>
     clear H';(try clear c1);(try clear p2);(try clear c3);(try clear c4);(try clear c6);(try clear c11);(try clear c14);(try clear p2);obtain⟨x28_2,rfl,HA,HK2,HO_8,HO_26,HB⟩:=hrel;cases gk with
     | zero=>exact absurd HA.out (by simp[impl_CommonSource.l0])
     | succ k2=>
      (have H:=HA.out);clear HA;simp only[impl_CommonSource.l0]at H;by_cases c17:x28_2<(t362.length:Int)
      ·rw[if_pos c17]at H;(have c17b0:decide (x28_2<(t362.length:Int))=true:=decide_eq_true c17);clear c17;by_cases c18:0≤x28_2
       ·rw[if_pos c18]at H;(have c18b0:decide (0≤x28_2)=true:=decide_eq_true c18);clear c18;by_cases c19:x28_2<(t362.length:Int)
        ·rw[if_pos c19]at H;(have c19b0:decide (x28_2<(t362.length:Int))=true:=decide_eq_true c19);clear c19;obtain⟨t366,A20,H⟩:=bo_ H;(try dsimp only at H);by_cases c21:t366=true;(focus subst c21;(replace H:(some (rd t362 x28_2,true))=some (r1,r2):=by rw[if_pos rfl]at H;exact H);simp only[Option.some.injEq,Prod.mk.injEq]at H;obtain⟨rfl,rfl⟩:=H;(have p365:0≤(x28_2:Int):=of_decide_eq_true (a6_));(have q365:x28_2<(t362.length:Int):=of_decide_eq_true (a6_));obtain⟨ad365,e365,hx365_0⟩:=Kd.at_int (Kd.R_reads' HO_26.out).2.2 x28_2 p365 q365;cases e365;replace p365:=eq_true p365;replace q365:=eq_true q365;obtain⟨Ao22,co22,eo22⟩:=Kd.R_slice HO_8.out;subst eo22;(go_wp2_with (first|((with_reducible refine gate_callee (f:=42) rfl ?_);refine goesL_ (some 34) rfl rfl Tryz.func42 (by kernel_rfl) rfl #[.slice Ao22 t359.length co22, .int .i64 (rd t362 x28_2)] rfl gd_ ?_;(with_reducible refine(slices_Contains_int_int.calls k2 _ _ t359 (rd t362 x28_2) true _ ?side1 ?side2 A20.out).mono ?_);(case side1=>exact(a7_ HO_8.out));(case side2=>exact(Kd.R_reads' HO_8.out).2.1);rintro e w' ⟨rfl,⟨nd,rfl⟩⟩;refine⟨_,rfl,?_⟩)));go_ret2;exact⟨a10_,a1_⟩)
         ·replace c21:=Bool.eq_false_iff.mpr c21;subst c21;(replace H:(impl_CommonSource.l0 k2 t359 t362 (t362.length:Int) (wrap64 (x28_2+1)))=some (r1,r2):=by rw[if_neg (show ¬(false=true) by decide)]at H;exact H);(have H':=am_ H);clear H;(have p365:0≤(x28_2:Int):=of_decide_eq_true (a6_));(have q365:x28_2<(t362.length:Int):=of_decide_eq_true (a6_));obtain⟨ad365,e365,hx365_0⟩:=Kd.at_int (Kd.R_reads' HO_26.out).2.2 x28_2 p365 q365;cases e365;replace p365:=eq_true p365;replace q365:=eq_true q365;obtain⟨Ao23,co23,eo23⟩:=Kd.R_slice HO_8.out;subst eo23;(go_wp2_with (first|((with_reducible refine gate_callee (f:=42) rfl ?_);refine goesL_ (some 34) rfl rfl Tryz.func42 (by kernel_rfl) rfl #[.slice Ao23 t359.length co23, .int .i64 (rd t362 x28_2)] rfl gd_ ?_;(with_reducible refine(slices_Contains_int_int.calls k2 _ _ t359 (rd t362 x28_2) false _ ?side1 ?side2 A20.out).mono ?_);(case side1=>exact(a7_ HO_8.out));(case side2=>exact(Kd.R_reads' HO_8.out).2.1);rintro e w' ⟨rfl,⟨nd,rfl⟩⟩;refine⟨_,rfl,?_⟩)));(go_roundg k2)
          case measure=>have:=HJ3.out;have:=HK2.out;omega
          case rel=>exact⟨(wrap64 (x28_2+1)),(by first | rfl|(simp;done)|(simp[*];done)),H',⟨by have:=HJ3.out;have:=HK2.out;omega⟩,⟨(a0_ HO_8.out)⟩,⟨(a0_ HO_26.out)⟩,⟨a1_⟩⟩
        (focus rw[if_neg c19]at H;exact absurd H (by simp))
       (focus rw[if_neg c18]at H;exact absurd H (by simp))
      (focus rw[if_neg c17]at H;(have c17b0:decide (x28_2<(t362.length:Int))=false:=decide_eq_false c17);clear c17;simp only[Option.some.injEq,Prod.mk.injEq]at H;obtain⟨rfl,rfl⟩:=H;go_wp2;go_ret2;exact⟨a10_,a1_⟩)

/-! ### spec_caHas: function 43 -/
def spec_caHas.f (k:Nat) (l0:List (S47)) (a1:Int):Option (Bool):=(spec_caGood.f k l0).bind fun t367=>(if t367=true then((spec_l1In.f a1 0 (wrap64 ((l0.length:Int)-1))).bind fun t368=>(some t368)) else(some false))
theorem spec_caHas.mono:∀a0 a1 k,LeO (spec_caHas.f k a0 a1) (spec_caHas.f (k+1) a0 a1):=by
 intro a0 a1 k;unfold spec_caHas.f
 repeat' first
  |(with_reducible exact spec_caGood.mono _ _)
  |(with_reducible exact LeO.refl _)
  |(with_reducible exact LeO.none _)
  |(with_reducible refine LeO.ite ?_ ?_)
  |(with_reducible refine LeO.bind ?_ (fun _=>?_))
  |exact spec_caGood.mono _ _
  |exact LeO.none _
   | refine LeO.ite ?_ ?_
   | refine LeO.bind ?_ (fun _=>?_)
set_option maxHeartbeats 8000000 in
set_option maxRecDepth 100000 in
theorem spec_caHas.calls (k:Nat) (A0:Option Addr) (c0:Nat) (l0:List (S47)) (a1:Int) (r:Bool) (w:World) (hr0:Kd.C k47 w A0 l0.length l0) (hc0:l0.length≤c0) (h:spec_caHas.f k l0 a1=some r) :
 Calls Tryz.prog 43 #[.slice A0 l0.length c0, .int .i64 a1] w fun e w'=>e = .returned (.bool r)∧Below w.heap.size w w':=by
 (have HR0:=am_ hr0);(have HC0:=am_ hc0);clear hr0 hc0;(have HB:=am_ (Below.refl w.heap.size w));(have H:((spec_caGood.f k l0).bind fun t367=>(if t367=true then((spec_l1In.f a1 0 (wrap64 ((l0.length:Int)-1))).bind fun t368=>(some t368)) else(some false)))=some r:=h);clear h;obtain⟨t367,A3,H⟩:=bo_ H;(try dsimp only at H);by_cases c4:t367=true;(focus subst c4;(replace H:((spec_l1In.f a1 0 (wrap64 ((l0.length:Int)-1))).bind fun t368=>(some t368))=some r:=by rw[if_pos rfl]at H;exact H);obtain⟨t368,A5,H⟩:=bo_ H;(try dsimp only at H);obtain rfl:=Option.some.inj H;(go_enter Tryz.func43,Tryz.ntmps43);(go_wp2_with (first|((with_reducible refine gate_callee (f:=32) rfl ?_);refine goesL_ (some 6) rfl rfl Tryz.func32 (by kernel_rfl) rfl #[.slice A0 l0.length c0] rfl gd_ ?_;(with_reducible refine(spec_caGood.calls k _ _ l0 true _ ?side1 ?side2 A3.out).mono ?_);(case side1=>exact(a15_ HR0.out));(case side2=>exact HC0.out);rintro e w6 ⟨rfl,hb⟩;refine⟨_,rfl,?_⟩;replace HB:=am_ (below_step (a1_) hb);(try clear hb);(try clear hb2);(try clear hk);(try clear hi))|(go_at_call 60;(with_reducible refine(spec_l1In.calls a1 0 (wrap64 ((l0.length:Int)-1)) t368 _ A5.out).mono ?_);rintro e w' ⟨rfl,⟨nd,rfl⟩⟩)));go_ret;exact⟨a10_,a1_⟩);(focus replace c4:=Bool.eq_false_iff.mpr c4;subst c4;(replace H:(some false)=some r:=by rw[if_neg (show ¬(false=true) by decide)]at H;exact H);obtain rfl:=Option.some.inj H;(go_enter Tryz.func43,Tryz.ntmps43);(go_wp2_with (first|((with_reducible refine gate_callee (f:=32) rfl ?_);refine goesL_ (some 6) rfl rfl Tryz.func32 (by kernel_rfl) rfl #[.slice A0 l0.length c0] rfl gd_ ?_;(with_reducible refine(spec_caGood.calls k _ _ l0 false _ ?side1 ?side2 A3.out).mono ?_);(case side1=>exact(a15_ HR0.out));(case side2=>exact HC0.out);rintro e w7 ⟨rfl,hb⟩;refine⟨_,rfl,?_⟩;replace HB:=am_ (below_step (a1_) hb);(try clear hb);(try clear hb2);(try clear hk);(try clear hi))));go_ret;exact⟨a10_,a1_⟩)

end Go.Proofs.YtkkmeccdjpibmaaGreatDoor.QFnCatalogue
