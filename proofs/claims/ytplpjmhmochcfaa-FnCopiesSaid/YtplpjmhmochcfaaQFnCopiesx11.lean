/- Written by a program of this session (the kit's printer, with leaf contracts proved by hand put in): what each Go function computes, and that the call computes it. No condition but those that each theorem names. -/
import Derived.Test.YtplpjmhmochcfaaQFnCopiesx0
import Derived.Test.YtplpjmhmochcfaaQFnCopiesx2
import Derived.Test.YtplpjmhmochcfaaQFnCopiesx3
import Derived.Test.YtplpjmhmochcfaaQFnCopiesx6
import Derived.Test.YtplpjmhmochcfaaQFnCopiesx9
import Derived.Test.YtplpjmhmochcfaaQFnCopiesx10
namespace Go.Proofs.Ytplpjmhmochcfaa.QFnCopies
open Go.RowKit Go.Proofs.YtplpjmhmochcfaaW.PrintWords Go.Proofs.YtplpjmhmochcfaaW.PrintLast Go.Proofs.YtplpjmhmochcfaaW.PrintMore
attribute [local go_sem] max2_int min2_int max_two min_two max_three min_three max_four min_four   -- for this text's walks alone
set_option linter.unusedVariables false
set_option linter.unusedSimpArgs false

/-! ### spec_DrawSingleChanges: function 16 -/
def spec_DrawSingleChanges.j0:Nat→List (S42)→Bool→List Int→Int→Int→Option ((List (S42))×Int)
 | 0,_,_,_,_,_=>none
 | k+1,x5,x23,x460000,x460001,x460002=>if x23=true then((spec_l1Cur_checksum.f x460000 x460001 x460002).bind fun bt469=>(some (x5,bt469.1))) else((some (([]:List (S42)):List (S42))).bind fun y472=>(if y472.length+x5.length<5864062014805 then((some (y472 ++ x5:List (S42))).bind fun y475=>((spec_l1Cur_pick.f x460000 x460001 x460002 (y475.length:Int)).bind fun bt478=>(if 0≤bt478.1 then(if bt478.1<(y475.length:Int) then((spec_l1Cur_pick.f x460000 bt478.2.1 bt478.2.2 9).bind fun bt482=>((some (y475.set (bt478.1:Int).toNat (⟨(rd_T42 y475 bt478.1).f0,(rd_T42 y475 bt478.1).f1,wrap64 (((rd_T42 y475 bt478.1).f2)+(wrap64 (bt482.1-4)))⟩:S42):List (S42))).bind fun y485=>((spec_shGood.f k y485).bind fun t486=>(if t486=true then((spec_ckSum.f k y485).bind fun t487=>(some (x5,t487))) else((spec_ckSum.f k x5).bind fun t488=>(some (x5,t488))))))) else(none)) else(none)))) else(none)))
def spec_DrawSingleChanges.f (k:Nat) (l0:List Int):Option ((List (S42))×Int):=(spec_l1Cur_anySheet.f k l0 0 0).bind fun bt460=>((spec_shGood.f k bt460.1).bind fun t465=>(if t465=true then(if(bt460.1.length:Int)=0 then(spec_DrawSingleChanges.j0 k bt460.1 true l0 bt460.2.1 bt460.2.2) else((spec_l1Cur_one.f l0 bt460.2.1 bt460.2.2 6).bind fun bt466=>(spec_DrawSingleChanges.j0 k bt460.1 bt466.1 l0 bt466.2.1 bt466.2.2))) else(spec_DrawSingleChanges.j0 k bt460.1 true l0 bt460.2.1 bt460.2.2)))
theorem spec_DrawSingleChanges.mono_l:∀k,(∀y0 y1 y2 y3 y4,LeO (spec_DrawSingleChanges.j0 k y0 y1 y2 y3 y4) (spec_DrawSingleChanges.j0 (k+1) y0 y1 y2 y3 y4))
 | 0=>fun _ _ _ _ _ r h=>by simp[spec_DrawSingleChanges.j0]at h
 | k+1=>by
  have ih0:=spec_DrawSingleChanges.mono_l k
  intros
  unfold spec_DrawSingleChanges.j0
  rotate_left
  all_goals repeat' first|(with_reducible first|exact ih0 _ _ _ _ _|exact spec_ckSum.mono _ _|exact spec_l1Cur_anySheet.mono _ _ _ _|exact spec_shGood.mono _ _|exact LeO.refl _|exact LeO.none _|refine LeO.ite ?_ ?_|refine LeO.bind ?_ (fun _=>?_))|exact ih0 _ _ _ _ _|exact spec_ckSum.mono _ _|exact spec_l1Cur_anySheet.mono _ _ _ _|exact spec_shGood.mono _ _|exact LeO.none _|refine LeO.ite ?_ ?_|refine LeO.bind ?_ (fun _=>?_)
theorem spec_DrawSingleChanges.mono:∀a0 k,LeO (spec_DrawSingleChanges.f k a0) (spec_DrawSingleChanges.f (k+1) a0):=by
 intro a0 k
 have ih0:=spec_DrawSingleChanges.mono_l k
 unfold spec_DrawSingleChanges.f
 repeat' first
  |(with_reducible exact ih0 _ _ _ _ _)
  |(with_reducible exact spec_ckSum.mono _ _)
  |(with_reducible exact spec_l1Cur_anySheet.mono _ _ _ _)
  |(with_reducible exact spec_shGood.mono _ _)
  |(with_reducible exact LeO.refl _)
  |(with_reducible exact LeO.none _)
  |(with_reducible refine LeO.ite ?_ ?_)
  |(with_reducible refine LeO.bind ?_ (fun _=>?_))
  |exact ih0 _ _ _ _ _
  |exact spec_ckSum.mono _ _
  |exact spec_l1Cur_anySheet.mono _ _ _ _
  |exact spec_shGood.mono _ _
  |exact LeO.none _
   | refine LeO.ite ?_ ?_
   | refine LeO.bind ?_ (fun _=>?_)
def spec_DrawSingleChanges.T6:Bool×List (List Nat×List Nat):=(true, [([], []),([], []),([], []),([2], [2]),([1,3], [1,3]),([0,4], [0,4]),([5], [5]),([6], [6]),([], []),([8,4], [8]),([9], [9]),([7,10], [7,10]),([0,4,0,1,2,3,4,5,6,7,8,9,10,11], [0,4]),([12,0,1,2,3,4,5,6,7,8,9,10,11], [12]),([13,11,9,0,1,2,3,4,5,6,7,8,9,10,11], [11,13])])
def spec_DrawSingleChanges.B6:List Nat:=[0,0,0,4,14,31,63,127,0,286,798,2047,4095,8191,16383]
theorem spec_DrawSingleChanges.tab6:rtab .any (opsOf Try.f16 6)=spec_DrawSingleChanges.T6:=by kernel_rfl
theorem spec_DrawSingleChanges.bits6:waitsOk spec_DrawSingleChanges.T6.2 spec_DrawSingleChanges.B6=true:=by kernel_rfl
set_option maxHeartbeats 8000000 in
set_option maxRecDepth 100000 in
theorem spec_DrawSingleChanges.calls (k:Nat) (A0:Option Addr) (c0:Nat) (l0:List Int) (r1:List (S42)) (r2:Int) (w:World) (hr0:Kd.C (Kd.int .u8) w A0 l0.length l0) (hc0:l0.length≤c0) (h:spec_DrawSingleChanges.f k l0=some (r1,r2)) :
 Calls Try.prog 16 #[.slice A0 l0.length c0] w fun e w'=>∃v0_:Value,e = .returned (.tuple #[v0_, .int .i64 r2])∧Kd.R k42 42 w' w.heap.size (fun _=>True) v0_ r1∧Below w.heap.size w w':=by
 have hu76:=Try.underlying76
 have HR0:=am_ hr0
 have HC0:=am_ hc0
 clear hr0 hc0
 have HB:=am_ (Below.refl w.heap.size w)
 have H:((spec_l1Cur_anySheet.f k l0 0 0).bind fun bt460=>((spec_shGood.f k bt460.1).bind fun t465=>(if t465=true then(if(bt460.1.length:Int)=0 then(spec_DrawSingleChanges.j0 k bt460.1 true l0 bt460.2.1 bt460.2.2) else((spec_l1Cur_one.f l0 bt460.2.1 bt460.2.2 6).bind fun bt466=>(spec_DrawSingleChanges.j0 k bt460.1 bt466.1 l0 bt466.2.1 bt466.2.2))) else(spec_DrawSingleChanges.j0 k bt460.1 true l0 bt460.2.1 bt460.2.2))))=some (r1,r2):=h
 clear h
 obtain⟨⟨t460,t463,t464⟩,A2,H⟩:=bo_ H
 try dsimp only at H
 have HC3:=am_ H
 clear H
 go_enter Try.func16,Try.ntmps16
 go_upto_region 3 with (first|((with_reducible refine gate_dst (N:=9) rfl ?_);(try(refine gate_guard (by rfl) ?_;dsimp only));refine box_event ?hg (N:=9) ?hd (cs:= #[.slice A0 l0.length c0, .int .i64 0, .int .u64 0]) (t:=76) ?hr ?_;(case hd=>rfl);(case hg=>rfl);(case hr=>exact hr_);intro g459 hg w4 hbox hb;have HI459:=am_ ((⟨_,_,hbox,by rw[hg];exact(below_size (a0_)),HR0.out⟩:IsS76 w w4 g459 l0 0 0));replace HB:=am_ (below_step (a0_) hb);clear hb hbox hg)|((with_reducible refine gate_callee (f:=54) rfl ?_);refine goesL_ (some 11) rfl rfl Try.func54 (by kernel_rfl) rfl #[.pointer (some ⟨g459,0,none⟩)] rfl gd_ ?_;(with_reducible refine(spec_l1Cur_anySheet.calls k g459 l0 0 0 t460 t463 t464 w _ ?side1 ?side2 A2.out).mono ?_);(case side1=>exact(a3_ HI459.out));(case side2=>exact(a4_ HI459.out));rintro e w5 ⟨v461,rfl,ho0,hi,hb,hk⟩;refine⟨_,rfl,?_⟩;have HO462:=am_ (Kd.R_lower ho0 (below_size ((a4_ HI459.out))));replace HB:=am_ (hb);replace HI459:=am_ (hi);(try clear hb);(try clear hb2);(try clear hk);(try clear hi);(try clear ho0)))
 (try simp only[Act.put,List.setIfInBounds_toArray,List.set_cons_zero,List.set_cons_succ])
 go_cut [23] (fun v23 wc=>∃(kq:Nat) (x23_2:Bool) (x460001_2:Int) (x460002_2:Int),v23 = .bool x23_2∧Aside0 (spec_DrawSingleChanges.j0 kq t460 x23_2 l0 x460001_2 x460002_2=some (r1,r2))∧Aside0 (kq≤k)∧Aside0 (Kd.R k42 42 wc w.heap.size (fun _=>True) v461 t460)∧Aside0 (IsS76 w wc g459 l0 x460001_2 x460002_2)∧Aside0 (Below w.heap.size w wc))
 case first=>
  have H:=HC3.out
  clear HC3
  obtain⟨t465,A6,H⟩:=bo_ H
  try dsimp only at H
  by_cases c7:t465=true
  ·subst c7
   replace H:(if(t460.length:Int)=0 then(spec_DrawSingleChanges.j0 k t460 true l0 t463 t464) else((spec_l1Cur_one.f l0 t463 t464 6).bind fun bt466=>(spec_DrawSingleChanges.j0 k t460 bt466.1 l0 bt466.2.1 bt466.2.2)))=some (r1,r2):=by rw[if_pos rfl]at H;exact H
   by_cases c8:(t460.length:Int)=0
   ·rw[if_pos c8]at H
    have c8b0:((t460.length:Int) == 0)=true:=beq_iff_eq.mpr c8
    have c8b1:((t460.length:Int) != 0)=false:=bne_eq_false_iff_eq.mpr c8
    clear c8
    (first|rw[c8b0]|(simp only[i64_w,i32_w];rw[c8b0]) | skip)
    have H':=am_ H
    clear H
    obtain⟨Ao9,co9,eo9⟩:=Kd.R_slice HO462.out
    subst eo9
    go_wp2_with (first|((with_reducible refine gate_callee (f:=62) rfl ?_);refine goesL_ (some 13) rfl rfl Try.func62 (by kernel_rfl) rfl #[.slice Ao9 t460.length co9] rfl gd_ ?_;(with_reducible refine(spec_shGood.calls k _ _ t460 true _ ?side1 ?side2 A6.out).mono ?_);(case side1=>exact(a11_ HO462.out));(case side2=>exact(Kd.R_reads' HO462.out).2.1);rintro e w10 ⟨rfl,hb⟩;refine⟨_,rfl,?_⟩;replace HO462:=am_ (Kd.R_below ((a1_ HO462.out)) hb);replace HB:=am_ (below_step ((a4_ HI459.out)) hb);replace HI459:=am_ (IsS76.below ((a3_ HI459.out)) hb);(try clear hb);(try clear hb2);(try clear hk);(try clear hi)))
    go_meet
    case rel=>exact⟨_,(true),(t463),(t464),(by first | rfl|(simp;done)|(simp[*];done)),H',⟨by first | omega|exact Nat.le_refl _⟩,⟨(a1_ HO462.out)⟩,⟨(a3_ HI459.out)⟩,⟨(a4_ HI459.out)⟩⟩
   ·rw[if_neg c8]at H
    have c8b0:((t460.length:Int) == 0)=false:=beq_eq_false_iff_ne.mpr c8
    have c8b1:((t460.length:Int) != 0)=true:=bne_iff_ne.mpr c8
    have c8b2:¬(t460 = []):=fun h_=>c8 (by rw[h_];rfl)
    (first|rw[c8b0]|(simp only[i64_w,i32_w];rw[c8b0]) | skip)
    obtain⟨⟨t466,t467,t468⟩,A11,H⟩:=bo_ H
    try dsimp only at H
    have H':=am_ H
    clear H
    obtain⟨Ao12,co12,eo12⟩:=Kd.R_slice HO462.out
    subst eo12
    go_wp2_with (first|((with_reducible refine gate_callee (f:=62) rfl ?_);refine goesL_ (some 13) rfl rfl Try.func62 (by kernel_rfl) rfl #[.slice Ao12 t460.length co12] rfl gd_ ?_;(with_reducible refine(spec_shGood.calls k _ _ t460 true _ ?side1 ?side2 A6.out).mono ?_);(case side1=>exact(a11_ HO462.out));(case side2=>exact(Kd.R_reads' HO462.out).2.1);rintro e w13 ⟨rfl,hb⟩;refine⟨_,rfl,?_⟩;replace HO462:=am_ (Kd.R_below ((a1_ HO462.out)) hb);replace HB:=am_ (below_step ((a4_ HI459.out)) hb);replace HI459:=am_ (IsS76.below ((a3_ HI459.out)) hb);(try clear hb);(try clear hb2);(try clear hk);(try clear hi))|(go_at_call 56;(with_reducible refine(spec_l1Cur_one.calls g459 l0 t463 t464 6 t466 t467 t468 w _ ?side1 ?side2 A11.out).mono ?_);(case side1=>exact(a3_ HI459.out));(case side2=>exact(a4_ HI459.out));rintro e w14 ⟨rfl,hi,hb,hk⟩;replace HO462:=am_ (Kd.R_mono (Kd.R_keep (IsS76.apart (show IsS76 w _ g459 l0 t463 t464 from(a3_ HI459.out)) ((a1_ HO462.out)) (by decide)) hk (fun _ h=>h.2)) (fun _ h=>h.1));replace HB:=am_ (hb);replace HI459:=am_ (hi);(try clear hb);(try clear hb2);(try clear hk);(try clear hi)))
    go_meet
    case rel=>exact⟨_,(t466),(t467),(t468),(by first | rfl|(simp;done)|(simp[*];done)),H',⟨by first | omega|exact Nat.le_refl _⟩,⟨(a1_ HO462.out)⟩,⟨(a3_ HI459.out)⟩,⟨(a4_ HI459.out)⟩⟩
  ·replace c7:=Bool.eq_false_iff.mpr c7
   subst c7
   replace H:(spec_DrawSingleChanges.j0 k t460 true l0 t463 t464)=some (r1,r2):=by rw[if_neg (show ¬(false=true) by decide)]at H;exact H
   have H':=am_ H
   clear H
   obtain⟨Ao15,co15,eo15⟩:=Kd.R_slice HO462.out
   subst eo15
   go_wp2_with (first|((with_reducible refine gate_callee (f:=62) rfl ?_);refine goesL_ (some 13) rfl rfl Try.func62 (by kernel_rfl) rfl #[.slice Ao15 t460.length co15] rfl gd_ ?_;(with_reducible refine(spec_shGood.calls k _ _ t460 false _ ?side1 ?side2 A6.out).mono ?_);(case side1=>exact(a11_ HO462.out));(case side2=>exact(Kd.R_reads' HO462.out).2.1);rintro e w16 ⟨rfl,hb⟩;refine⟨_,rfl,?_⟩;replace HO462:=am_ (Kd.R_below ((a1_ HO462.out)) hb);replace HB:=am_ (below_step ((a4_ HI459.out)) hb);replace HI459:=am_ (IsS76.below ((a3_ HI459.out)) hb);(try clear hb);(try clear hb2);(try clear hk);(try clear hi)))
   go_meet
   case rel=>exact⟨_,(true),(t463),(t464),(by first | rfl|(simp;done)|(simp[*];done)),H',⟨by first | omega|exact Nat.le_refl _⟩,⟨(a1_ HO462.out)⟩,⟨(a3_ HI459.out)⟩,⟨(a4_ HI459.out)⟩⟩
 case rest=>
  clear HC3
  try clear c1
  try clear p2
  try clear c5
  try clear c6
  try clear c7
  try clear c8
  try clear c8b0
  try clear c8b1
  try clear c8b2
  try clear c16
  obtain⟨kq,x23_2,x460001_2,x460002_2,rfl,HA,HJ2,HO_5,HI459,HB⟩:=hcut
  cases kq with
  | zero=>exact absurd HA.out (by simp[spec_DrawSingleChanges.j0])
  | succ kj2=>
   have H:=HA.out
   clear HA
   simp only[spec_DrawSingleChanges.j0]at H
   by_cases c17:x23_2=true
   ·subst c17
    replace H:((spec_l1Cur_checksum.f l0 x460001_2 x460002_2).bind fun bt469=>(some (t460,bt469.1)))=some (r1,r2):=by rw[if_pos rfl]at H;exact H
    obtain⟨⟨t469,t470,t471⟩,A18,H⟩:=bo_ H
    try dsimp only at H
    simp only[Option.some.injEq,Prod.mk.injEq]at H
    obtain⟨rfl,rfl⟩:=H
    go_wp2_with (first|((with_reducible refine gate_callee (f:=64) rfl ?_);refine goesL_ (some 26) rfl rfl Try.func64 (by kernel_rfl) rfl #[.pointer (some ⟨g459,0,none⟩)] rfl gd_ ?_;(with_reducible refine(spec_l1Cur_checksum.calls g459 l0 x460001_2 x460002_2 t469 t470 t471 w _ ?side1 ?side2 A18.out).mono ?_);(case side1=>exact(a3_ HI459.out));(case side2=>exact(a4_ HI459.out));rintro e w19 ⟨rfl,hi,hb,hk⟩;refine⟨_,rfl,?_⟩;replace HO_5:=am_ (Kd.R_mono (Kd.R_keep (IsS76.apart (show IsS76 w _ g459 l0 x460001_2 x460002_2 from(a3_ HI459.out)) ((a1_ HO_5.out)) (by decide)) hk (fun _ h=>h.2)) (fun _ h=>h.1));replace HB:=am_ (hb);replace HI459:=am_ (hi);(try clear hb);(try clear hb2);(try clear hk);(try clear hi)))
    go_ret2
    exact⟨_,a9_,(a1_ HO_5.out),(a4_ HI459.out)⟩
   ·replace c17:=Bool.eq_false_iff.mpr c17
    subst c17
    replace H:((some (([]:List (S42)):List (S42))).bind fun y472=>(if y472.length+t460.length<5864062014805 then((some (y472 ++ t460:List (S42))).bind fun y475=>((spec_l1Cur_pick.f l0 x460001_2 x460002_2 (y475.length:Int)).bind fun bt478=>(if 0≤bt478.1 then(if bt478.1<(y475.length:Int) then((spec_l1Cur_pick.f l0 bt478.2.1 bt478.2.2 9).bind fun bt482=>((some (y475.set (bt478.1:Int).toNat (⟨(rd_T42 y475 bt478.1).f0,(rd_T42 y475 bt478.1).f1,wrap64 (((rd_T42 y475 bt478.1).f2)+(wrap64 (bt482.1-4)))⟩:S42):List (S42))).bind fun y485=>((spec_shGood.f kj2 y485).bind fun t486=>(if t486=true then((spec_ckSum.f kj2 y485).bind fun t487=>(some (t460,t487))) else((spec_ckSum.f kj2 t460).bind fun t488=>(some (t460,t488))))))) else(none)) else(none)))) else(none)))=some (r1,r2):=by rw[if_neg (show ¬(false=true) by decide)]at H;exact H
    obtain⟨y472,hy472⟩:∃y_:List (S42),y_=(([]:List (S42))):=⟨_,rfl⟩
    replace H:(if y472.length+t460.length<5864062014805 then((some (y472 ++ t460:List (S42))).bind fun y475=>((spec_l1Cur_pick.f l0 x460001_2 x460002_2 (y475.length:Int)).bind fun bt478=>(if 0≤bt478.1 then(if bt478.1<(y475.length:Int) then((spec_l1Cur_pick.f l0 bt478.2.1 bt478.2.2 9).bind fun bt482=>((some (y475.set (bt478.1:Int).toNat (⟨(rd_T42 y475 bt478.1).f0,(rd_T42 y475 bt478.1).f1,wrap64 (((rd_T42 y475 bt478.1).f2)+(wrap64 (bt482.1-4)))⟩:S42):List (S42))).bind fun y485=>((spec_shGood.f kj2 y485).bind fun t486=>(if t486=true then((spec_ckSum.f kj2 y485).bind fun t487=>(some (t460,t487))) else((spec_ckSum.f kj2 t460).bind fun t488=>(some (t460,t488))))))) else(none)) else(none)))) else(none))=some (r1,r2):=by first|(rw[hy472];with_reducible exact H)|(have H2_:=(Option.bind_some _ _).symm.trans H;rw[hy472];with_reducible exact H2_)|(have H2_:=(Option.bind_some _ _).symm.trans H;with_reducible exact H2_) | with_reducible exact H|(rw[hy472];exact H)|exact H
    have Ny472:=am_ hy472
    clear hy472
    by_cases c20:y472.length+t460.length<5864062014805
    ·rw[if_pos c20]at H
     have LMc20:=am_ c20
     clear c20
     obtain⟨y475,hy475⟩:∃y_:List (S42),y_=(y472 ++ t460):=⟨_,rfl⟩
     replace H:((spec_l1Cur_pick.f l0 x460001_2 x460002_2 (y475.length:Int)).bind fun bt478=>(if 0≤bt478.1 then(if bt478.1<(y475.length:Int) then((spec_l1Cur_pick.f l0 bt478.2.1 bt478.2.2 9).bind fun bt482=>((some (y475.set (bt478.1:Int).toNat (⟨(rd_T42 y475 bt478.1).f0,(rd_T42 y475 bt478.1).f1,wrap64 (((rd_T42 y475 bt478.1).f2)+(wrap64 (bt482.1-4)))⟩:S42):List (S42))).bind fun y485=>((spec_shGood.f kj2 y485).bind fun t486=>(if t486=true then((spec_ckSum.f kj2 y485).bind fun t487=>(some (t460,t487))) else((spec_ckSum.f kj2 t460).bind fun t488=>(some (t460,t488))))))) else(none)) else(none)))=some (r1,r2):=by first|(rw[hy475];with_reducible exact H)|(have H2_:=(Option.bind_some _ _).symm.trans H;rw[hy475];with_reducible exact H2_)|(have H2_:=(Option.bind_some _ _).symm.trans H;with_reducible exact H2_) | with_reducible exact H|(rw[hy475];exact H)|exact H
     have Ny475:=am_ hy475
     clear hy475
     obtain⟨⟨t478,t479,t480⟩,A21,H⟩:=bo_ H
     try dsimp only at H
     by_cases c22:0≤t478
     ·rw[if_pos c22]at H
      have c22b0:decide (0≤t478)=true:=decide_eq_true c22
      clear c22
      by_cases c23:t478<(y475.length:Int)
      ·rw[if_pos c23]at H
       have c23b0:decide (t478<(y475.length:Int))=true:=decide_eq_true c23
       clear c23
       obtain⟨⟨t482,t483,t484⟩,A24,H⟩:=bo_ H
       try dsimp only at H
       obtain⟨y485,hy485⟩:∃y_:List (S42),y_=(y475.set (t478:Int).toNat (⟨(rd_T42 y475 t478).f0,(rd_T42 y475 t478).f1,wrap64 (((rd_T42 y475 t478).f2)+(wrap64 (t482-4)))⟩:S42)):=⟨_,rfl⟩
       replace H:((spec_shGood.f kj2 y485).bind fun t486=>(if t486=true then((spec_ckSum.f kj2 y485).bind fun t487=>(some (t460,t487))) else((spec_ckSum.f kj2 t460).bind fun t488=>(some (t460,t488)))))=some (r1,r2):=by first|(rw[hy485];with_reducible exact H)|(have H2_:=(Option.bind_some _ _).symm.trans H;rw[hy485];with_reducible exact H2_)|(have H2_:=(Option.bind_some _ _).symm.trans H;with_reducible exact H2_) | with_reducible exact H|(rw[hy485];exact H)|exact H
       have Ny485:=am_ hy485
       clear hy485
       obtain⟨t486,A26,H⟩:=bo_ H
       try dsimp only at H
       by_cases c27:t486=true
       ·subst c27
        replace H:((spec_ckSum.f kj2 y485).bind fun t487=>(some (t460,t487)))=some (r1,r2):=by rw[if_pos rfl]at H;exact H
        obtain⟨t487,A28,H⟩:=bo_ H
        try dsimp only at H
        simp only[Option.some.injEq,Prod.mk.injEq]at H
        obtain⟨rfl,rfl⟩:=H
        try go_wp2_with (first|((with_reducible refine gate_dst (N:=27) rfl ?_);(try(refine gate_guard (by rfl) ?_;dsimp only));refine Kd.R_lit k42 _ 42 ?hg (N:=27) ?hd (xs:=([]:List (S42))) (inner:=[]) (ok:=fun _=>True) (okp:=fun _=>True) ?hr ?hp (fun _ hk=>hk) trivial (Below.refl _ _) (Nat.le_refl _) (by simp) ?_;(case hd=>rfl);(case hg=>rfl);(case hr=>exact hr_);(case hp=>exact(Reps.none _ _));intro v473 w29 ho30 hb hg_ hnew_;clear hg_ hnew_;(first|rw[← Ny472.out]at ho30|(simp only[Int.reduceToNat]at ho30;rw[← Ny472.out]at ho30));have HO474:=am_ (Kd.R_lower (Kd.R_new' ho30 (Kd.R_lt ((a1_ HO_5.out)))) (below_size ((a4_ HI459.out))));replace HO_5:=am_ (Kd.R_elder' ((a1_ HO_5.out)) (Kd.R_base ho30) hb);replace HB:=am_ (below_step ((a4_ HI459.out)) hb);replace HI459:=am_ (IsS76.below ((a3_ HI459.out)) hb);clear hb ho30;obtain⟨Ao32,co32,eo32⟩:=Kd.R_slice HO_5.out;subst eo32)|((with_reducible refine gate_builtin (b:= .append) (xs:= #[.tmp 27, .tmp 28]) rfl ?_);(try(refine gate_guard (by rfl) ?_;dsimp only));at_builtin;refine Kd.R_append_rows k42 (w0:=w) w.heap.size rfl (.tmp 27) (.tmp 28) 32 42 (.agg #[(.int .i64 0),(.int .i64 0),(.int .i64 0)]) 24 rfl Try.underlying32 info42 rfl (by decide) (by omega) v473 y472 t460 _ _ _ (fun k_=>some k_≠(.slice Ao32 t460.length co32:Value).ownBlock) (fun _=>False) rfl rfl ?aO ?aR (fun _ _ h=>h) (fun _ h=>h.elim) ?aF ?aB ?aS ?aL ?_;(case aR=>exact(a11_ HO_5.out));(case aB=>exact((a4_ HI459.out)));(case aF=>exact(fun k_ hk=>Kd.fresh' (Kd.R_lt ((a1_ HO_5.out))) k_ hk));(case aO=>exact((a35_ HO474.out)));(case aS=>exact(below_size ((a4_ HI459.out))));(case aL=>have:=LMc20.out;omega);intro v476 w31 ho hb hg hat;rw[← Ny475.out]at ho;have n0_:=am_ (Kd.R_after (ok:=(fun _=>True)) ((a1_ HO_5.out)) hg hat);have n1_:=am_ (IsS76.grown ((a3_ HI459.out)) hg (IsS76.own_ne HI459.out HO474.out (by decide)));have n2_:=am_ (hb);have n3_:=am_ (ho);clear HO_5 HI459 HB HO474;have HO_5:=n0_;have HI459:=n1_;have HB:=n2_;have HO477:=n3_;clear n0_ n1_ n2_ n3_ ho hb hg hat))
        replace HO_5:=am_ (Kd.R_drew HO_5.out)
        replace HO477:=am_ (Kd.R_drew HO477.out)
        replace HI459:=am_ (IsS76.drew HI459.out)
        replace HB:=am_ (below_drew1 HB.out)
        obtain⟨Ao34,co34,eo34⟩:=Kd.R_slice HO477.out
        (first|subst eo34|(injection eo34 with f1_ f2_ f3_;have f4_:=f1_.symm;have f5_:=f3_.symm;clear f1_ f2_ f3_;subst f4_;subst f5_))
        have p481:0≤(t478:Int):=of_decide_eq_true (a8_)
        have q481:t478<(y475.length:Int):=of_decide_eq_true (a8_)
        obtain⟨ad481,e481,hx481_0,hx481_1,hx481_2⟩:=at_T42 (Kd.R_reads' HO477.out).2.2 t478 p481 q481
        cases e481
        replace p481:=eq_true p481
        replace q481:=eq_true q481
        refine start_ (n:=15) (S:=fun w'=>w'.cell? (ad481.add ((t478).toNat*3))=some (.int .i64 ((rd_T42 y475 t478).f0))∧w'.cell? ⟨(ad481.add ((t478).toNat*3)).block,(ad481.add ((t478).toNat*3)).off+1,none⟩=some (.int .i64 ((rd_T42 y475 t478).f1))∧w'.cell? ⟨(ad481.add ((t478).toNat*3)).block,(ad481.add ((t478).toNat*3)).off+2,none⟩=some (.int .i64 ((rd_T42 y475 t478).f2))) (ds:=[14]) #[false,false,false,false,false,false,false,false,false,false,false,false,false,false,false] (by kernel_rfl) rfl rfl ⟨hx481_0,hx481_1,hx481_2⟩ (fun hHeld=>?_);refine with_tabW spec_DrawSingleChanges.tab6 spec_DrawSingleChanges.bits6 (fun HT_ HW_=>?_)
        generalize w31.drew=w33 at HO_5 HO477 HI459 HB hx481_0 hx481_1 hx481_2 hHeld ⊢
        refine pure_ (i:=0) (N:=some 30) (v:=?_) (a':=?_) #[true,false,false,false,false,false,false,false,false,false,false,false,false,false,false] rfl rfl (any_of HT_.out (by kernel_rfl)) (fun _ _ _ h=>h) (Or.inl ⟨by rfl,?_⟩) ?_ ?_
        rotate_left
        ·intro w'
         go_simp
         with_reducible rfl
        rotate_left
        ·simp only[Act.put,pu_]
         rfl
        refine pure_ (i:=1) (N:=some 31) (v:=?_) (a':=?_) #[true,true,false,false,false,false,false,false,false,false,false,false,false,false,false] rfl rfl (any_of HT_.out (by kernel_rfl)) (fun _ _ _ h=>h) (Or.inl ⟨by rfl,?_⟩) ?_ ?_
        rotate_left
        ·intro w'
         go_simp
         with_reducible rfl
        rotate_left
        ·simp only[Act.put,pu_]
         rfl
        refine pure_ (i:=2) (N:=some 32) (v:=?_) (a':=?_) #[true,true,true,false,false,false,false,false,false,false,false,false,false,false,false] rfl rfl (any_of HT_.out (by kernel_rfl)) (fun _ _ _ h=>h) (Or.inl ⟨by rfl,?_⟩) ?_ ?_
        rotate_left
        ·intro w'
         go_simp
         with_reducible rfl
        rotate_left
        ·simp only[Act.put,pu_]
         rfl
        refine pure_ (i:=3) (N:=some 33) (v:=?_) (a':=?_) #[true,true,true,true,false,false,false,false,false,false,false,false,false,false,false] rfl rfl (any_of HT_.out (by kernel_rfl)) (fun _ _ _ h=>h) (Or.inl ⟨by rfl,?_⟩) ?_ ?_
        rotate_left
        ·intro w'
         go_simp
         with_reducible rfl
        rotate_left
        ·simp only[Act.put,pu_]
         rfl
        refine pure_ (i:=8) (N:=some 38) (v:=?_) (a':=?_) #[true,true,true,true,false,false,false,false,true,false,false,false,false,false,false] rfl rfl (any_of HT_.out (by kernel_rfl)) (fun _ _ _ h=>h) (Or.inl ⟨by rfl,?_⟩) ?_ ?_
        rotate_left
        ·intro w'
         go_simp
         with_reducible rfl
        rotate_left
        ·simp only[Act.put,pu_]
         rfl
        refine one_ (i:=4) (N:=some 34) #[true,true,true,true,true,false,false,false,true,false,false,false,false,false,false] rfl rfl (one_of HT_.out (by kernel_rfl)) (by decide) (fun K hK=>?_)
        refine goes_ Try.func55 (by kernel_rfl) rfl #[.pointer (some ⟨g459,0,none⟩), .int .i64 (y475.length:Int)] (by rfl) rfl rfl gd_ ?_
        with_reducible refine(spec_l1Cur_pick.calls g459 l0 x460001_2 x460002_2 (y475.length:Int) t478 t479 t480 w _ ?side1 ?side2 A21.out).mono ?_
        (case side1=>exact(a3_ HI459.out))
        (case side2=>exact(a4_ HI459.out))
        rintro e w35 ⟨rfl,hi,hb,hk⟩
        have HS0_:=keep_cell hk (hHeld.1) ((a23_ HI459.out HO477.out))
        have HS1_:=keep_cell hk (hHeld.2.1) ((a23_ HI459.out HO477.out))
        have HS2_:=keep_cell hk (hHeld.2.2) ((a23_ HI459.out HO477.out))
        refine⟨_,rfl,?_⟩
        replace HO_5:=am_ (Kd.R_mono (Kd.R_keep (IsS76.apart (show IsS76 w _ g459 l0 x460001_2 x460002_2 from(a3_ HI459.out)) ((a1_ HO_5.out)) (by decide)) hk (fun _ h=>h.2)) (fun _ h=>h.1))
        replace HO477:=am_ (Kd.R_mono (Kd.R_keep (IsS76.apart (show IsS76 w _ g459 l0 x460001_2 x460002_2 from(a3_ HI459.out)) ((a1_ HO477.out)) (by decide)) hk (fun _ h=>h.2)) (fun _ h=>h.1))
        replace HB:=am_ (hb)
        replace HI459:=am_ (hi)
        (try clear hb)
        (try clear hb2)
        (try clear hk)
        (try clear hi)
        refine hK.out _ _ ⟨HS0_,HS1_,HS2_⟩ (fun hHeld=>?_)
        clear hK K
        refine norm_ (a':=?_) ?_ ?_
        rotate_left
        ·show Act.put _ (some 34) _=_
         simp only[Act.put,pu_]
         rfl
        refine pure_ (i:=5) (N:=some 35) (v:=?_) (a':=?_) #[true,true,true,true,true,true,false,false,true,false,false,false,false,false,false] rfl rfl (any_of HT_.out (by kernel_rfl)) (fun _ _ _ h=>h) (Or.inl ⟨by rfl,?_⟩) ?_ ?_
        rotate_left
        ·intro w'
         go_simp
         with_reducible rfl
        rotate_left
        ·simp only[Act.put,pu_]
         rfl
        refine pure_ (i:=6) (N:=some 36) (v:=?_) (a':=?_) #[true,true,true,true,true,true,true,false,true,false,false,false,false,false,false] rfl rfl (any_of HT_.out (by kernel_rfl)) (fun _ _ _ h=>h) (Or.inl ⟨by rfl,?_⟩) ?_ ?_
        rotate_left
        ·intro w'
         go_simp
         with_reducible rfl
        rotate_left
        ·simp only[Act.put,pu_]
         rfl
        refine take_ (i:=7) (N:=some 37) (v:=?_) (a':=?_) #[true,true,true,true,true,true,true,true,true,false,false,false,false,false,false] rfl rfl (take_ofW HT_.out HW_.out (by kernel_rfl)) (fun _ _ _ h=>h) (Or.inl ⟨by rfl,?_⟩) hHeld ?_ ?_
        rotate_left
        ·rintro w' ⟨s0,s1,s2⟩
         go_simp
         with_reducible rfl
        rotate_left
        ·simp only[Act.put,pu_]
         rfl
        refine one_ (i:=9) (N:=some 39) #[true,true,true,true,true,true,true,true,true,true,false,false,false,false,false] rfl rfl (one_of HT_.out (by kernel_rfl)) (by decide) (fun K hK=>?_)
        refine goes_ Try.func55 (by kernel_rfl) rfl #[.pointer (some ⟨g459,0,none⟩), .int .i64 9] (by rfl) rfl rfl gd_ ?_
        with_reducible refine(spec_l1Cur_pick.calls g459 l0 t479 t480 9 t482 t483 t484 w _ ?side1 ?side2 A24.out).mono ?_
        (case side1=>exact(a3_ HI459.out))
        (case side2=>exact(a4_ HI459.out))
        rintro e w36 ⟨rfl,hi,hb,hk⟩
        have HS0_:=keep_cell hk (hHeld.1) ((a23_ HI459.out HO477.out))
        have HS1_:=keep_cell hk (hHeld.2.1) ((a23_ HI459.out HO477.out))
        have HS2_:=keep_cell hk (hHeld.2.2) ((a23_ HI459.out HO477.out))
        refine⟨_,rfl,?_⟩
        replace HO_5:=am_ (Kd.R_mono (Kd.R_keep (IsS76.apart (show IsS76 w _ g459 l0 t479 t480 from(a3_ HI459.out)) ((a1_ HO_5.out)) (by decide)) hk (fun _ h=>h.2)) (fun _ h=>h.1))
        replace HO477:=am_ (Kd.R_mono (Kd.R_keep (IsS76.apart (show IsS76 w _ g459 l0 t479 t480 from(a3_ HI459.out)) ((a1_ HO477.out)) (by decide)) hk (fun _ h=>h.2)) (fun _ h=>h.1))
        replace HB:=am_ (hb)
        replace HI459:=am_ (hi)
        (try clear hb)
        (try clear hb2)
        (try clear hk)
        (try clear hi)
        have p25:0≤(t478:Int):=of_decide_eq_true (a8_)
        have q25:(t478:Int)<((y475.length:Int):Int):=of_decide_eq_true (a8_)
        obtain⟨go25,co25,eo25,gb25,gl25,cl25,HG25⟩:=Kd.R_form HO477.out (by omega)
        (first|cases eo25|(injection eo25 with ea_ en_ ec_;(first|subst ea_|(injection ea_ with ea_;subst ea_));subst ec_;clear en_))
        have GB25:=am_ gb25
        have GG25:=am_ HG25
        clear gb25 gl25 HG25
        (first|simp only[add_plain]at hx481_0 | skip)
        (first|simp only[add_plain]at hx481_1 | skip)
        (first|simp only[add_plain]at hx481_2 | skip)
        obtain⟨ce25,hcl25,hM25,hcc25,hfr25⟩:=Kd.R_elem HO477.out z42 (t478:Int) p25 q25
        obtain rfl:=k42_openM hM25
        have hx25_0:World.cell? _ ⟨go25,(t478:Int).toNat*3,none⟩=some (.int .i64 ((rd_T42 y475 t478).f0)):=hcc25 0 _ rfl
        have hx25_1:World.cell? _ ⟨go25,(t478:Int).toNat*3+1,none⟩=some (.int .i64 ((rd_T42 y475 t478).f1)):=hcc25 1 _ rfl
        have hx25_2:World.cell? _ ⟨go25,(t478:Int).toNat*3+2,none⟩=some (.int .i64 ((rd_T42 y475 t478).f2)):=hcc25 2 _ rfl
        have hf25_0:World.frozen? _ ⟨go25,(t478:Int).toNat*3,none⟩=false:=hfr25 0
        have hf25_1:World.frozen? _ ⟨go25,(t478:Int).toNat*3+1,none⟩=false:=hfr25 1
        have hf25_2:World.frozen? _ ⟨go25,(t478:Int).toNat*3+2,none⟩=false:=hfr25 2
        clear hcl25 hcc25 hfr25;(try clear hM25)
        replace p25:=eq_true p25
        replace q25:=eq_true q25
        have HN459_go25:=am_ (show g459≠go25 from by have h_:=IsS76.own_ne HI459.out HO477.out (by decide);intro e_;exact h_ (by rw[e_];rfl))
        obtain⟨ce37,hcl37,hM37,hcc37,hfr37⟩:=Kd.R_elem HO477.out z42 (t478:Int) (of_decide_eq_true (a8_)) (by have h_:(t478:Int)<((y475.length:Int):Int):=of_decide_eq_true (a8_);first|exact h_|(have e_:=(Kd.R_reads' HO477.out).1;omega) | simpa using h_)
        obtain rfl:=k42_openM hM37
        have HP37:=(Kd.R_seg HO477.out (t478:Int) (of_decide_eq_true (a8_)) (by have h_:(t478:Int)<((y475.length:Int):Int):=of_decide_eq_true (a8_);first|exact h_|(have e_:=(Kd.R_reads' HO477.out).1;omega) | simpa using h_) (seg:=[.int .i64 (wrap64 (((rd_T42 y475 t478).f2)+(wrap64 (t482-4))))]) (j:=2) hcl37 hcc37 (show 3≤3 from by decide) (x':=(⟨(rd_T42 y475 t478).f0,(rd_T42 y475 t478).f1,wrap64 (((rd_T42 y475 t478).f2)+(wrap64 (t482-4)))⟩:S42)) (k42_mkM _ _ _ (⟨(rd_T42 y475 t478).f0,(rd_T42 y475 t478).f1,wrap64 (((rd_T42 y475 t478).f2)+(wrap64 (t482-4)))⟩:S42) ) (fun _ hk=>hk)).1
        rw[← Ny485.out]at HP37
        have HQ37:=am_ HP37
        clear hcl37 hcc37 hfr37 HP37;(try clear hM37)
        refine hK.out _ _ ⟨HS0_,HS1_,HS2_⟩ (fun hHeld=>?_)
        clear hK K
        refine norm_ (a':=?_) ?_ ?_
        rotate_left
        ·show Act.put _ (some 39) _=_
         simp only[Act.put,pu_]
         rfl
        refine pure_ (i:=10) (N:=some 40) (v:=?_) (a':=?_) #[true,true,true,true,true,true,true,true,true,true,true,false,false,false,false] rfl rfl (any_of HT_.out (by kernel_rfl)) (fun _ _ _ h=>h) (Or.inl ⟨by rfl,?_⟩) ?_ ?_
        rotate_left
        ·intro w'
         go_simp
         with_reducible rfl
        rotate_left
        ·simp only[Act.put,pu_]
         rfl
        refine pure_ (i:=11) (N:=some 41) (v:=?_) (a':=?_) #[true,true,true,true,true,true,true,true,true,true,true,true,false,false,false] rfl rfl (any_of HT_.out (by kernel_rfl)) (fun _ _ _ h=>h) (Or.inl ⟨by rfl,?_⟩) ?_ ?_
        rotate_left
        ·intro w'
         go_simp
         with_reducible rfl
        rotate_left
        ·simp only[Act.put,pu_]
         rfl
        refine pure_ (i:=12) (N:=some 42) (v:=?_) (a':=?_) #[true,true,true,true,true,true,true,true,true,true,true,true,true,false,false] rfl rfl (any_of HT_.out (by kernel_rfl)) (fun _ _ _ h=>h) (Or.inl ⟨by rfl,?_⟩) ?_ ?_
        rotate_left
        ·intro w'
         go_simp
         with_reducible rfl
        rotate_left
        ·simp only[Act.put,pu_]
         rfl
        refine pure_ (i:=13) (N:=some 43) (v:=?_) (a':=?_) #[true,true,true,true,true,true,true,true,true,true,true,true,true,true,false] rfl rfl (any_of HT_.out (by kernel_rfl)) (fun _ _ _ h=>h) (Or.inl ⟨by rfl,?_⟩) ?_ ?_
        rotate_left
        ·intro w'
         go_simp
         with_reducible rfl
        rotate_left
        ·simp only[Act.put,pu_]
         rfl
        refine last_ (i:=14) (N:=none) #[true,true,true,true,true,true,true,true,true,true,true,true,true,true,true] rfl rfl (one_of HT_.out (by kernel_rfl)) (by decide) (fun K hK=>?_)
        refine skip_ (w1:=?_) (by rfl) rfl ?_ ?_
        rotate_left
        ·go_simp
         rfl
        refine hK.out _ _ ?_
        clear hK K
        refine done_ (done_of HT_.out (by kernel_rfl)) ?_
        try go_wp2_with (first|((with_reducible refine gate_callee (f:=62) rfl ?_);refine goesL_ (some 45) rfl rfl Try.func62 (by kernel_rfl) rfl #[.slice (some ⟨go25,0,none⟩) y485.length co34] rfl (by(try simp only[List.map_toArray,List.map_cons,List.map_nil]);first | done|(rw[show y485.length=y475.length from(Kd.R_reads' HQ37.out).1.symm]<;>rfl) | rfl|(simp only[List.length_drop,List.length_take];rfl)) ?_;(with_reducible refine(spec_shGood.calls kj2 _ _ y485 true _ ?side1 ?side2 A26.out).mono ?_);(case side1=>refine(Kd.R_reads' (e:=42) (base:=w.heap.size) (ok:=fun k_=>some k_≠(.slice Ao32 t460.length co32:Value).ownBlock) (n:=y475.length) (c:=co34) ?_).2.2;exact((a1_ HQ37.out)));(case side2=>rw[show y485.length=y475.length from(Kd.R_reads' HQ37.out).1.symm];exact(Kd.R_reads' HO477.out).2.1);rintro e w38 ⟨rfl,hb⟩;refine⟨_,rfl,?_⟩;replace HO_5:=am_ (Kd.R_below ((a41_ HO_5.out)) hb);replace HO477:=am_ (Kd.R_below ((a1_ HQ37.out)) hb);replace HB:=am_ (below_step ((a48_ GB25.out HI459.out)) hb);replace HI459:=am_ (IsS76.below (show IsS76 w (w36.setCell ⟨go25,(t478:Int).toNat*3+2,none⟩ (.int .i64 (wrap64 (((rd_T42 y475 t478).f2)+(wrap64 (t482-4)))))) g459 l0 t483 t484 from by repeat (first|(with_reducible first|exact HI459.out|apply IsS76.alloc|apply IsS76.drewN|apply IsS76.drew|apply IsS76.set_1|apply IsS76.set_2 | refine IsS76.far ?_ HN459_go25.out _)|exact HI459.out)) hb);(try clear hb);(try clear hb2);(try clear hk);(try clear hi))|((with_reducible refine gate_callee (f:=63) rfl ?_);refine goesL_ (some 52) rfl rfl Try.func63 (by kernel_rfl) rfl #[.slice (some ⟨go25,0,none⟩) y485.length co34] rfl (by(try simp only[List.map_toArray,List.map_cons,List.map_nil]);first | done|(rw[show y485.length=y475.length from(Kd.R_reads' HO477.out).1.symm]<;>rfl) | rfl|(simp only[List.length_drop,List.length_take];rfl)) ?_;(with_reducible refine(spec_ckSum.calls kj2 _ _ y485 t487 _ ?side1 ?side2 A28.out).mono ?_);(case side1=>exact(a11_ HO477.out));(case side2=>rw[show y485.length=y475.length from(Kd.R_reads' HO477.out).1.symm];exact(Kd.R_reads' HO477.out).2.1);rintro e w39 ⟨rfl,hb⟩;refine⟨_,rfl,?_⟩;replace HO_5:=am_ (Kd.R_below ((a1_ HO_5.out)) hb);replace HO477:=am_ (Kd.R_below ((a1_ HO477.out)) hb);replace HB:=am_ (below_step ((a4_ HI459.out)) hb);replace HI459:=am_ (IsS76.below ((a3_ HI459.out)) hb);(try clear hb);(try clear hb2);(try clear hk);(try clear hi)))
        go_ret2
        exact⟨_,a9_,(a27_ HO_5.out),(a4_ HI459.out)⟩
       ·replace c27:=Bool.eq_false_iff.mpr c27
        subst c27
        replace H:((spec_ckSum.f kj2 t460).bind fun t488=>(some (t460,t488)))=some (r1,r2):=by rw[if_neg (show ¬(false=true) by decide)]at H;exact H
        obtain⟨t488,A40,H⟩:=bo_ H
        try dsimp only at H
        simp only[Option.some.injEq,Prod.mk.injEq]at H
        obtain⟨rfl,rfl⟩:=H
        try go_wp2_with (first|((with_reducible refine gate_dst (N:=27) rfl ?_);(try(refine gate_guard (by rfl) ?_;dsimp only));refine Kd.R_lit k42 _ 42 ?hg (N:=27) ?hd (xs:=([]:List (S42))) (inner:=[]) (ok:=fun _=>True) (okp:=fun _=>True) ?hr ?hp (fun _ hk=>hk) trivial (Below.refl _ _) (Nat.le_refl _) (by simp) ?_;(case hd=>rfl);(case hg=>rfl);(case hr=>exact hr_);(case hp=>exact(Reps.none _ _));intro v473 w41 ho42 hb hg_ hnew_;clear hg_ hnew_;(first|rw[← Ny472.out]at ho42|(simp only[Int.reduceToNat]at ho42;rw[← Ny472.out]at ho42));have HO474:=am_ (Kd.R_lower (Kd.R_new' ho42 (Kd.R_lt ((a1_ HO_5.out)))) (below_size ((a4_ HI459.out))));replace HO_5:=am_ (Kd.R_elder' ((a1_ HO_5.out)) (Kd.R_base ho42) hb);replace HB:=am_ (below_step ((a4_ HI459.out)) hb);replace HI459:=am_ (IsS76.below ((a3_ HI459.out)) hb);clear hb ho42;obtain⟨Ao44,co44,eo44⟩:=Kd.R_slice HO_5.out;subst eo44)|((with_reducible refine gate_builtin (b:= .append) (xs:= #[.tmp 27, .tmp 28]) rfl ?_);(try(refine gate_guard (by rfl) ?_;dsimp only));at_builtin;refine Kd.R_append_rows k42 (w0:=w) w.heap.size rfl (.tmp 27) (.tmp 28) 32 42 (.agg #[(.int .i64 0),(.int .i64 0),(.int .i64 0)]) 24 rfl Try.underlying32 info42 rfl (by decide) (by omega) v473 y472 t460 _ _ _ (fun k_=>some k_≠(.slice Ao44 t460.length co44:Value).ownBlock) (fun _=>False) rfl rfl ?aO ?aR (fun _ _ h=>h) (fun _ h=>h.elim) ?aF ?aB ?aS ?aL ?_;(case aR=>exact(a11_ HO_5.out));(case aB=>exact((a4_ HI459.out)));(case aF=>exact(fun k_ hk=>Kd.fresh' (Kd.R_lt ((a1_ HO_5.out))) k_ hk));(case aO=>exact((a35_ HO474.out)));(case aS=>exact(below_size ((a4_ HI459.out))));(case aL=>have:=LMc20.out;omega);intro v476 w43 ho hb hg hat;rw[← Ny475.out]at ho;have n0_:=am_ (Kd.R_after (ok:=(fun _=>True)) ((a1_ HO_5.out)) hg hat);have n1_:=am_ (IsS76.grown ((a3_ HI459.out)) hg (IsS76.own_ne HI459.out HO474.out (by decide)));have n2_:=am_ (hb);have n3_:=am_ (ho);clear HO_5 HI459 HB HO474;have HO_5:=n0_;have HI459:=n1_;have HB:=n2_;have HO477:=n3_;clear n0_ n1_ n2_ n3_ ho hb hg hat))
        replace HO_5:=am_ (Kd.R_drew HO_5.out)
        replace HO477:=am_ (Kd.R_drew HO477.out)
        replace HI459:=am_ (IsS76.drew HI459.out)
        replace HB:=am_ (below_drew1 HB.out)
        obtain⟨Ao46,co46,eo46⟩:=Kd.R_slice HO477.out
        (first|subst eo46|(injection eo46 with f1_ f2_ f3_;have f4_:=f1_.symm;have f5_:=f3_.symm;clear f1_ f2_ f3_;subst f4_;subst f5_))
        have p481:0≤(t478:Int):=of_decide_eq_true (a8_)
        have q481:t478<(y475.length:Int):=of_decide_eq_true (a8_)
        obtain⟨ad481,e481,hx481_0,hx481_1,hx481_2⟩:=at_T42 (Kd.R_reads' HO477.out).2.2 t478 p481 q481
        cases e481
        replace p481:=eq_true p481
        replace q481:=eq_true q481
        refine start_ (n:=15) (S:=fun w'=>w'.cell? (ad481.add ((t478).toNat*3))=some (.int .i64 ((rd_T42 y475 t478).f0))∧w'.cell? ⟨(ad481.add ((t478).toNat*3)).block,(ad481.add ((t478).toNat*3)).off+1,none⟩=some (.int .i64 ((rd_T42 y475 t478).f1))∧w'.cell? ⟨(ad481.add ((t478).toNat*3)).block,(ad481.add ((t478).toNat*3)).off+2,none⟩=some (.int .i64 ((rd_T42 y475 t478).f2))) (ds:=[14]) #[false,false,false,false,false,false,false,false,false,false,false,false,false,false,false] (by kernel_rfl) rfl rfl ⟨hx481_0,hx481_1,hx481_2⟩ (fun hHeld=>?_);refine with_tabW spec_DrawSingleChanges.tab6 spec_DrawSingleChanges.bits6 (fun HT_ HW_=>?_)
        generalize w43.drew=w45 at HO_5 HO477 HI459 HB hx481_0 hx481_1 hx481_2 hHeld ⊢
        refine pure_ (i:=0) (N:=some 30) (v:=?_) (a':=?_) #[true,false,false,false,false,false,false,false,false,false,false,false,false,false,false] rfl rfl (any_of HT_.out (by kernel_rfl)) (fun _ _ _ h=>h) (Or.inl ⟨by rfl,?_⟩) ?_ ?_
        rotate_left
        ·intro w'
         go_simp
         with_reducible rfl
        rotate_left
        ·simp only[Act.put,pu_]
         rfl
        refine pure_ (i:=1) (N:=some 31) (v:=?_) (a':=?_) #[true,true,false,false,false,false,false,false,false,false,false,false,false,false,false] rfl rfl (any_of HT_.out (by kernel_rfl)) (fun _ _ _ h=>h) (Or.inl ⟨by rfl,?_⟩) ?_ ?_
        rotate_left
        ·intro w'
         go_simp
         with_reducible rfl
        rotate_left
        ·simp only[Act.put,pu_]
         rfl
        refine pure_ (i:=2) (N:=some 32) (v:=?_) (a':=?_) #[true,true,true,false,false,false,false,false,false,false,false,false,false,false,false] rfl rfl (any_of HT_.out (by kernel_rfl)) (fun _ _ _ h=>h) (Or.inl ⟨by rfl,?_⟩) ?_ ?_
        rotate_left
        ·intro w'
         go_simp
         with_reducible rfl
        rotate_left
        ·simp only[Act.put,pu_]
         rfl
        refine pure_ (i:=3) (N:=some 33) (v:=?_) (a':=?_) #[true,true,true,true,false,false,false,false,false,false,false,false,false,false,false] rfl rfl (any_of HT_.out (by kernel_rfl)) (fun _ _ _ h=>h) (Or.inl ⟨by rfl,?_⟩) ?_ ?_
        rotate_left
        ·intro w'
         go_simp
         with_reducible rfl
        rotate_left
        ·simp only[Act.put,pu_]
         rfl
        refine pure_ (i:=8) (N:=some 38) (v:=?_) (a':=?_) #[true,true,true,true,false,false,false,false,true,false,false,false,false,false,false] rfl rfl (any_of HT_.out (by kernel_rfl)) (fun _ _ _ h=>h) (Or.inl ⟨by rfl,?_⟩) ?_ ?_
        rotate_left
        ·intro w'
         go_simp
         with_reducible rfl
        rotate_left
        ·simp only[Act.put,pu_]
         rfl
        refine one_ (i:=4) (N:=some 34) #[true,true,true,true,true,false,false,false,true,false,false,false,false,false,false] rfl rfl (one_of HT_.out (by kernel_rfl)) (by decide) (fun K hK=>?_)
        refine goes_ Try.func55 (by kernel_rfl) rfl #[.pointer (some ⟨g459,0,none⟩), .int .i64 (y475.length:Int)] (by rfl) rfl rfl gd_ ?_
        with_reducible refine(spec_l1Cur_pick.calls g459 l0 x460001_2 x460002_2 (y475.length:Int) t478 t479 t480 w _ ?side1 ?side2 A21.out).mono ?_
        (case side1=>exact(a3_ HI459.out))
        (case side2=>exact(a4_ HI459.out))
        rintro e w47 ⟨rfl,hi,hb,hk⟩
        have HS0_:=keep_cell hk (hHeld.1) ((a23_ HI459.out HO477.out))
        have HS1_:=keep_cell hk (hHeld.2.1) ((a23_ HI459.out HO477.out))
        have HS2_:=keep_cell hk (hHeld.2.2) ((a23_ HI459.out HO477.out))
        refine⟨_,rfl,?_⟩
        replace HO_5:=am_ (Kd.R_mono (Kd.R_keep (IsS76.apart (show IsS76 w _ g459 l0 x460001_2 x460002_2 from(a3_ HI459.out)) ((a1_ HO_5.out)) (by decide)) hk (fun _ h=>h.2)) (fun _ h=>h.1))
        replace HO477:=am_ (Kd.R_mono (Kd.R_keep (IsS76.apart (show IsS76 w _ g459 l0 x460001_2 x460002_2 from(a3_ HI459.out)) ((a1_ HO477.out)) (by decide)) hk (fun _ h=>h.2)) (fun _ h=>h.1))
        replace HB:=am_ (hb)
        replace HI459:=am_ (hi)
        (try clear hb)
        (try clear hb2)
        (try clear hk)
        (try clear hi)
        refine hK.out _ _ ⟨HS0_,HS1_,HS2_⟩ (fun hHeld=>?_)
        clear hK K
        refine norm_ (a':=?_) ?_ ?_
        rotate_left
        ·show Act.put _ (some 34) _=_
         simp only[Act.put,pu_]
         rfl
        refine pure_ (i:=5) (N:=some 35) (v:=?_) (a':=?_) #[true,true,true,true,true,true,false,false,true,false,false,false,false,false,false] rfl rfl (any_of HT_.out (by kernel_rfl)) (fun _ _ _ h=>h) (Or.inl ⟨by rfl,?_⟩) ?_ ?_
        rotate_left
        ·intro w'
         go_simp
         with_reducible rfl
        rotate_left
        ·simp only[Act.put,pu_]
         rfl
        refine pure_ (i:=6) (N:=some 36) (v:=?_) (a':=?_) #[true,true,true,true,true,true,true,false,true,false,false,false,false,false,false] rfl rfl (any_of HT_.out (by kernel_rfl)) (fun _ _ _ h=>h) (Or.inl ⟨by rfl,?_⟩) ?_ ?_
        rotate_left
        ·intro w'
         go_simp
         with_reducible rfl
        rotate_left
        ·simp only[Act.put,pu_]
         rfl
        refine take_ (i:=7) (N:=some 37) (v:=?_) (a':=?_) #[true,true,true,true,true,true,true,true,true,false,false,false,false,false,false] rfl rfl (take_ofW HT_.out HW_.out (by kernel_rfl)) (fun _ _ _ h=>h) (Or.inl ⟨by rfl,?_⟩) hHeld ?_ ?_
        rotate_left
        ·rintro w' ⟨s0,s1,s2⟩
         go_simp
         with_reducible rfl
        rotate_left
        ·simp only[Act.put,pu_]
         rfl
        refine one_ (i:=9) (N:=some 39) #[true,true,true,true,true,true,true,true,true,true,false,false,false,false,false] rfl rfl (one_of HT_.out (by kernel_rfl)) (by decide) (fun K hK=>?_)
        refine goes_ Try.func55 (by kernel_rfl) rfl #[.pointer (some ⟨g459,0,none⟩), .int .i64 9] (by rfl) rfl rfl gd_ ?_
        with_reducible refine(spec_l1Cur_pick.calls g459 l0 t479 t480 9 t482 t483 t484 w _ ?side1 ?side2 A24.out).mono ?_
        (case side1=>exact(a3_ HI459.out))
        (case side2=>exact(a4_ HI459.out))
        rintro e w48 ⟨rfl,hi,hb,hk⟩
        have HS0_:=keep_cell hk (hHeld.1) ((a23_ HI459.out HO477.out))
        have HS1_:=keep_cell hk (hHeld.2.1) ((a23_ HI459.out HO477.out))
        have HS2_:=keep_cell hk (hHeld.2.2) ((a23_ HI459.out HO477.out))
        refine⟨_,rfl,?_⟩
        replace HO_5:=am_ (Kd.R_mono (Kd.R_keep (IsS76.apart (show IsS76 w _ g459 l0 t479 t480 from(a3_ HI459.out)) ((a1_ HO_5.out)) (by decide)) hk (fun _ h=>h.2)) (fun _ h=>h.1))
        replace HO477:=am_ (Kd.R_mono (Kd.R_keep (IsS76.apart (show IsS76 w _ g459 l0 t479 t480 from(a3_ HI459.out)) ((a1_ HO477.out)) (by decide)) hk (fun _ h=>h.2)) (fun _ h=>h.1))
        replace HB:=am_ (hb)
        replace HI459:=am_ (hi)
        (try clear hb)
        (try clear hb2)
        (try clear hk)
        (try clear hi)
        have p25:0≤(t478:Int):=of_decide_eq_true (a8_)
        have q25:(t478:Int)<((y475.length:Int):Int):=of_decide_eq_true (a8_)
        obtain⟨go25,co25,eo25,gb25,gl25,cl25,HG25⟩:=Kd.R_form HO477.out (by omega)
        (first|cases eo25|(injection eo25 with ea_ en_ ec_;(first|subst ea_|(injection ea_ with ea_;subst ea_));subst ec_;clear en_))
        have GB25:=am_ gb25
        have GG25:=am_ HG25
        clear gb25 gl25 HG25
        (first|simp only[add_plain]at hx481_0 | skip)
        (first|simp only[add_plain]at hx481_1 | skip)
        (first|simp only[add_plain]at hx481_2 | skip)
        obtain⟨ce25,hcl25,hM25,hcc25,hfr25⟩:=Kd.R_elem HO477.out z42 (t478:Int) p25 q25
        obtain rfl:=k42_openM hM25
        have hx25_0:World.cell? _ ⟨go25,(t478:Int).toNat*3,none⟩=some (.int .i64 ((rd_T42 y475 t478).f0)):=hcc25 0 _ rfl
        have hx25_1:World.cell? _ ⟨go25,(t478:Int).toNat*3+1,none⟩=some (.int .i64 ((rd_T42 y475 t478).f1)):=hcc25 1 _ rfl
        have hx25_2:World.cell? _ ⟨go25,(t478:Int).toNat*3+2,none⟩=some (.int .i64 ((rd_T42 y475 t478).f2)):=hcc25 2 _ rfl
        have hf25_0:World.frozen? _ ⟨go25,(t478:Int).toNat*3,none⟩=false:=hfr25 0
        have hf25_1:World.frozen? _ ⟨go25,(t478:Int).toNat*3+1,none⟩=false:=hfr25 1
        have hf25_2:World.frozen? _ ⟨go25,(t478:Int).toNat*3+2,none⟩=false:=hfr25 2
        clear hcl25 hcc25 hfr25;(try clear hM25)
        replace p25:=eq_true p25
        replace q25:=eq_true q25
        have HN459_go25:=am_ (show g459≠go25 from by have h_:=IsS76.own_ne HI459.out HO477.out (by decide);intro e_;exact h_ (by rw[e_];rfl))
        obtain⟨ce49,hcl49,hM49,hcc49,hfr49⟩:=Kd.R_elem HO477.out z42 (t478:Int) (of_decide_eq_true (a8_)) (by have h_:(t478:Int)<((y475.length:Int):Int):=of_decide_eq_true (a8_);first|exact h_|(have e_:=(Kd.R_reads' HO477.out).1;omega) | simpa using h_)
        obtain rfl:=k42_openM hM49
        have HP49:=(Kd.R_seg HO477.out (t478:Int) (of_decide_eq_true (a8_)) (by have h_:(t478:Int)<((y475.length:Int):Int):=of_decide_eq_true (a8_);first|exact h_|(have e_:=(Kd.R_reads' HO477.out).1;omega) | simpa using h_) (seg:=[.int .i64 (wrap64 (((rd_T42 y475 t478).f2)+(wrap64 (t482-4))))]) (j:=2) hcl49 hcc49 (show 3≤3 from by decide) (x':=(⟨(rd_T42 y475 t478).f0,(rd_T42 y475 t478).f1,wrap64 (((rd_T42 y475 t478).f2)+(wrap64 (t482-4)))⟩:S42)) (k42_mkM _ _ _ (⟨(rd_T42 y475 t478).f0,(rd_T42 y475 t478).f1,wrap64 (((rd_T42 y475 t478).f2)+(wrap64 (t482-4)))⟩:S42) ) (fun _ hk=>hk)).1
        rw[← Ny485.out]at HP49
        have HQ49:=am_ HP49
        clear hcl49 hcc49 hfr49 HP49;(try clear hM49)
        refine hK.out _ _ ⟨HS0_,HS1_,HS2_⟩ (fun hHeld=>?_)
        clear hK K
        refine norm_ (a':=?_) ?_ ?_
        rotate_left
        ·show Act.put _ (some 39) _=_
         simp only[Act.put,pu_]
         rfl
        refine pure_ (i:=10) (N:=some 40) (v:=?_) (a':=?_) #[true,true,true,true,true,true,true,true,true,true,true,false,false,false,false] rfl rfl (any_of HT_.out (by kernel_rfl)) (fun _ _ _ h=>h) (Or.inl ⟨by rfl,?_⟩) ?_ ?_
        rotate_left
        ·intro w'
         go_simp
         with_reducible rfl
        rotate_left
        ·simp only[Act.put,pu_]
         rfl
        refine pure_ (i:=11) (N:=some 41) (v:=?_) (a':=?_) #[true,true,true,true,true,true,true,true,true,true,true,true,false,false,false] rfl rfl (any_of HT_.out (by kernel_rfl)) (fun _ _ _ h=>h) (Or.inl ⟨by rfl,?_⟩) ?_ ?_
        rotate_left
        ·intro w'
         go_simp
         with_reducible rfl
        rotate_left
        ·simp only[Act.put,pu_]
         rfl
        refine pure_ (i:=12) (N:=some 42) (v:=?_) (a':=?_) #[true,true,true,true,true,true,true,true,true,true,true,true,true,false,false] rfl rfl (any_of HT_.out (by kernel_rfl)) (fun _ _ _ h=>h) (Or.inl ⟨by rfl,?_⟩) ?_ ?_
        rotate_left
        ·intro w'
         go_simp
         with_reducible rfl
        rotate_left
        ·simp only[Act.put,pu_]
         rfl
        refine pure_ (i:=13) (N:=some 43) (v:=?_) (a':=?_) #[true,true,true,true,true,true,true,true,true,true,true,true,true,true,false] rfl rfl (any_of HT_.out (by kernel_rfl)) (fun _ _ _ h=>h) (Or.inl ⟨by rfl,?_⟩) ?_ ?_
        rotate_left
        ·intro w'
         go_simp
         with_reducible rfl
        rotate_left
        ·simp only[Act.put,pu_]
         rfl
        refine last_ (i:=14) (N:=none) #[true,true,true,true,true,true,true,true,true,true,true,true,true,true,true] rfl rfl (one_of HT_.out (by kernel_rfl)) (by decide) (fun K hK=>?_)
        refine skip_ (w1:=?_) (by rfl) rfl ?_ ?_
        rotate_left
        ·go_simp
         rfl
        refine hK.out _ _ ?_
        clear hK K
        refine done_ (done_of HT_.out (by kernel_rfl)) ?_
        try go_wp2_with (first|((with_reducible refine gate_callee (f:=62) rfl ?_);refine goesL_ (some 45) rfl rfl Try.func62 (by kernel_rfl) rfl #[.slice (some ⟨go25,0,none⟩) y485.length co46] rfl (by(try simp only[List.map_toArray,List.map_cons,List.map_nil]);first | done|(rw[show y485.length=y475.length from(Kd.R_reads' HQ49.out).1.symm]<;>rfl) | rfl|(simp only[List.length_drop,List.length_take];rfl)) ?_;(with_reducible refine(spec_shGood.calls kj2 _ _ y485 false _ ?side1 ?side2 A26.out).mono ?_);(case side1=>refine(Kd.R_reads' (e:=42) (base:=w.heap.size) (ok:=fun k_=>some k_≠(.slice Ao44 t460.length co44:Value).ownBlock) (n:=y475.length) (c:=co46) ?_).2.2;exact((a1_ HQ49.out)));(case side2=>rw[show y485.length=y475.length from(Kd.R_reads' HQ49.out).1.symm];exact(Kd.R_reads' HO477.out).2.1);rintro e w50 ⟨rfl,hb⟩;refine⟨_,rfl,?_⟩;replace HO_5:=am_ (Kd.R_below ((a41_ HO_5.out)) hb);replace HO477:=am_ (Kd.R_below ((a1_ HQ49.out)) hb);replace HB:=am_ (below_step ((a48_ GB25.out HI459.out)) hb);replace HI459:=am_ (IsS76.below (show IsS76 w (w48.setCell ⟨go25,(t478:Int).toNat*3+2,none⟩ (.int .i64 (wrap64 (((rd_T42 y475 t478).f2)+(wrap64 (t482-4)))))) g459 l0 t483 t484 from by repeat (first|(with_reducible first|exact HI459.out|apply IsS76.alloc|apply IsS76.drewN|apply IsS76.drew|apply IsS76.set_1|apply IsS76.set_2 | refine IsS76.far ?_ HN459_go25.out _)|exact HI459.out)) hb);(try clear hb);(try clear hb2);(try clear hk);(try clear hi))|((with_reducible refine gate_callee (f:=63) rfl ?_);refine goesL_ (some 49) rfl rfl Try.func63 (by kernel_rfl) rfl #[.slice Ao44 t460.length co44] rfl gd_ ?_;(with_reducible refine(spec_ckSum.calls kj2 _ _ t460 t488 _ ?side1 ?side2 A40.out).mono ?_);(case side1=>exact(a11_ HO_5.out));(case side2=>exact(Kd.R_reads' HO_5.out).2.1);rintro e w51 ⟨rfl,hb⟩;refine⟨_,rfl,?_⟩;replace HO_5:=am_ (Kd.R_below ((a1_ HO_5.out)) hb);replace HO477:=am_ (Kd.R_below ((a1_ HO477.out)) hb);replace HB:=am_ (below_step ((a4_ HI459.out)) hb);replace HI459:=am_ (IsS76.below ((a3_ HI459.out)) hb);(try clear hb);(try clear hb2);(try clear hk);(try clear hi)))
        go_ret2
        exact⟨_,a9_,(a27_ HO_5.out),(a4_ HI459.out)⟩
      ·rw[if_neg c23]at H
       exact absurd H (by simp)
     ·rw[if_neg c22]at H
      exact absurd H (by simp)
    ·rw[if_neg c20]at H
     exact absurd H (by simp)

/-! ### impl_isChecksum: function 65 -/
def impl_isChecksum.f (a0:Int):Option (Bool):=if a0≥0 then(some (decide (a0<1000003))) else(some false)
set_option maxHeartbeats 8000000 in
set_option maxRecDepth 100000 in
theorem impl_isChecksum.calls (a0:Int) (r:Bool) (w:World) (h:impl_isChecksum.f a0=some r) :
 Calls Try.prog 65 #[.int .i64 a0] w fun e w'=>e = .returned (.bool r)∧Drawn0 w w':=by
 have H:(if a0≥0 then(some (decide (a0<1000003))) else(some false))=some r:=h
 clear h
 by_cases c2:a0≥0
 ·rw[if_pos c2]at H
  have c2b0:decide (0≤a0)=true:=decide_eq_true c2
  clear c2
  obtain rfl:=Option.some.inj H
  go_enter Try.func65,Try.ntmps65
  go_wp2
  go_ret
  exact⟨by first | rfl|(simp;done)|(simp[*];done),a29_⟩
 ·rw[if_neg c2]at H
  have c2b0:decide (0≤a0)=false:=decide_eq_false c2
  clear c2
  obtain rfl:=Option.some.inj H
  go_enter Try.func65,Try.ntmps65
  go_wp2
  go_ret
  exact⟨by first | rfl|(simp;done)|(simp[*];done),a29_⟩

/-! ### impl_Hole_66: function 66 (by hand: a copy of a slice) -/
def impl_Hole_66.f (l0:List S42):Option (List S42):=if l0.length<1000000000 then some l0 else none
theorem impl_Hole_66.info:(Try.prog.info? 42).map (fun i=>(i.zero,i.size,i.bytes))=some (some (.agg #[(.int .i64 0),(.int .i64 0),(.int .i64 0)]),3,24):=by kernel_rfl
set_option maxHeartbeats 8000000 in
set_option maxRecDepth 100000 in
theorem impl_Hole_66.calls (A0:Option Addr) (c0:Nat) (l0:List S42) (r:List S42) (w:World) (hr0:Kd.C k42 w A0 l0.length l0) (hc0:l0.length≤c0) (h:impl_Hole_66.f l0=some r) :
 Calls Try.prog 66 #[.slice A0 l0.length c0] w fun e w'=>∃v0_:Value,e = .returned (v0_)∧Kd.R k42 42 w' w.heap.size (fun _=>True) v0_ r∧Below w.heap.size w w':=by
 unfold impl_Hole_66.f at h
 by_cases hlen:l0.length<1000000000
 ·rw[if_pos hlen]at h
  obtain rfl:=Option.some.inj h
  clear h
  cases A0 with
  | none=>
   have hz:l0 = []:=by
    rcases Nat.eq_zero_or_pos l0.length with h0 | h0
    ·exact List.eq_nil_of_length_eq_zero h0
    ·obtain⟨ad,e,_⟩:=hr0.2.2 h0
     cases e
   subst hz
   have hq:∀W:World,(binOp .eql 32 (.slice none 0 c0) (.slice none 0 0)).run Try.prog W = .ok (.bool true) W:=fun W=>Go.run_eql_slice_nil W 32 42 none 0 c0 Try.underlying32
   clear hr0 hc0 hlen
   go_enter Try.func66,Try.ntmps66
   go_wp2
   go_ret
   exact⟨_,rfl,Kd.R_nil _ _ _ _ _,Below.refl _ _⟩
  | some ad=>
   have hq:∀W:World,(binOp .eql 32 (.slice (some ad) l0.length c0) (.slice none 0 0)).run Try.prog W = .ok (.bool false) W:=fun W=>Go.run_eql_slice_nil W 32 42 (some ad) l0.length c0 Try.underlying32
   have HR0:=am_ hr0
   have HC0:=am_ hc0
   have HL:=am_ hlen
   clear hr0 hc0 hlen
   have HB:=am_ (Below.refl w.heap.size w)
   go_enter Try.func66,Try.ntmps66
   go_wp2_with (first|((with_reducible refine gate_dst (N:=5) rfl ?_);refine Kd.R_lit k42 _ 42 ?hg (N:=5) ?hd (xs:=([]:List S42)) (inner:=[]) (ok:=fun _=>True) (okp:=fun _=>True) ?hr ?hp (fun _ hk=>hk) trivial (Below.refl _ _) (Nat.le_refl _) (by simp) ?_;(case hd=>rfl);(case hg=>rfl);(case hr=>exact hr_);(case hp=>exact(Reps.none _ _));intro v112 w3 ho4 hb hg_ hnew_;clear hg_ hnew_;have HO113:=am_ (Kd.R_lower ho4 (below_size (a0_)));replace HB:=am_ (below_step (a0_) hb);clear hb ho4)|((with_reducible refine gate_builtin (b:= .append) (xs:= #[.tmp 5, .tmp 6]) rfl ?_);at_builtin;refine Kd.R_append_rows k42 (w0:=w) w.heap.size rfl (.tmp 5) (.tmp 6) 32 42 (.agg #[(.int .i64 0),(.int .i64 0),(.int .i64 0)]) 24 rfl Try.underlying32 impl_Hole_66.info rfl (by decide) (by omega) v112 [] l0 _ _ _ (fun _=>True) (fun _=>False) rfl rfl ?aO ?aR (fun _ _ h=>h) (fun _ h=>h.elim) ?aF ?aB ?aS ?aL ?_;(case aR=>exact(a13_ HR0.out));(case aB=>exact(a0_));(case aF=>exact(fun _ _=>trivial));(case aO=>exact((a1_ HO113.out)));(case aS=>exact(below_size (a0_)));(case aL=>have:=HL.out;simp only[List.length_nil];omega);intro v115 w5 ho hb hg hat;have n0_:=am_ (hb);have n1_:=am_ (ho);clear HB HO113;have HB:=n0_;have HO116:=n1_;clear n0_ n1_ ho hb hg hat))
   go_ret
   refine⟨_,rfl,?_,a0_⟩
   have HX:=HO116.out
   rw[List.nil_append]at HX
   exact(by(with_reducible repeat (first|apply Kd.R_alloc|apply Kd.R_drewN|apply Kd.R_drew));exact HX)
 ·rw[if_neg hlen]at h
  exact absurd h (by simp)


end Go.Proofs.Ytplpjmhmochcfaa.QFnCopies
