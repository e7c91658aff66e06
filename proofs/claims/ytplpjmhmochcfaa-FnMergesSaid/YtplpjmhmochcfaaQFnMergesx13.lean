/- Written by a program of this session (the kit's printer, with leaf contracts proved by hand put in): what each Go function computes, and that the call computes it. No condition but those that each theorem names. -/
import Derived.Test.YtplpjmhmochcfaaQFnMergesx0
import Derived.Test.YtplpjmhmochcfaaQFnMergesx12
namespace Go.Proofs.Ytplpjmhmochcfaa.QFnMerges
open Go.RowKit Go.Proofs.YtplpjmhmochcfaaW.PrintWords Go.Proofs.YtplpjmhmochcfaaW.PrintLast Go.Proofs.YtplpjmhmochcfaaW.PrintMore
attribute [local go_sem] max2_int min2_int max_two min_two max_three min_three max_four min_four   -- for this text's walks alone
set_option linter.unusedVariables false
set_option linter.unusedSimpArgs false

/-! ### spec_l1Cur_anySheet: function 54 -/
def spec_l1Cur_anySheet.l0:Nat→List (S42)→List Int→Int→Int→Option ((List (S42))×Int×Int)
 | 0,_,_,_,_=>none
 | k+1,x3,x1000,x1001,x1002=>if(x3.length:Int)<61 then(if x3.length<5864062014805 then(spec_l1Cur_anySheet.l0 k (x3 ++ [(⟨1,wrap64 (3*(x3.length:Int)),wrap64 ((wrap64 (3*(x3.length:Int)))+1)⟩:S42)]) x1000 x1001 x1002) else(none)) else(some (x3,x1001,x1002))
def spec_l1Cur_anySheet.f (k:Nat) (s0_0:List Int) (s0_1:Int) (s0_2:Int):Option ((List (S42))×Int×Int):=(spec_l1Cur_sheet.f k s0_0 s0_1 s0_2).bind fun bt428=>(if(bt428.1.length:Int)>0 then((spec_l1Cur_pick.f s0_0 bt428.2.1 bt428.2.2 (bt428.1.length:Int)).bind fun bt433=>((spec_l1Cur_pick.f s0_0 bt433.2.1 bt433.2.2 30).bind fun bt436=>(if bt436.1=0 then((spec_l1Cur_anyHole.f s0_0 bt436.2.1 bt436.2.2).bind fun bt439=>(if 0≤bt433.1 then(if bt433.1<(bt428.1.length:Int) then(some ((bt428.1.set (bt433.1:Int).toNat (⟨bt439.1,bt439.2.1,bt439.2.2.1⟩:S42)),bt439.2.2.2.1,bt439.2.2.2.2)) else(none)) else(none))) else(if bt436.1=1 then(if 0≤bt433.1 then(if bt433.1<(bt428.1.length:Int) then(if bt428.1.length<5864062014805 then(some ((bt428.1 ++ [(⟨(rd_T42 bt428.1 bt433.1).f0,(rd_T42 bt428.1 bt433.1).f1,(rd_T42 bt428.1 bt433.1).f2⟩:S42)]),bt436.2.1,bt436.2.2)) else(none)) else(none)) else(none)) else(if bt436.1=2 then(if 0≤bt433.1 then(if bt433.1<(bt428.1.length:Int) then(if bt428.1.length<5864062014805 then(some ((bt428.1 ++ [(⟨(rd_T42 bt428.1 bt433.1).f0,(rd_T42 bt428.1 bt433.1).f2,wrap64 (((rd_T42 bt428.1 bt433.1).f2)+2)⟩:S42)]),bt436.2.1,bt436.2.2)) else(none)) else(none)) else(none)) else(if bt436.1=3 then(spec_l1Cur_anySheet.l0 k ([]:List (S42)) s0_0 bt436.2.1 bt436.2.2) else(some (bt428.1,bt436.2.1,bt436.2.2)))))))) else(some (bt428.1,bt428.2.1,bt428.2.2)))
theorem spec_l1Cur_anySheet.mono_l:∀k,(∀y0 y1 y2 y3,LeO (spec_l1Cur_anySheet.l0 k y0 y1 y2 y3) (spec_l1Cur_anySheet.l0 (k+1) y0 y1 y2 y3))
 | 0=>fun _ _ _ _ r h=>by simp[spec_l1Cur_anySheet.l0]at h
 | k+1=>by
  have ih0:=spec_l1Cur_anySheet.mono_l k
  intros
  unfold spec_l1Cur_anySheet.l0
  rotate_left
  all_goals repeat' first|(with_reducible first|exact ih0 _ _ _ _|exact spec_l1Cur_sheet.mono _ _ _ _|exact LeO.refl _|exact LeO.none _|refine LeO.ite ?_ ?_|refine LeO.bind ?_ (fun _=>?_))|exact ih0 _ _ _ _|exact spec_l1Cur_sheet.mono _ _ _ _|exact LeO.none _|refine LeO.ite ?_ ?_|refine LeO.bind ?_ (fun _=>?_)
theorem spec_l1Cur_anySheet.mono:∀a0 a1 a2 k,LeO (spec_l1Cur_anySheet.f k a0 a1 a2) (spec_l1Cur_anySheet.f (k+1) a0 a1 a2):=by
 intro a0 a1 a2 k
 have ih0:=spec_l1Cur_anySheet.mono_l k
 unfold spec_l1Cur_anySheet.f
 repeat' first
  |(with_reducible exact ih0 _ _ _ _)
  |(with_reducible exact spec_l1Cur_sheet.mono _ _ _ _)
  |(with_reducible exact LeO.refl _)
  |(with_reducible exact LeO.none _)
  |(with_reducible refine LeO.ite ?_ ?_)
  |(with_reducible refine LeO.bind ?_ (fun _=>?_))
  |exact ih0 _ _ _ _
  |exact spec_l1Cur_sheet.mono _ _ _ _
  |exact LeO.none _
   | refine LeO.ite ?_ ?_
   | refine LeO.bind ?_ (fun _=>?_)
def spec_l1Cur_anySheet.T10:Bool×List (List Nat×List Nat):=(true, [([], []),([], []),([], []),([1,2], [1,2]),([3], [3]),([4], [4]),([], []),([], []),([6,7], [6,7]),([8], [8]),([9], [9]),([], []),([], []),([11,12], [11,12]),([13], [13]),([14], [14]),([15], [15]),([5,10,16], [5,10,16]),([17], [17]),([0,18], [0,18]),([19,19,0,1,2,3,4,5,6,7,8,9,10,11,12,13,14,15,16,17,18,19], [0,1,6,11,19])])
def spec_l1Cur_anySheet.B10:List Nat:=[0,0,0,6,14,30,0,0,192,448,960,0,0,6144,14336,30720,63488,131070,262142,524287,1048575]
theorem spec_l1Cur_anySheet.tab10:rtab .any (opsOf Try.f54 10)=spec_l1Cur_anySheet.T10:=by kernel_rfl
theorem spec_l1Cur_anySheet.bits10:waitsOk spec_l1Cur_anySheet.T10.2 spec_l1Cur_anySheet.B10=true:=by kernel_rfl
set_option maxHeartbeats 8000000 in
set_option maxRecDepth 100000 in
theorem spec_l1Cur_anySheet.calls (k:Nat) (g:Nat) (s0_0:List Int) (s0_1:Int) (s0_2:Int) (r1:List (S42)) (r2:Int) (r3:Int) (w0 w:World) (hI:IsS76 w0 w g s0_0 s0_1 s0_2) (hB:Below w0.heap.size w0 w) (h:spec_l1Cur_anySheet.f k s0_0 s0_1 s0_2=some (r1,r2,r3)) :
 Calls Try.prog 54 #[.pointer (some ⟨g,0,none⟩)] w fun e w'=>∃v0_:Value,e = .returned (v0_)∧Kd.R k42 42 w' w.heap.size (fun _=>True) v0_ r1∧IsS76 w0 w' g s0_0 r2 r3∧Below w0.heap.size w0 w'∧KeepBut w w' g none:=by
 have hu42:=Try.underlying42
 have HI0:=am_ hI
 have HK:=am_ (KeepBut.refl w g none)
 have HL:=am_ hB.size
 clear hI
 have HW0:=am_ hB.size
 have HB:=am_ hB
 clear hB
 have H:((spec_l1Cur_sheet.f k s0_0 s0_1 s0_2).bind fun bt428=>(if(bt428.1.length:Int)>0 then((spec_l1Cur_pick.f s0_0 bt428.2.1 bt428.2.2 (bt428.1.length:Int)).bind fun bt433=>((spec_l1Cur_pick.f s0_0 bt433.2.1 bt433.2.2 30).bind fun bt436=>(if bt436.1=0 then((spec_l1Cur_anyHole.f s0_0 bt436.2.1 bt436.2.2).bind fun bt439=>(if 0≤bt433.1 then(if bt433.1<(bt428.1.length:Int) then(some ((bt428.1.set (bt433.1:Int).toNat (⟨bt439.1,bt439.2.1,bt439.2.2.1⟩:S42)),bt439.2.2.2.1,bt439.2.2.2.2)) else(none)) else(none))) else(if bt436.1=1 then(if 0≤bt433.1 then(if bt433.1<(bt428.1.length:Int) then(if bt428.1.length<5864062014805 then(some ((bt428.1 ++ [(⟨(rd_T42 bt428.1 bt433.1).f0,(rd_T42 bt428.1 bt433.1).f1,(rd_T42 bt428.1 bt433.1).f2⟩:S42)]),bt436.2.1,bt436.2.2)) else(none)) else(none)) else(none)) else(if bt436.1=2 then(if 0≤bt433.1 then(if bt433.1<(bt428.1.length:Int) then(if bt428.1.length<5864062014805 then(some ((bt428.1 ++ [(⟨(rd_T42 bt428.1 bt433.1).f0,(rd_T42 bt428.1 bt433.1).f2,wrap64 (((rd_T42 bt428.1 bt433.1).f2)+2)⟩:S42)]),bt436.2.1,bt436.2.2)) else(none)) else(none)) else(none)) else(if bt436.1=3 then(spec_l1Cur_anySheet.l0 k ([]:List (S42)) s0_0 bt436.2.1 bt436.2.2) else(some (bt428.1,bt436.2.1,bt436.2.2)))))))) else(some (bt428.1,bt428.2.1,bt428.2.2))))=some (r1,r2,r3):=h
 clear h
 obtain⟨⟨t428,t431,t432⟩,A2,H⟩:=bo_ H
 try dsimp only at H
 by_cases c3:(t428.length:Int)>0
 ·rw[if_pos c3]at H
  have c3b0:decide (0<(t428.length:Int))=true:=decide_eq_true c3
  have c3b1:decide (0<t428.length)=true:=decide_eq_true (by omega)
  clear c3
  obtain⟨⟨t433,t434,t435⟩,A4,H⟩:=bo_ H
  try dsimp only at H
  obtain⟨⟨t436,t437,t438⟩,A5,H⟩:=bo_ H
  try dsimp only at H
  by_cases c6:t436=0
  ·rw[if_pos c6]at H
   have c6b0:(t436 == 0)=true:=beq_iff_eq.mpr c6
   have c6b1:(t436 != 0)=false:=bne_eq_false_iff_eq.mpr c6
   clear c6
   obtain⟨⟨t439,t440,t441,t442,t443⟩,A7,H⟩:=bo_ H
   try dsimp only at H
   by_cases c8:0≤t433
   ·rw[if_pos c8]at H
    have c8b0:decide (0≤t433)=true:=decide_eq_true c8
    clear c8
    by_cases c9:t433<(t428.length:Int)
    ·rw[if_pos c9]at H
     have c9b0:decide (t433<(t428.length:Int))=true:=decide_eq_true c9
     clear c9
     obtain⟨y444,hy444⟩:∃y_:List (S42),y_=(t428.set (t433:Int).toNat (⟨t439,t440,t441⟩:S42)):=⟨_,rfl⟩
     replace H:(some (y444,t442,t443))=some (r1,r2,r3):=by first|(rw[hy444];with_reducible exact H)|(have H2_:=(Option.bind_some _ _).symm.trans H;rw[hy444];with_reducible exact H2_)|(have H2_:=(Option.bind_some _ _).symm.trans H;with_reducible exact H2_) | with_reducible exact H|(rw[hy444];exact H)|exact H
     have Ny444:=am_ hy444
     clear hy444
     simp only[Option.some.injEq,Prod.mk.injEq]at H
     obtain⟨rfl,rfl,rfl⟩:=H
     go_enter Try.func54,Try.ntmps54
     go_wp2_with (first|((with_reducible refine gate_callee (f:=98) rfl ?_);refine goesL_ (some 6) rfl rfl Try.func98 (by kernel_rfl) rfl #[.pointer (some ⟨g,0,none⟩)] rfl gd_ ?_;(with_reducible refine(spec_l1Cur_sheet.calls k g s0_0 s0_1 s0_2 t428 t431 t432 w0 _ ?side1 ?side2 A2.out).mono ?_);(case side1=>exact(a5_ HI0.out));(case side2=>exact(a7_ HI0.out));rintro e w11 ⟨v429,rfl,ho0,hi,hb,hk⟩;refine⟨_,rfl,?_⟩;have HO430:=am_ (Kd.R_lower ho0 (keep_size (w:=w) (g:=g) (row:=none) (a6_)));replace HK:=am_ (KeepBut.trans (a6_) hk (.inl rfl));replace HB:=am_ (hb);replace HI0:=am_ (hi);(try clear hb);(try clear hb2);(try clear hk);(try clear hi);(try clear ho0);obtain⟨Ao12,co12,eo12⟩:=Kd.R_slice HO430.out;subst eo12)|((with_reducible refine gate_callee (f:=55) rfl ?_);refine goesL_ (some 13) rfl rfl Try.func55 (by kernel_rfl) rfl #[.pointer (some ⟨g,0,none⟩), .int .i64 (t428.length:Int)] rfl gd_ ?_;(with_reducible refine(spec_l1Cur_pick.calls g s0_0 t431 t432 (t428.length:Int) t433 t434 t435 w0 _ ?side1 ?side2 A4.out).mono ?_);(case side1=>exact(a5_ HI0.out));(case side2=>exact(a7_ HI0.out));rintro e w13 ⟨rfl,hi,hb,hk⟩;refine⟨_,rfl,?_⟩;replace HO430:=am_ (Kd.R_mono (Kd.R_keep (IsS76.apart (show IsS76 w0 _ g s0_0 t431 t432 from(a5_ HI0.out)) ((a0_ HO430.out)) (by decide)) hk (fun _ h=>h.2)) (fun _ h=>h.1));replace HK:=am_ (KeepBut.trans (a6_) hk (.inl rfl));replace HB:=am_ (hb);replace HI0:=am_ (hi);(try clear hb);(try clear hb2);(try clear hk);(try clear hi))|((with_reducible refine gate_callee (f:=55) rfl ?_);refine goesL_ (some 15) rfl rfl Try.func55 (by kernel_rfl) rfl #[.pointer (some ⟨g,0,none⟩), .int .i64 30] rfl gd_ ?_;(with_reducible refine(spec_l1Cur_pick.calls g s0_0 t434 t435 30 t436 t437 t438 w0 _ ?side1 ?side2 A5.out).mono ?_);(case side1=>exact(a5_ HI0.out));(case side2=>exact(a7_ HI0.out));rintro e w14 ⟨rfl,hi,hb,hk⟩;refine⟨_,rfl,?_⟩;replace HO430:=am_ (Kd.R_mono (Kd.R_keep (IsS76.apart (show IsS76 w0 _ g s0_0 t434 t435 from(a5_ HI0.out)) ((a0_ HO430.out)) (by decide)) hk (fun _ h=>h.2)) (fun _ h=>h.1));replace HK:=am_ (KeepBut.trans (a6_) hk (.inl rfl));replace HB:=am_ (hb);replace HI0:=am_ (hi);(try clear hb);(try clear hb2);(try clear hk);(try clear hi))|((with_reducible refine gate_callee (f:=71) rfl ?_);refine goesL_ (some 21) rfl rfl Try.func71 (by kernel_rfl) rfl #[.pointer (some ⟨g,0,none⟩)] rfl gd_ ?_;(with_reducible refine(spec_l1Cur_anyHole.calls g s0_0 t437 t438 t439 t440 t441 t442 t443 w0 _ ?side1 ?side2 A7.out).mono ?_);(case side1=>exact(a5_ HI0.out));(case side2=>exact(a7_ HI0.out));rintro e w15 ⟨rfl,hi,hb,hk⟩;refine⟨_,rfl,?_⟩;replace HO430:=am_ (Kd.R_mono (Kd.R_keep (IsS76.apart (show IsS76 w0 _ g s0_0 t437 t438 from(a5_ HI0.out)) ((a0_ HO430.out)) (by decide)) hk (fun _ h=>h.2)) (fun _ h=>h.1));replace HK:=am_ (KeepBut.trans (a6_) hk (.inl rfl));replace HB:=am_ (hb);replace HI0:=am_ (hi);(try clear hb);(try clear hb2);(try clear hk);(try clear hi);have p10:0≤(t433:Int):=of_decide_eq_true (a13_);have q10:(t433:Int)<((t428.length:Int):Int):=of_decide_eq_true (a13_);obtain⟨go10,co10,eo10,gb10,gl10,cl10,HG10⟩:=Kd.R_form HO430.out (by omega);(first|cases eo10|(injection eo10 with ea_ en_ ec_;(first|subst ea_|(injection ea_ with ea_;subst ea_));subst ec_;clear en_));have GB10:=am_ gb10;have GG10:=am_ HG10;clear gb10 gl10 HG10;obtain⟨ce10,hcl10,hM10,hcc10,hfr10⟩:=Kd.R_elem HO430.out z42 (t433:Int) p10 q10;obtain rfl:=k42_openM hM10;have hx10_0:w15.cell? ⟨go10,(t433:Int).toNat*3,none⟩=some (.int .i64 ((rd_T42 t428 t433).f0)):=hcc10 0 _ rfl;have hx10_1:w15.cell? ⟨go10,(t433:Int).toNat*3+1,none⟩=some (.int .i64 ((rd_T42 t428 t433).f1)):=hcc10 1 _ rfl;have hx10_2:w15.cell? ⟨go10,(t433:Int).toNat*3+2,none⟩=some (.int .i64 ((rd_T42 t428 t433).f2)):=hcc10 2 _ rfl;have hf10_0:w15.frozen? ⟨go10,(t433:Int).toNat*3,none⟩=false:=hfr10 0;have hf10_1:w15.frozen? ⟨go10,(t433:Int).toNat*3+1,none⟩=false:=hfr10 1;have hf10_2:w15.frozen? ⟨go10,(t433:Int).toNat*3+2,none⟩=false:=hfr10 2;clear hcl10 hcc10 hfr10;(try clear hM10);replace p10:=eq_true p10;replace q10:=eq_true q10;have HX16:=am_ (show Kd.R k42 42 w15 w.heap.size (fun _=>True) (.slice (some ⟨go10,0,none⟩) t428.length co12) t428 from((a0_ HO430.out)));obtain⟨ce16,hcl16,hM16,hcc16,hfr16⟩:=Kd.R_elem HX16.out z42 (t433:Int) (of_decide_eq_true (a13_)) (by have h_:(t433:Int)<((t428.length:Int):Int):=of_decide_eq_true (a13_);first|exact h_|(have e_:=(Kd.R_reads' HO430.out).1;omega) | simpa using h_);obtain rfl:=k42_openM hM16;have HP16:=Kd.R_seg HX16.out (t433:Int) (of_decide_eq_true (a13_)) (by have h_:(t433:Int)<((t428.length:Int):Int):=of_decide_eq_true (a13_);first|exact h_|(have e_:=(Kd.R_reads' HO430.out).1;omega) | simpa using h_) (seg:=[.int .i64 t439, .int .i64 t440, .int .i64 t441]) (j:=0) hcl16 hcc16 (show 3≤3 from by decide) (x':=(⟨t439,t440,t441⟩:S42)) (k42_mkM _ _ _ (⟨t439,t440,t441⟩:S42) ) (fun _ hk=>hk);have hx16_0:=hcc16 0 _ rfl;(try simp only[show(k42).sz=3 from rfl,Nat.mul_one,Nat.add_zero]at hx16_0);have hf16_0:=hfr16 0;(try simp only[show(k42).sz=3 from rfl,Nat.mul_one,Nat.add_zero]at hf16_0);have hx16_1:=hcc16 1 _ rfl;(try simp only[show(k42).sz=3 from rfl,Nat.mul_one,Nat.add_zero]at hx16_1);have hf16_1:=hfr16 1;(try simp only[show(k42).sz=3 from rfl,Nat.mul_one,Nat.add_zero]at hf16_1);have hx16_2:=hcc16 2 _ rfl;(try simp only[show(k42).sz=3 from rfl,Nat.mul_one,Nat.add_zero]at hx16_2);have hf16_2:=hfr16 2;(try simp only[show(k42).sz=3 from rfl,Nat.mul_one,Nat.add_zero]at hf16_2);clear hcl16 hcc16 hfr16;(try clear hM16))|((with_reducible refine gate_store (t:=42) (p:=22) rfl ?_);refine store_event (t:=42) (p:=22) (v:=?vo_w17) (w1:=(((w15.setCell ⟨go10,(t433:Int).toNat*3,none⟩ (.int .i64 t439)).setCell ⟨go10,(t433:Int).toNat*3+1,none⟩ (.int .i64 t440)).setCell ⟨go10,(t433:Int).toNat*3+2,none⟩ (.int .i64 t441))) ?hg ?ho ?hn ?hr ?_;(case ho=>rfl);(case hg=>rfl);(case hn=>rfl);(case hr=>exact hr_);intro w17 hw;have hg:w15.grownBy w17 (some go10):=(by rw[hw];exact HP16.2);have hp_:Kd.R k42 42 w17 w.heap.size (fun _=>True) (.slice (some ⟨go10,0,none⟩) t428.length co12) y444:=(by rw[hw,Ny444.out];exact HP16.1);clear HP16;replace HI0:=am_ (IsS76.grown ((a5_ HI0.out)) hg (IsS76.own_ne HI0.out HO430.out (by decide)));replace HB:=am_ ((by rw[hw];exact below_set (below_set (below_set (HB.out) (Nat.le_trans HL.out GB10.out)) (Nat.le_trans HL.out GB10.out)) (Nat.le_trans HL.out GB10.out):Below w0.heap.size w0 w17));replace HK:=am_ (KeepBut.trans (a6_) (KeepBut.of_grown hg g) (Kd.R_base2 HO430.out));replace HO430:=am_ (hp_);clear hg hw hp_))
     go_ret
     exact⟨_,a12_,(a0_ HO430.out),(a5_ HI0.out),(a7_ HI0.out),a6_⟩
    ·rw[if_neg c9]at H
     exact absurd H (by simp)
   ·rw[if_neg c8]at H
    exact absurd H (by simp)
  ·rw[if_neg c6]at H
   have c6b0:(t436 == 0)=false:=beq_eq_false_iff_ne.mpr c6
   have c6b1:(t436 != 0)=true:=bne_iff_ne.mpr c6
   by_cases c18:t436=1
   ·rw[if_pos c18]at H
    have c18b0:(t436 == 1)=true:=beq_iff_eq.mpr c18
    have c18b1:(t436 != 1)=false:=bne_eq_false_iff_eq.mpr c18
    clear c18
    by_cases c19:0≤t433
    ·rw[if_pos c19]at H
     have c19b0:decide (0≤t433)=true:=decide_eq_true c19
     clear c19
     by_cases c20:t433<(t428.length:Int)
     ·rw[if_pos c20]at H
      have c20b0:decide (t433<(t428.length:Int))=true:=decide_eq_true c20
      clear c20
      by_cases c21:t428.length<5864062014805
      ·rw[if_pos c21]at H
       have LMc21:=am_ c21
       clear c21
       obtain⟨y446,hy446⟩:∃y_:List (S42),y_=(t428 ++ [(⟨(rd_T42 t428 t433).f0,(rd_T42 t428 t433).f1,(rd_T42 t428 t433).f2⟩:S42)]):=⟨_,rfl⟩
       replace H:(some (y446,t437,t438))=some (r1,r2,r3):=by first|(rw[hy446];with_reducible exact H)|(have H2_:=(Option.bind_some _ _).symm.trans H;rw[hy446];with_reducible exact H2_)|(have H2_:=(Option.bind_some _ _).symm.trans H;with_reducible exact H2_) | with_reducible exact H|(rw[hy446];exact H)|exact H
       have Ny446:=am_ hy446
       clear hy446
       simp only[Option.some.injEq,Prod.mk.injEq]at H
       obtain⟨rfl,rfl,rfl⟩:=H
       go_enter Try.func54,Try.ntmps54
       go_wp2_with (first|((with_reducible refine gate_callee (f:=98) rfl ?_);refine goesL_ (some 6) rfl rfl Try.func98 (by kernel_rfl) rfl #[.pointer (some ⟨g,0,none⟩)] rfl gd_ ?_;(with_reducible refine(spec_l1Cur_sheet.calls k g s0_0 s0_1 s0_2 t428 t431 t432 w0 _ ?side1 ?side2 A2.out).mono ?_);(case side1=>exact(a5_ HI0.out));(case side2=>exact(a7_ HI0.out));rintro e w22 ⟨v429,rfl,ho0,hi,hb,hk⟩;refine⟨_,rfl,?_⟩;have HO430:=am_ (Kd.R_lower ho0 (keep_size (w:=w) (g:=g) (row:=none) (a6_)));replace HK:=am_ (KeepBut.trans (a6_) hk (.inl rfl));replace HB:=am_ (hb);replace HI0:=am_ (hi);(try clear hb);(try clear hb2);(try clear hk);(try clear hi);(try clear ho0);obtain⟨Ao23,co23,eo23⟩:=Kd.R_slice HO430.out;subst eo23)|((with_reducible refine gate_callee (f:=55) rfl ?_);refine goesL_ (some 13) rfl rfl Try.func55 (by kernel_rfl) rfl #[.pointer (some ⟨g,0,none⟩), .int .i64 (t428.length:Int)] rfl gd_ ?_;(with_reducible refine(spec_l1Cur_pick.calls g s0_0 t431 t432 (t428.length:Int) t433 t434 t435 w0 _ ?side1 ?side2 A4.out).mono ?_);(case side1=>exact(a5_ HI0.out));(case side2=>exact(a7_ HI0.out));rintro e w24 ⟨rfl,hi,hb,hk⟩;refine⟨_,rfl,?_⟩;replace HO430:=am_ (Kd.R_mono (Kd.R_keep (IsS76.apart (show IsS76 w0 _ g s0_0 t431 t432 from(a5_ HI0.out)) ((a0_ HO430.out)) (by decide)) hk (fun _ h=>h.2)) (fun _ h=>h.1));replace HK:=am_ (KeepBut.trans (a6_) hk (.inl rfl));replace HB:=am_ (hb);replace HI0:=am_ (hi);(try clear hb);(try clear hb2);(try clear hk);(try clear hi))|((with_reducible refine gate_callee (f:=55) rfl ?_);refine goesL_ (some 15) rfl rfl Try.func55 (by kernel_rfl) rfl #[.pointer (some ⟨g,0,none⟩), .int .i64 30] rfl gd_ ?_;(with_reducible refine(spec_l1Cur_pick.calls g s0_0 t434 t435 30 t436 t437 t438 w0 _ ?side1 ?side2 A5.out).mono ?_);(case side1=>exact(a5_ HI0.out));(case side2=>exact(a7_ HI0.out));rintro e w25 ⟨rfl,hi,hb,hk⟩;refine⟨_,rfl,?_⟩;replace HO430:=am_ (Kd.R_mono (Kd.R_keep (IsS76.apart (show IsS76 w0 _ g s0_0 t434 t435 from(a5_ HI0.out)) ((a0_ HO430.out)) (by decide)) hk (fun _ h=>h.2)) (fun _ h=>h.1));replace HK:=am_ (KeepBut.trans (a6_) hk (.inl rfl));replace HB:=am_ (hb);replace HI0:=am_ (hi);(try clear hb);(try clear hb2);(try clear hk);(try clear hi);have p445:0≤(t433:Int):=of_decide_eq_true (a13_);have q445:t433<(t428.length:Int):=of_decide_eq_true (a13_);obtain⟨ad445,e445,hx445_0,hx445_1,hx445_2⟩:=at_T42 (Kd.R_reads' HO430.out).2.2 t433 p445 q445;cases e445;replace p445:=eq_true p445;replace q445:=eq_true q445)|((with_reducible refine gate_builtin (b:= .append) (xs:= #[.tmp 25, .tmp 30]) rfl ?_);at_builtin;refine Kd.R_append k42 w.heap.size rfl (.tmp 25) (.tmp 30) 32 42 (.agg #[(.int .i64 0),(.int .i64 0),(.int .i64 0)]) 24 rfl Try.underlying32 info42 rfl (by decide) (by omega) (.slice (some ad445) t428.length co23) t428 (⟨(rd_T42 t428 t433).f0,(rd_T42 t428 t433).f1,(rd_T42 t428 t433).f2⟩:S42) [.int .i64 ((rd_T42 t428 t433).f0), .int .i64 ((rd_T42 t428 t433).f1), .int .i64 ((rd_T42 t428 t433).f2)] (fun _=>True) (fun _=>False) rfl rfl ?aP (fun _ hk=>hk.elim) ?aF ?aO (Below.refl _ _) ?aS ?aL ?_;(case aP=>exact k42_mkM _ _ _ (⟨(rd_T42 t428 t433).f0,(rd_T42 t428 t433).f1,(rd_T42 t428 t433).f2⟩:S42));(case aF=>exact(fun _ _=>trivial));(case aO=>exact((a0_ HO430.out)));(case aS=>exact(keep_size (w:=w) (g:=g) (row:=none) (a6_)));(case aL=>have:=LMc21.out;omega);intro v447 w26 ho hb hg hat;rw[← Ny446.out]at ho;have n0_:=am_ (IsS76.grown ((a5_ HI0.out)) hg (IsS76.own_ne HI0.out HO430.out (by decide)));have n1_:=am_ (below_weaken ((a7_ HI0.out)) HL.out hb);have n2_:=am_ (KeepBut.trans (a6_) (KeepBut.of_grown hg g) (Kd.R_base2 HO430.out));have n3_:=am_ (ho);clear HI0 HB HK HO430;have HI0:=n0_;have HB:=n1_;have HK:=n2_;have HO448:=n3_;clear n0_ n1_ n2_ n3_ ho hb hg hat))
       go_ret
       exact⟨_,a12_,(a0_ HO448.out),(a5_ HI0.out),(a7_ HI0.out),a6_⟩
      ·rw[if_neg c21]at H
       exact absurd H (by simp)
     ·rw[if_neg c20]at H
      exact absurd H (by simp)
    ·rw[if_neg c19]at H
     exact absurd H (by simp)
   ·rw[if_neg c18]at H
    have c18b0:(t436 == 1)=false:=beq_eq_false_iff_ne.mpr c18
    have c18b1:(t436 != 1)=true:=bne_iff_ne.mpr c18
    by_cases c27:t436=2
    ·rw[if_pos c27]at H
     have c27b0:(t436 == 2)=true:=beq_iff_eq.mpr c27
     have c27b1:(t436 != 2)=false:=bne_eq_false_iff_eq.mpr c27
     clear c27
     by_cases c28:0≤t433
     ·rw[if_pos c28]at H
      have c28b0:decide (0≤t433)=true:=decide_eq_true c28
      clear c28
      by_cases c29:t433<(t428.length:Int)
      ·rw[if_pos c29]at H
       have c29b0:decide (t433<(t428.length:Int))=true:=decide_eq_true c29
       clear c29
       by_cases c30:t428.length<5864062014805
       ·rw[if_pos c30]at H
        have LMc30:=am_ c30
        clear c30
        obtain⟨y452,hy452⟩:∃y_:List (S42),y_=(t428 ++ [(⟨(rd_T42 t428 t433).f0,(rd_T42 t428 t433).f2,wrap64 (((rd_T42 t428 t433).f2)+2)⟩:S42)]):=⟨_,rfl⟩
        replace H:(some (y452,t437,t438))=some (r1,r2,r3):=by first|(rw[hy452];with_reducible exact H)|(have H2_:=(Option.bind_some _ _).symm.trans H;rw[hy452];with_reducible exact H2_)|(have H2_:=(Option.bind_some _ _).symm.trans H;with_reducible exact H2_) | with_reducible exact H|(rw[hy452];exact H)|exact H
        have Ny452:=am_ hy452
        clear hy452
        simp only[Option.some.injEq,Prod.mk.injEq]at H
        obtain⟨rfl,rfl,rfl⟩:=H
        go_enter Try.func54,Try.ntmps54
        try go_wp2_with (first|((with_reducible refine gate_callee (f:=98) rfl ?_);refine goesL_ (some 6) rfl rfl Try.func98 (by kernel_rfl) rfl #[.pointer (some ⟨g,0,none⟩)] rfl gd_ ?_;(with_reducible refine(spec_l1Cur_sheet.calls k g s0_0 s0_1 s0_2 t428 t431 t432 w0 _ ?side1 ?side2 A2.out).mono ?_);(case side1=>exact(a5_ HI0.out));(case side2=>exact(a7_ HI0.out));rintro e w31 ⟨v429,rfl,ho0,hi,hb,hk⟩;refine⟨_,rfl,?_⟩;have HO430:=am_ (Kd.R_lower ho0 (keep_size (w:=w) (g:=g) (row:=none) (a6_)));replace HK:=am_ (KeepBut.trans (a6_) hk (.inl rfl));replace HB:=am_ (hb);replace HI0:=am_ (hi);(try clear hb);(try clear hb2);(try clear hk);(try clear hi);(try clear ho0);obtain⟨Ao32,co32,eo32⟩:=Kd.R_slice HO430.out;subst eo32)|((with_reducible refine gate_callee (f:=55) rfl ?_);refine goesL_ (some 13) rfl rfl Try.func55 (by kernel_rfl) rfl #[.pointer (some ⟨g,0,none⟩), .int .i64 (t428.length:Int)] rfl gd_ ?_;(with_reducible refine(spec_l1Cur_pick.calls g s0_0 t431 t432 (t428.length:Int) t433 t434 t435 w0 _ ?side1 ?side2 A4.out).mono ?_);(case side1=>exact(a5_ HI0.out));(case side2=>exact(a7_ HI0.out));rintro e w33 ⟨rfl,hi,hb,hk⟩;refine⟨_,rfl,?_⟩;replace HO430:=am_ (Kd.R_mono (Kd.R_keep (IsS76.apart (show IsS76 w0 _ g s0_0 t431 t432 from(a5_ HI0.out)) ((a0_ HO430.out)) (by decide)) hk (fun _ h=>h.2)) (fun _ h=>h.1));replace HK:=am_ (KeepBut.trans (a6_) hk (.inl rfl));replace HB:=am_ (hb);replace HI0:=am_ (hi);(try clear hb);(try clear hb2);(try clear hk);(try clear hi))|((with_reducible refine gate_callee (f:=55) rfl ?_);refine goesL_ (some 15) rfl rfl Try.func55 (by kernel_rfl) rfl #[.pointer (some ⟨g,0,none⟩), .int .i64 30] rfl gd_ ?_;(with_reducible refine(spec_l1Cur_pick.calls g s0_0 t434 t435 30 t436 t437 t438 w0 _ ?side1 ?side2 A5.out).mono ?_);(case side1=>exact(a5_ HI0.out));(case side2=>exact(a7_ HI0.out));rintro e w34 ⟨rfl,hi,hb,hk⟩;refine⟨_,rfl,?_⟩;replace HO430:=am_ (Kd.R_mono (Kd.R_keep (IsS76.apart (show IsS76 w0 _ g s0_0 t434 t435 from(a5_ HI0.out)) ((a0_ HO430.out)) (by decide)) hk (fun _ h=>h.2)) (fun _ h=>h.1));replace HK:=am_ (KeepBut.trans (a6_) hk (.inl rfl));replace HB:=am_ (hb);replace HI0:=am_ (hi);(try clear hb);(try clear hb2);(try clear hk);(try clear hi)))
        replace HO430:=am_ (Kd.R_drew HO430.out)
        replace HI0:=am_ (IsS76.drew HI0.out)
        replace HK:=am_ (keep_drew HK.out)
        replace HB:=am_ (below_drew1 HB.out)
        have p449:0≤(t433:Int):=of_decide_eq_true (a13_)
        have q449:t433<(t428.length:Int):=of_decide_eq_true (a13_)
        obtain⟨ad449,e449,hx449_0,hx449_1,hx449_2⟩:=at_T42 (Kd.R_reads' HO430.out).2.2 t433 p449 q449
        cases e449
        replace p449:=eq_true p449
        replace q449:=eq_true q449
        have p450:0≤(t433:Int):=of_decide_eq_true (a13_)
        have q450:t433<(t428.length:Int):=of_decide_eq_true (a13_)
        obtain⟨ad450,e450,hx450_0,hx450_1,hx450_2⟩:=at_T42 (Kd.R_reads' HO430.out).2.2 t433 p450 q450
        obtain rfl:ad449=ad450:=(by injection e450)
        replace p450:=eq_true p450
        replace q450:=eq_true q450
        have p451:0≤(t433:Int):=of_decide_eq_true (a13_)
        have q451:t433<(t428.length:Int):=of_decide_eq_true (a13_)
        obtain⟨ad451,e451,hx451_0,hx451_1,hx451_2⟩:=at_T42 (Kd.R_reads' HO430.out).2.2 t433 p451 q451
        obtain rfl:ad449=ad451:=(by injection e451)
        replace p451:=eq_true p451
        replace q451:=eq_true q451
        refine start_ (n:=21) (S:=fun w'=>w'.cell? (ad449.add ((t433).toNat*3))=some (.int .i64 ((rd_T42 t428 t433).f0))∧w'.cell? ⟨(ad449.add ((t433).toNat*3)).block,(ad449.add ((t433).toNat*3)).off+1,none⟩=some (.int .i64 ((rd_T42 t428 t433).f1))∧w'.cell? ⟨(ad449.add ((t433).toNat*3)).block,(ad449.add ((t433).toNat*3)).off+2,none⟩=some (.int .i64 ((rd_T42 t428 t433).f2))∧w'.cell? (ad449.add ((t433).toNat*3))=some (.int .i64 ((rd_T42 t428 t433).f0))∧w'.cell? ⟨(ad449.add ((t433).toNat*3)).block,(ad449.add ((t433).toNat*3)).off+1,none⟩=some (.int .i64 ((rd_T42 t428 t433).f1))∧w'.cell? ⟨(ad449.add ((t433).toNat*3)).block,(ad449.add ((t433).toNat*3)).off+2,none⟩=some (.int .i64 ((rd_T42 t428 t433).f2))∧w'.cell? (ad449.add ((t433).toNat*3))=some (.int .i64 ((rd_T42 t428 t433).f0))∧w'.cell? ⟨(ad449.add ((t433).toNat*3)).block,(ad449.add ((t433).toNat*3)).off+1,none⟩=some (.int .i64 ((rd_T42 t428 t433).f1))∧w'.cell? ⟨(ad449.add ((t433).toNat*3)).block,(ad449.add ((t433).toNat*3)).off+2,none⟩=some (.int .i64 ((rd_T42 t428 t433).f2))) (ds:=[18,19]) #[false,false,false,false,false,false,false,false,false,false,false,false,false,false,false,false,false,false,false,false,false] (by kernel_rfl) rfl rfl ⟨hx449_0,hx449_1,hx449_2,hx450_0,hx450_1,hx450_2,hx451_0,hx451_1,hx451_2⟩ (fun hHeld=>?_);refine with_tabW spec_l1Cur_anySheet.tab10 spec_l1Cur_anySheet.bits10 (fun HT_ HW_=>?_)
        generalize w34.drew=w35 at HO430 HI0 HK HB hx449_0 hx449_1 hx449_2 hx450_0 hx450_1 hx450_2 hx451_0 hx451_1 hx451_2 hHeld ⊢
        refine pure_ (i:=0) (N:=some 34) (v:=?_) (a':=?_) #[true,false,false,false,false,false,false,false,false,false,false,false,false,false,false,false,false,false,false,false,false] rfl rfl (any_of HT_.out (by kernel_rfl)) (fun _ _ _ h=>h) (Or.inl ⟨by rfl,?_⟩) ?_ ?_
        rotate_left
        ·intro w'
         go_simp
         with_reducible rfl
        rotate_left
        ·simp only[Act.put,pu_]
         rfl
        refine pure_ (i:=1) (N:=some 35) (v:=?_) (a':=?_) #[true,true,false,false,false,false,false,false,false,false,false,false,false,false,false,false,false,false,false,false,false] rfl rfl (any_of HT_.out (by kernel_rfl)) (fun _ _ _ h=>h) (Or.inl ⟨by rfl,?_⟩) ?_ ?_
        rotate_left
        ·intro w'
         go_simp
         with_reducible rfl
        rotate_left
        ·simp only[Act.put,pu_]
         rfl
        refine pure_ (i:=2) (N:=some 36) (v:=?_) (a':=?_) #[true,true,true,false,false,false,false,false,false,false,false,false,false,false,false,false,false,false,false,false,false] rfl rfl (any_of HT_.out (by kernel_rfl)) (fun _ _ _ h=>h) (Or.inl ⟨by rfl,?_⟩) ?_ ?_
        rotate_left
        ·intro w'
         go_simp
         with_reducible rfl
        rotate_left
        ·simp only[Act.put,pu_]
         rfl
        refine pure_ (i:=3) (N:=some 37) (v:=?_) (a':=?_) #[true,true,true,true,false,false,false,false,false,false,false,false,false,false,false,false,false,false,false,false,false] rfl rfl (any_of HT_.out (by kernel_rfl)) (fun _ _ _ h=>h) (Or.inl ⟨by rfl,?_⟩) ?_ ?_
        rotate_left
        ·intro w'
         go_simp
         with_reducible rfl
        rotate_left
        ·simp only[Act.put,pu_]
         rfl
        refine pure_ (i:=4) (N:=some 38) (v:=?_) (a':=?_) #[true,true,true,true,true,false,false,false,false,false,false,false,false,false,false,false,false,false,false,false,false] rfl rfl (any_of HT_.out (by kernel_rfl)) (fun _ _ _ h=>h) (Or.inl ⟨by rfl,?_⟩) ?_ ?_
        rotate_left
        ·intro w'
         go_simp
         with_reducible rfl
        rotate_left
        ·simp only[Act.put,pu_]
         rfl
        refine pure_ (i:=6) (N:=some 40) (v:=?_) (a':=?_) #[true,true,true,true,true,false,true,false,false,false,false,false,false,false,false,false,false,false,false,false,false] rfl rfl (any_of HT_.out (by kernel_rfl)) (fun _ _ _ h=>h) (Or.inl ⟨by rfl,?_⟩) ?_ ?_
        rotate_left
        ·intro w'
         go_simp
         with_reducible rfl
        rotate_left
        ·simp only[Act.put,pu_]
         rfl
        refine pure_ (i:=7) (N:=some 41) (v:=?_) (a':=?_) #[true,true,true,true,true,false,true,true,false,false,false,false,false,false,false,false,false,false,false,false,false] rfl rfl (any_of HT_.out (by kernel_rfl)) (fun _ _ _ h=>h) (Or.inl ⟨by rfl,?_⟩) ?_ ?_
        rotate_left
        ·intro w'
         go_simp
         with_reducible rfl
        rotate_left
        ·simp only[Act.put,pu_]
         rfl
        refine pure_ (i:=8) (N:=some 42) (v:=?_) (a':=?_) #[true,true,true,true,true,false,true,true,true,false,false,false,false,false,false,false,false,false,false,false,false] rfl rfl (any_of HT_.out (by kernel_rfl)) (fun _ _ _ h=>h) (Or.inl ⟨by rfl,?_⟩) ?_ ?_
        rotate_left
        ·intro w'
         go_simp
         with_reducible rfl
        rotate_left
        ·simp only[Act.put,pu_]
         rfl
        refine pure_ (i:=9) (N:=some 43) (v:=?_) (a':=?_) #[true,true,true,true,true,false,true,true,true,true,false,false,false,false,false,false,false,false,false,false,false] rfl rfl (any_of HT_.out (by kernel_rfl)) (fun _ _ _ h=>h) (Or.inl ⟨by rfl,?_⟩) ?_ ?_
        rotate_left
        ·intro w'
         go_simp
         with_reducible rfl
        rotate_left
        ·simp only[Act.put,pu_]
         rfl
        refine pure_ (i:=11) (N:=some 45) (v:=?_) (a':=?_) #[true,true,true,true,true,false,true,true,true,true,false,true,false,false,false,false,false,false,false,false,false] rfl rfl (any_of HT_.out (by kernel_rfl)) (fun _ _ _ h=>h) (Or.inl ⟨by rfl,?_⟩) ?_ ?_
        rotate_left
        ·intro w'
         go_simp
         with_reducible rfl
        rotate_left
        ·simp only[Act.put,pu_]
         rfl
        refine pure_ (i:=12) (N:=some 46) (v:=?_) (a':=?_) #[true,true,true,true,true,false,true,true,true,true,false,true,true,false,false,false,false,false,false,false,false] rfl rfl (any_of HT_.out (by kernel_rfl)) (fun _ _ _ h=>h) (Or.inl ⟨by rfl,?_⟩) ?_ ?_
        rotate_left
        ·intro w'
         go_simp
         with_reducible rfl
        rotate_left
        ·simp only[Act.put,pu_]
         rfl
        refine pure_ (i:=13) (N:=some 47) (v:=?_) (a':=?_) #[true,true,true,true,true,false,true,true,true,true,false,true,true,true,false,false,false,false,false,false,false] rfl rfl (any_of HT_.out (by kernel_rfl)) (fun _ _ _ h=>h) (Or.inl ⟨by rfl,?_⟩) ?_ ?_
        rotate_left
        ·intro w'
         go_simp
         with_reducible rfl
        rotate_left
        ·simp only[Act.put,pu_]
         rfl
        refine pure_ (i:=14) (N:=some 48) (v:=?_) (a':=?_) #[true,true,true,true,true,false,true,true,true,true,false,true,true,true,true,false,false,false,false,false,false] rfl rfl (any_of HT_.out (by kernel_rfl)) (fun _ _ _ h=>h) (Or.inl ⟨by rfl,?_⟩) ?_ ?_
        rotate_left
        ·intro w'
         go_simp
         with_reducible rfl
        rotate_left
        ·simp only[Act.put,pu_]
         rfl
        refine take_ (i:=5) (N:=some 39) (v:=?_) (a':=?_) #[true,true,true,true,true,true,true,true,true,true,false,true,true,true,true,false,false,false,false,false,false] rfl rfl (take_ofW HT_.out HW_.out (by kernel_rfl)) (fun _ _ _ h=>h) (Or.inl ⟨by rfl,?_⟩) hHeld ?_ ?_
        rotate_left
        ·rintro w' ⟨s0,s1,s2,s3,s4,s5,s6,s7,s8⟩
         go_simp
         with_reducible rfl
        rotate_left
        ·simp only[Act.put,pu_]
         rfl
        refine take_ (i:=10) (N:=some 44) (v:=?_) (a':=?_) #[true,true,true,true,true,true,true,true,true,true,true,true,true,true,true,false,false,false,false,false,false] rfl rfl (take_ofW HT_.out HW_.out (by kernel_rfl)) (fun _ _ _ h=>h) (Or.inl ⟨by rfl,?_⟩) hHeld ?_ ?_
        rotate_left
        ·rintro w' ⟨s0,s1,s2,s3,s4,s5,s6,s7,s8⟩
         go_simp
         with_reducible rfl
        rotate_left
        ·simp only[Act.put,pu_]
         rfl
        refine take_ (i:=15) (N:=some 49) (v:=?_) (a':=?_) #[true,true,true,true,true,true,true,true,true,true,true,true,true,true,true,true,false,false,false,false,false] rfl rfl (take_ofW HT_.out HW_.out (by kernel_rfl)) (fun _ _ _ h=>h) (Or.inl ⟨by rfl,?_⟩) hHeld ?_ ?_
        rotate_left
        ·rintro w' ⟨s0,s1,s2,s3,s4,s5,s6,s7,s8⟩
         go_simp
         with_reducible rfl
        rotate_left
        ·simp only[Act.put,pu_]
         rfl
        refine pure_ (i:=16) (N:=some 50) (v:=?_) (a':=?_) #[true,true,true,true,true,true,true,true,true,true,true,true,true,true,true,true,true,false,false,false,false] rfl rfl (any_of HT_.out (by kernel_rfl)) (fun _ _ _ h=>h) (Or.inl ⟨by rfl,?_⟩) ?_ ?_
        rotate_left
        ·intro w'
         go_simp
         with_reducible rfl
        rotate_left
        ·simp only[Act.put,pu_]
         rfl
        refine pure_ (i:=17) (N:=some 51) (v:=?_) (a':=?_) #[true,true,true,true,true,true,true,true,true,true,true,true,true,true,true,true,true,true,false,false,false] rfl rfl (any_of HT_.out (by kernel_rfl)) (fun _ _ _ h=>h) (Or.inl ⟨by rfl,?_⟩) ?_ ?_
        rotate_left
        ·intro w'
         go_simp
         with_reducible rfl
        rotate_left
        ·simp only[Act.put,pu_]
         rfl
        refine last_ (i:=18) (N:=some 52) #[true,true,true,true,true,true,true,true,true,true,true,true,true,true,true,true,true,true,true,false,false] rfl rfl (one_of HT_.out (by kernel_rfl)) (by decide) (fun K hK=>?_)
        refine value_ (w1:=?_) (v:=?_) (by rfl) rfl ?_ ?_
        rotate_left 2
        ·go_simp
         constructor
         ·rfl
         ·rfl
        refine hK.out _ _ ?_
        clear hK K
        refine norm_ (a':=?_) ?_ ?_
        rotate_left
        ·show Act.put _ (some 52) _=_
         simp only[Act.put,pu_]
         rfl
        refine last_ (i:=19) (N:=some 53) #[true,true,true,true,true,true,true,true,true,true,true,true,true,true,true,true,true,true,true,true,false] rfl rfl (one_of HT_.out (by kernel_rfl)) (by decide) (fun K hK=>?_)
        refine Kd.R_append_step k42 w.heap.size (by rfl) (.tmp 34) (.tmp 52) 32 42 (.agg #[(.int .i64 0),(.int .i64 0),(.int .i64 0)]) 24 rfl Try.underlying32 info42 rfl (by decide) (by omega) (.slice (some ad449) t428.length co32) t428 (⟨(rd_T42 t428 t433).f0,(rd_T42 t428 t433).f2,wrap64 (((rd_T42 t428 t433).f2)+2)⟩:S42) [.int .i64 ((rd_T42 t428 t433).f0), .int .i64 ((rd_T42 t428 t433).f2), .int .i64 (wrap64 (((rd_T42 t428 t433).f2)+2))] (fun _=>True) (fun _=>False) rfl rfl ?aP (fun _ hk=>hk.elim) ?aF ?aO (Below.refl _ _) ?aS ?aL ?_
        (case aP=>exact k42_mkM _ _ _ (⟨(rd_T42 t428 t433).f0,(rd_T42 t428 t433).f2,wrap64 (((rd_T42 t428 t433).f2)+2)⟩:S42))
        (case aF=>exact(fun _ _=>trivial))
        (case aO=>exact((a0_ HO430.out)))
        (case aS=>exact(keep_size (w:=w) (g:=g) (row:=none) (a6_)))
        (case aL=>have:=LMc30.out;omega)
        intro v453 w36 ho hb hg hat
        rw[← Ny452.out]at ho
        have n0_:=am_ (IsS76.grown ((a5_ HI0.out)) hg (IsS76.own_ne HI0.out HO430.out (by decide)))
        have n1_:=am_ (below_weaken ((a7_ HI0.out)) HL.out hb)
        have n2_:=am_ (KeepBut.trans (a6_) (KeepBut.of_grown hg g) (Kd.R_base2 HO430.out))
        have n3_:=am_ (ho)
        clear HI0 HB HK HO430
        have HI0:=n0_
        have HB:=n1_
        have HK:=n2_
        have HO454:=n3_
        clear n0_ n1_ n2_ n3_ ho hb hg hat
        refine hK.out _ _ ?_
        clear hK K
        refine norm_ (a':=?_) ?_ ?_
        rotate_left
        ·show Act.put _ (some 53) _=_
         simp only[Act.put,pu_]
         rfl
        refine pure_ (i:=20) (N:=some 3) (v:=?_) (a':=?_) #[true,true,true,true,true,true,true,true,true,true,true,true,true,true,true,true,true,true,true,true,true] rfl rfl (any_of HT_.out (by kernel_rfl)) (fun _ _ _ h=>h) (Or.inl ⟨by rfl,?_⟩) ?_ ?_
        rotate_left
        ·intro w'
         go_simp
         with_reducible rfl
        rotate_left
        ·simp only[Act.put,pu_]
         rfl
        refine done_ (done_of HT_.out (by kernel_rfl)) ?_
        try go_wp2
        go_ret
        exact⟨_,a12_,(a0_ HO454.out),(a5_ HI0.out),(a7_ HI0.out),a6_⟩
       ·rw[if_neg c30]at H
        exact absurd H (by simp)
      ·rw[if_neg c29]at H
       exact absurd H (by simp)
     ·rw[if_neg c28]at H
      exact absurd H (by simp)
    ·rw[if_neg c27]at H
     have c27b0:(t436 == 2)=false:=beq_eq_false_iff_ne.mpr c27
     have c27b1:(t436 != 2)=true:=bne_iff_ne.mpr c27
     by_cases c37:t436=3
     ·rw[if_pos c37]at H
      have c37b0:(t436 == 3)=true:=beq_iff_eq.mpr c37
      have c37b1:(t436 != 3)=false:=bne_eq_false_iff_eq.mpr c37
      clear c37
      have H':=am_ H
      clear H
      go_enter Try.func54,Try.ntmps54
      go_wp2_with (first|((with_reducible refine gate_callee (f:=98) rfl ?_);refine goesL_ (some 6) rfl rfl Try.func98 (by kernel_rfl) rfl #[.pointer (some ⟨g,0,none⟩)] rfl gd_ ?_;(with_reducible refine(spec_l1Cur_sheet.calls k g s0_0 s0_1 s0_2 t428 t431 t432 w0 _ ?side1 ?side2 A2.out).mono ?_);(case side1=>exact(a5_ HI0.out));(case side2=>exact(a7_ HI0.out));rintro e w38 ⟨v429,rfl,ho0,hi,hb,hk⟩;refine⟨_,rfl,?_⟩;have HO430:=am_ (Kd.R_lower ho0 (keep_size (w:=w) (g:=g) (row:=none) (a6_)));replace HK:=am_ (KeepBut.trans (a6_) hk (.inl rfl));replace HB:=am_ (hb);replace HI0:=am_ (hi);(try clear hb);(try clear hb2);(try clear hk);(try clear hi);(try clear ho0);obtain⟨Ao39,co39,eo39⟩:=Kd.R_slice HO430.out;subst eo39)|((with_reducible refine gate_callee (f:=55) rfl ?_);refine goesL_ (some 13) rfl rfl Try.func55 (by kernel_rfl) rfl #[.pointer (some ⟨g,0,none⟩), .int .i64 (t428.length:Int)] rfl gd_ ?_;(with_reducible refine(spec_l1Cur_pick.calls g s0_0 t431 t432 (t428.length:Int) t433 t434 t435 w0 _ ?side1 ?side2 A4.out).mono ?_);(case side1=>exact(a5_ HI0.out));(case side2=>exact(a7_ HI0.out));rintro e w40 ⟨rfl,hi,hb,hk⟩;refine⟨_,rfl,?_⟩;replace HO430:=am_ (Kd.R_mono (Kd.R_keep (IsS76.apart (show IsS76 w0 _ g s0_0 t431 t432 from(a5_ HI0.out)) ((a0_ HO430.out)) (by decide)) hk (fun _ h=>h.2)) (fun _ h=>h.1));replace HK:=am_ (KeepBut.trans (a6_) hk (.inl rfl));replace HB:=am_ (hb);replace HI0:=am_ (hi);(try clear hb);(try clear hb2);(try clear hk);(try clear hi))|((with_reducible refine gate_callee (f:=55) rfl ?_);refine goesL_ (some 15) rfl rfl Try.func55 (by kernel_rfl) rfl #[.pointer (some ⟨g,0,none⟩), .int .i64 30] rfl gd_ ?_;(with_reducible refine(spec_l1Cur_pick.calls g s0_0 t434 t435 30 t436 t437 t438 w0 _ ?side1 ?side2 A5.out).mono ?_);(case side1=>exact(a5_ HI0.out));(case side2=>exact(a7_ HI0.out));rintro e w41 ⟨rfl,hi,hb,hk⟩;refine⟨_,rfl,?_⟩;replace HO430:=am_ (Kd.R_mono (Kd.R_keep (IsS76.apart (show IsS76 w0 _ g s0_0 t434 t435 from(a5_ HI0.out)) ((a0_ HO430.out)) (by decide)) hk (fun _ h=>h.2)) (fun _ h=>h.1));replace HK:=am_ (KeepBut.trans (a6_) hk (.inl rfl));replace HB:=am_ (hb);replace HI0:=am_ (hi);(try clear hb);(try clear hb2);(try clear hk);(try clear hi)))
      go_loopg [3] k (fun kq v3 w'=>∃(x3_1:List (S42)),Aside0 (spec_l1Cur_anySheet.l0 kq x3_1 s0_0 t437 t438=some (r1,r2,r3))∧Aside0 (kq≤k)∧Aside0 (Kd.R k42 42 w' w.heap.size (fun _=>True) v3 x3_1)∧Aside0 (IsS76 w0 w' g s0_0 t437 t438)∧Aside0 (KeepBut w w' g none)∧Aside0 (Below w0.heap.size w0 w'))
      case atStart=>exact⟨(([]:List (S42))),H',⟨Nat.le_refl _⟩,⟨a35_⟩,⟨(a5_ HI0.out)⟩,⟨a6_⟩,⟨(a7_ HI0.out)⟩⟩
      case round=>
       clear H'
       try clear c1
       try clear p1
       try clear q1
       try clear hx1
       try clear hf1
       try clear c2
       try clear p2
       try clear c3
       try clear c3b0
       try clear c3b1
       try clear p4
       try clear q4
       try clear hx4
       try clear c5
       try clear c6
       try clear c6b0
       try clear c6b1
       try clear p6
       try clear c7
       try clear c8
       try clear c8b0
       try clear c9
       try clear c9b0
       try clear c10
       try clear p10
       try clear q10
       try clear hx10
       try clear hf10
       try clear c16
       try clear hx16
       try clear hf16
       try clear c18
       try clear c18b0
       try clear c18b1
       try clear c19
       try clear c19b0
       try clear c20
       try clear c20b0
       try clear c21
       try clear c27
       try clear c27b0
       try clear c27b1
       try clear c28
       try clear c28b0
       try clear c29
       try clear c29b0
       try clear c30
       try clear c37
       try clear c37b0
       try clear c37b1
       try clear hx10_0
       try clear hx10_1
       try clear hx10_2
       try clear hx16_0
       try clear hx16_1
       try clear hx16_2
       try clear hx445_0
       try clear hx445_1
       try clear hx445_2
       try clear hx449_0
       try clear hx449_1
       try clear hx449_2
       try clear hx450_0
       try clear hx450_1
       try clear hx450_2
       try clear hx451_0
       try clear hx451_1
       try clear hx451_2
       try clear p10
       try clear p445
       try clear p449
       try clear p450
       try clear p451
       try clear q10
       try clear q445
       try clear q449
       try clear q450
       try clear q451
       obtain⟨x3_1,HA,HK1,HO_3,HI0,HK,HB⟩:=hrel
       cases gk with
       | zero=>exact absurd HA.out (by simp[spec_l1Cur_anySheet.l0])
       | succ k1=>
        have H:=HA.out
        clear HA
        simp only[spec_l1Cur_anySheet.l0]at H
        by_cases c42:(x3_1.length:Int)<61
        ·rw[if_pos c42]at H
         have c42b0:decide ((x3_1.length:Int)<61)=true:=decide_eq_true c42
         have c42b1:decide (x3_1.length<61)=true:=decide_eq_true (by omega)
         clear c42
         by_cases c43:x3_1.length<5864062014805
         ·rw[if_pos c43]at H
          have LMc43:=am_ c43
          clear c43
          obtain⟨y455,hy455⟩:∃y_:List (S42),y_=(x3_1 ++ [(⟨1,wrap64 (3*(x3_1.length:Int)),wrap64 ((wrap64 (3*(x3_1.length:Int)))+1)⟩:S42)]):=⟨_,rfl⟩
          replace H:(spec_l1Cur_anySheet.l0 k1 y455 s0_0 t437 t438)=some (r1,r2,r3):=by first|(rw[hy455];with_reducible exact H)|(have H2_:=(Option.bind_some _ _).symm.trans H;rw[hy455];with_reducible exact H2_)|(have H2_:=(Option.bind_some _ _).symm.trans H;with_reducible exact H2_) | with_reducible exact H|(rw[hy455];exact H)|exact H
          have Ny455:=am_ hy455
          clear hy455
          have H':=am_ H
          clear H
          obtain⟨Ao44,co44,eo44⟩:=Kd.R_slice HO_3.out
          subst eo44
          go_wp2_with (first|((with_reducible refine gate_builtin (b:= .append) (xs:= #[.tmp 59, .tmp 68]) rfl ?_);at_builtin;refine Kd.R_append k42 w.heap.size rfl (.tmp 59) (.tmp 68) 32 42 (.agg #[(.int .i64 0),(.int .i64 0),(.int .i64 0)]) 24 rfl Try.underlying32 info42 rfl (by decide) (by omega) (.slice Ao44 x3_1.length co44) x3_1 (⟨1,wrap64 (3*(x3_1.length:Int)),wrap64 ((wrap64 (3*(x3_1.length:Int)))+1)⟩:S42) [.int .i64 1, .int .i64 (wrap64 (3*(x3_1.length:Int))), .int .i64 (wrap64 ((wrap64 (3*(x3_1.length:Int)))+1))] (fun _=>True) (fun _=>False) rfl rfl ?aP (fun _ hk=>hk.elim) ?aF ?aO (Below.refl _ _) ?aS ?aL ?_;(case aP=>exact k42_mkM _ _ _ (⟨1,wrap64 (3*(x3_1.length:Int)),wrap64 ((wrap64 (3*(x3_1.length:Int)))+1)⟩:S42));(case aF=>exact(fun _ _=>trivial));(case aO=>exact((a0_ HO_3.out)));(case aS=>exact(keep_size (w:=w) (g:=g) (row:=none) (a6_)));(case aL=>have:=LMc43.out;omega);intro v456 w45 ho hb hg hat;rw[← Ny455.out]at ho;have n0_:=am_ (IsS76.grown ((a5_ HI0.out)) hg (IsS76.own_ne HI0.out HO_3.out (by decide)));have n1_:=am_ (below_weaken ((a7_ HI0.out)) HL.out hb);have n2_:=am_ (KeepBut.trans (a6_) (KeepBut.of_grown hg g) (Kd.R_base2 HO_3.out));have n3_:=am_ (ho);clear HI0 HB HK HO_3;have HI0:=n0_;have HB:=n1_;have HK:=n2_;have HO457:=n3_;clear n0_ n1_ n2_ n3_ ho hb hg hat))
          go_roundg k1
          case measure=>have:=HK1.out;omega
          case rel=>exact⟨(y455),H',⟨by have:=HK1.out;omega⟩,⟨(a0_ HO457.out)⟩,⟨(a5_ HI0.out)⟩,⟨a6_⟩,⟨(a7_ HI0.out)⟩⟩
         ·rw[if_neg c43]at H
          exact absurd H (by simp)
        ·rw[if_neg c42]at H
         have c42b0:decide ((x3_1.length:Int)<61)=false:=decide_eq_false c42
         have c42b1:decide (x3_1.length<61)=false:=decide_eq_false (by omega)
         clear c42
         simp only[Option.some.injEq,Prod.mk.injEq]at H
         obtain⟨rfl,rfl,rfl⟩:=H
         obtain⟨Ao46,co46,eo46⟩:=Kd.R_slice HO_3.out
         subst eo46
         go_wp2
         go_ret
         exact⟨_,a12_,(a0_ HO_3.out),(a5_ HI0.out),(a7_ HI0.out),a6_⟩
     ·rw[if_neg c37]at H
      have c37b0:(t436 == 3)=false:=beq_eq_false_iff_ne.mpr c37
      have c37b1:(t436 != 3)=true:=bne_iff_ne.mpr c37
      simp only[Option.some.injEq,Prod.mk.injEq]at H
      obtain⟨rfl,rfl,rfl⟩:=H
      go_enter Try.func54,Try.ntmps54
      go_wp2_with (first|((with_reducible refine gate_callee (f:=98) rfl ?_);refine goesL_ (some 6) rfl rfl Try.func98 (by kernel_rfl) rfl #[.pointer (some ⟨g,0,none⟩)] rfl gd_ ?_;(with_reducible refine(spec_l1Cur_sheet.calls k g s0_0 s0_1 s0_2 t428 t431 t432 w0 _ ?side1 ?side2 A2.out).mono ?_);(case side1=>exact(a5_ HI0.out));(case side2=>exact(a7_ HI0.out));rintro e w47 ⟨v429,rfl,ho0,hi,hb,hk⟩;refine⟨_,rfl,?_⟩;have HO430:=am_ (Kd.R_lower ho0 (keep_size (w:=w) (g:=g) (row:=none) (a6_)));replace HK:=am_ (KeepBut.trans (a6_) hk (.inl rfl));replace HB:=am_ (hb);replace HI0:=am_ (hi);(try clear hb);(try clear hb2);(try clear hk);(try clear hi);(try clear ho0);obtain⟨Ao48,co48,eo48⟩:=Kd.R_slice HO430.out;subst eo48)|((with_reducible refine gate_callee (f:=55) rfl ?_);refine goesL_ (some 13) rfl rfl Try.func55 (by kernel_rfl) rfl #[.pointer (some ⟨g,0,none⟩), .int .i64 (t428.length:Int)] rfl gd_ ?_;(with_reducible refine(spec_l1Cur_pick.calls g s0_0 t431 t432 (t428.length:Int) t433 t434 t435 w0 _ ?side1 ?side2 A4.out).mono ?_);(case side1=>exact(a5_ HI0.out));(case side2=>exact(a7_ HI0.out));rintro e w49 ⟨rfl,hi,hb,hk⟩;refine⟨_,rfl,?_⟩;replace HO430:=am_ (Kd.R_mono (Kd.R_keep (IsS76.apart (show IsS76 w0 _ g s0_0 t431 t432 from(a5_ HI0.out)) ((a0_ HO430.out)) (by decide)) hk (fun _ h=>h.2)) (fun _ h=>h.1));replace HK:=am_ (KeepBut.trans (a6_) hk (.inl rfl));replace HB:=am_ (hb);replace HI0:=am_ (hi);(try clear hb);(try clear hb2);(try clear hk);(try clear hi))|((with_reducible refine gate_callee (f:=55) rfl ?_);refine goesL_ (some 15) rfl rfl Try.func55 (by kernel_rfl) rfl #[.pointer (some ⟨g,0,none⟩), .int .i64 30] rfl gd_ ?_;(with_reducible refine(spec_l1Cur_pick.calls g s0_0 t434 t435 30 t436 t437 t438 w0 _ ?side1 ?side2 A5.out).mono ?_);(case side1=>exact(a5_ HI0.out));(case side2=>exact(a7_ HI0.out));rintro e w50 ⟨rfl,hi,hb,hk⟩;refine⟨_,rfl,?_⟩;replace HO430:=am_ (Kd.R_mono (Kd.R_keep (IsS76.apart (show IsS76 w0 _ g s0_0 t434 t435 from(a5_ HI0.out)) ((a0_ HO430.out)) (by decide)) hk (fun _ h=>h.2)) (fun _ h=>h.1));replace HK:=am_ (KeepBut.trans (a6_) hk (.inl rfl));replace HB:=am_ (hb);replace HI0:=am_ (hi);(try clear hb);(try clear hb2);(try clear hk);(try clear hi)))
      go_ret
      exact⟨_,a12_,(a0_ HO430.out),(a5_ HI0.out),(a7_ HI0.out),a6_⟩
 ·rw[if_neg c3]at H
  have c3b0:decide (0<(t428.length:Int))=false:=decide_eq_false c3
  have c3b1:decide (0<t428.length)=false:=decide_eq_false (by omega)
  clear c3
  simp only[Option.some.injEq,Prod.mk.injEq]at H
  obtain⟨rfl,rfl,rfl⟩:=H
  go_enter Try.func54,Try.ntmps54
  go_wp2_with (first|((with_reducible refine gate_callee (f:=98) rfl ?_);refine goesL_ (some 6) rfl rfl Try.func98 (by kernel_rfl) rfl #[.pointer (some ⟨g,0,none⟩)] rfl gd_ ?_;(with_reducible refine(spec_l1Cur_sheet.calls k g s0_0 s0_1 s0_2 t428 t431 t432 w0 _ ?side1 ?side2 A2.out).mono ?_);(case side1=>exact(a5_ HI0.out));(case side2=>exact(a7_ HI0.out));rintro e w51 ⟨v429,rfl,ho0,hi,hb,hk⟩;refine⟨_,rfl,?_⟩;have HO430:=am_ (Kd.R_lower ho0 (keep_size (w:=w) (g:=g) (row:=none) (a6_)));replace HK:=am_ (KeepBut.trans (a6_) hk (.inl rfl));replace HB:=am_ (hb);replace HI0:=am_ (hi);(try clear hb);(try clear hb2);(try clear hk);(try clear hi);(try clear ho0);obtain⟨Ao52,co52,eo52⟩:=Kd.R_slice HO430.out;subst eo52))
  go_ret
  exact⟨_,a12_,(a0_ HO430.out),(a5_ HI0.out),(a7_ HI0.out),a6_⟩

/-! ### spec_shDrop: function 100 -/
def spec_shDrop.f (l0:List (S42)) (a1:Int):Option ((List (S42))):=(some (([]:List (S42)):List (S42))).bind fun y458=>(if 0≤a1 then(if a1≤(l0.length:Int) then((some (l0.take (a1:Int).toNat:List (S42))).bind fun y461=>(if y458.length+y461.length<5864062014805 then((some (y458 ++ y461:List (S42))).bind fun y465=>(if 0≤(wrap64 (a1+1)) then(if(wrap64 (a1+1))≤(l0.length:Int) then((some (l0.drop ((wrap64 (a1+1)):Int).toNat:List (S42))).bind fun y468=>(if y465.length+y468.length<5864062014805 then(some (y465 ++ y468)) else(none))) else(none)) else(none))) else(none))) else(none)) else(none))
def spec_shDrop.T1:Bool×List (List Nat×List Nat):=(true, [([], []),([], []),([], []),([1,2], [1,2]),([0,3], [0,3]),([], []),([], []),([6], [6]),([5,7], [5,7]),([4,8,4], [4,8]),([9,9,0,1,2,3,4,5,6,7,8,9], [9])])
def spec_shDrop.B1:List Nat:=[0,0,0,6,15,0,0,64,224,511,1023]
theorem spec_shDrop.tab1:rtab .any (opsOf Try.f100 1)=spec_shDrop.T1:=by kernel_rfl
theorem spec_shDrop.bits1:waitsOk spec_shDrop.T1.2 spec_shDrop.B1=true:=by kernel_rfl
set_option maxHeartbeats 8000000 in
set_option maxRecDepth 100000 in
theorem spec_shDrop.calls (A0:Option Addr) (c0:Nat) (l0:List (S42)) (a1:Int) (r:List (S42)) (w:World) (hr0:Kd.C k42 w A0 l0.length l0) (hc0:l0.length≤c0) (h:spec_shDrop.f l0 a1=some r) :
 Calls Try.prog 100 #[.slice A0 l0.length c0, .int .i64 a1] w fun e w'=>∃v0_:Value,e = .returned (v0_)∧Kd.R k42 42 w' w.heap.size (fun _=>True) v0_ r∧Below w.heap.size w w':=by
 have HR0:=am_ hr0
 have HC0:=am_ hc0
 clear hr0 hc0
 have HB:=am_ (Below.refl w.heap.size w)
 have H:((some (([]:List (S42)):List (S42))).bind fun y458=>(if 0≤a1 then(if a1≤(l0.length:Int) then((some (l0.take (a1:Int).toNat:List (S42))).bind fun y461=>(if y458.length+y461.length<5864062014805 then((some (y458 ++ y461:List (S42))).bind fun y465=>(if 0≤(wrap64 (a1+1)) then(if(wrap64 (a1+1))≤(l0.length:Int) then((some (l0.drop ((wrap64 (a1+1)):Int).toNat:List (S42))).bind fun y468=>(if y465.length+y468.length<5864062014805 then(some (y465 ++ y468)) else(none))) else(none)) else(none))) else(none))) else(none)) else(none)))=some r:=h
 clear h
 obtain⟨y458,hy458⟩:∃y_:List (S42),y_=(([]:List (S42))):=⟨_,rfl⟩
 replace H:(if 0≤a1 then(if a1≤(l0.length:Int) then((some (l0.take (a1:Int).toNat:List (S42))).bind fun y461=>(if y458.length+y461.length<5864062014805 then((some (y458 ++ y461:List (S42))).bind fun y465=>(if 0≤(wrap64 (a1+1)) then(if(wrap64 (a1+1))≤(l0.length:Int) then((some (l0.drop ((wrap64 (a1+1)):Int).toNat:List (S42))).bind fun y468=>(if y465.length+y468.length<5864062014805 then(some (y465 ++ y468)) else(none))) else(none)) else(none))) else(none))) else(none)) else(none))=some r:=by first|(rw[hy458];with_reducible exact H)|(have H2_:=(Option.bind_some _ _).symm.trans H;rw[hy458];with_reducible exact H2_)|(have H2_:=(Option.bind_some _ _).symm.trans H;with_reducible exact H2_) | with_reducible exact H|(rw[hy458];exact H)|exact H
 have Ny458:=am_ hy458
 clear hy458
 by_cases c3:0≤a1
 ·rw[if_pos c3]at H
  have c3b0:=eq_true c3
  have c3b1:decide (0≤a1)=true:=decide_eq_true c3
  clear c3
  by_cases c4:a1≤(l0.length:Int)
  ·rw[if_pos c4]at H
   have c4b0:=eq_true c4
   have c4b1:decide (a1≤(l0.length:Int))=true:=decide_eq_true c4
   clear c4
   obtain⟨y461,hy461⟩:∃y_:List (S42),y_=(l0.take (a1:Int).toNat):=⟨_,rfl⟩
   replace H:(if y458.length+y461.length<5864062014805 then((some (y458 ++ y461:List (S42))).bind fun y465=>(if 0≤(wrap64 (a1+1)) then(if(wrap64 (a1+1))≤(l0.length:Int) then((some (l0.drop ((wrap64 (a1+1)):Int).toNat:List (S42))).bind fun y468=>(if y465.length+y468.length<5864062014805 then(some (y465 ++ y468)) else(none))) else(none)) else(none))) else(none))=some r:=by first|(rw[hy461];with_reducible exact H)|(have H2_:=(Option.bind_some _ _).symm.trans H;rw[hy461];with_reducible exact H2_)|(have H2_:=(Option.bind_some _ _).symm.trans H;with_reducible exact H2_) | with_reducible exact H|(rw[hy461];exact H)|exact H
   have Ny461:=am_ hy461
   clear hy461
   by_cases c5:y458.length+y461.length<5864062014805
   ·rw[if_pos c5]at H
    have LMc5:=am_ c5
    clear c5
    obtain⟨y465,hy465⟩:∃y_:List (S42),y_=(y458 ++ y461):=⟨_,rfl⟩
    replace H:(if 0≤(wrap64 (a1+1)) then(if(wrap64 (a1+1))≤(l0.length:Int) then((some (l0.drop ((wrap64 (a1+1)):Int).toNat:List (S42))).bind fun y468=>(if y465.length+y468.length<5864062014805 then(some (y465 ++ y468)) else(none))) else(none)) else(none))=some r:=by first|(rw[hy465];with_reducible exact H)|(have H2_:=(Option.bind_some _ _).symm.trans H;rw[hy465];with_reducible exact H2_)|(have H2_:=(Option.bind_some _ _).symm.trans H;with_reducible exact H2_) | with_reducible exact H|(rw[hy465];exact H)|exact H
    have Ny465:=am_ hy465
    clear hy465
    obtain⟨ji6,hji6⟩:∃j_:Int,(wrap64 (a1+1))=j_:=⟨_,rfl⟩
    replace H:(if 0≤(ji6) then(if(ji6)≤(l0.length:Int) then((some (l0.drop ((ji6):Int).toNat:List (S42))).bind fun y468=>(if y465.length+y468.length<5864062014805 then(some (y465 ++ y468)) else(none))) else(none)) else(none))=some r:=by first|(rw[hji6]at H;exact H)|(simp only[hji6]at H ⊢;exact H)
    have hji6w:(IntKind.i64.wrap (a1+1))=ji6:=(i64_w _).trans hji6
    by_cases c7:0≤(ji6)
    ·rw[if_pos c7]at H
     have c7b0:=eq_true c7
     have c7b1:decide (0≤(ji6))=true:=decide_eq_true c7
     clear c7
     by_cases c8:(ji6)≤(l0.length:Int)
     ·rw[if_pos c8]at H
      have c8b0:=eq_true c8
      have c8b1:decide ((ji6)≤(l0.length:Int))=true:=decide_eq_true c8
      clear c8
      obtain⟨y468,hy468⟩:∃y_:List (S42),y_=(l0.drop ((ji6):Int).toNat):=⟨_,rfl⟩
      replace H:(if y465.length+y468.length<5864062014805 then(some (y465 ++ y468)) else(none))=some r:=by first|(rw[hy468];with_reducible exact H)|(have H2_:=(Option.bind_some _ _).symm.trans H;rw[hy468];with_reducible exact H2_)|(have H2_:=(Option.bind_some _ _).symm.trans H;with_reducible exact H2_) | with_reducible exact H|(rw[hy468];exact H)|exact H
      have Ny468:=am_ hy468
      clear hy468
      by_cases c9:y465.length+y468.length<5864062014805
      ·rw[if_pos c9]at H
       have LMc9:=am_ c9
       clear c9
       obtain⟨y472,hy472⟩:∃y_:List (S42),y_=(y465 ++ y468):=⟨_,rfl⟩
       replace H:(some y472)=some r:=by first|(rw[hy472];with_reducible exact H)|(have H2_:=(Option.bind_some _ _).symm.trans H;rw[hy472];with_reducible exact H2_)|(have H2_:=(Option.bind_some _ _).symm.trans H;with_reducible exact H2_) | with_reducible exact H|(rw[hy472];exact H)|exact H
       have Ny472:=am_ hy472
       clear hy472
       obtain rfl:=Option.some.inj H
       go_enter Try.func100,Try.ntmps100
       try go_wp2
       replace HB:=am_ (below_drew1 HB.out)
       have q11:(a1:Int)≤((l0.length:Int):Int):=of_decide_eq_true (a13_)
       obtain⟨i011,hi011,_,hsz11,_⟩:=info_parts info42
       have hroom11:l0.length≤c0:=HC0.out
       have hC11:Kd.C k42 _ A0 l0.length l0:=HR0.out
       have hcut11:=cut_to (P:=Try.prog) 32 42 .i64 Try.underlying32 hi011 A0 l0.length c0 a1 (of_decide_eq_true (a13_)) q11 hroom11
       have hr11:=Kd.C_take (m:=(a1:Int).toNat) hC11 (by omega)
       have hy11:y461.length=(a1:Int).toNat:=(by rw[Ny461.out,List.length_take];omega)
       rw[← Ny461.out]at hr11
       rw[← hy11]at hcut11
       have HR464:=am_ hr11
       have HC464:=am_ (show y461.length≤c0 from by omega)
       clear hr11 hC11 hroom11 hi011 hsz11
       have KY11:=am_ hy11
       clear hy11
       replace q11:=eq_true q11
       have q12:((ji6):Int)≤((l0.length:Int):Int):=of_decide_eq_true (a13_)
       obtain⟨i012,hi012,_,hsz12,_⟩:=info_parts info42
       have hroom12:l0.length≤c0:=HC0.out
       have hC12:Kd.C k42 _ A0 l0.length l0:=HR0.out
       have q012:(0:Int)≤((ji6):Int):=of_decide_eq_true (a13_)
       have hcut12:=cut_from (P:=Try.prog) 32 42 .i64 Try.underlying32 hi012 3 hsz12 A0 l0.length c0 (ji6) q012 q12
       have hr12:=Kd.C_drop (m:=((ji6):Int).toNat) (c:=c0) hC12 (by omega) hroom12
       obtain⟨A12,hA12⟩:∃A1,A1=(if c0=((ji6):Int).toNat then A0 else(A0:Option Addr).map (·.add (((ji6):Int).toNat*3))):=⟨_,rfl⟩
       obtain⟨c12,hc12⟩:∃c1,c1=c0-((ji6):Int).toNat:=⟨_,rfl⟩
       have hy12:y468.length=l0.length-((ji6):Int).toNat:=(by rw[Ny468.out,List.length_drop]<;>omega)
       rw[show(l0).drop ((ji6):Int).toNat=y468 from Ny468.out.symm]at hr12
       replace hr12:Kd.C k42 _ A12 y468.length y468:=(by rw[hA12];exact hr12)
       rw[← hy12, ← hA12, ← hc12]at hcut12
       have HR471:=am_ hr12
       have HC471:=am_ (show y468.length≤c12 from by rw[hy12,hc12];exact Nat.sub_le_sub_right hroom12 _)
       clear hr12 hC12 hroom12 hi012 hsz12 hc12
       have KY12:=am_ hy12
       have KA12:=am_ hA12
       clear hy12 hA12
       replace q12:=eq_true q12
       refine start_ (n:=11) (S:=fun w'=>True) (ds:=[]) #[false,false,false,false,false,false,false,false,false,false,false] (by kernel_rfl) rfl rfl trivial (fun hHeld=>?_);refine with_tabW spec_shDrop.tab1 spec_shDrop.bits1 (fun HT_ HW_=>?_)
       generalize w.drew=w10 at HB HR464 HR471 hHeld ⊢
       refine pure_ (i:=1) (N:=some 6) (v:=?_) (a':=?_) #[false,true,false,false,false,false,false,false,false,false,false] rfl rfl (any_of HT_.out (by kernel_rfl)) (fun _ _ _ h=>h) (Or.inl ⟨by rfl,?_⟩) ?_ ?_
       rotate_left
       ·intro w'
        go_simp
        with_reducible rfl
       rotate_left
       ·simp only[Act.put,pu_]
        rfl
       refine pure_ (i:=2) (N:=some 7) (v:=?_) (a':=?_) #[false,true,true,false,false,false,false,false,false,false,false] rfl rfl (any_of HT_.out (by kernel_rfl)) (fun _ _ _ h=>h) (Or.inl ⟨by rfl,?_⟩) ?_ ?_
       rotate_left
       ·intro w'
        go_simp
        with_reducible rfl
       rotate_left
       ·simp only[Act.put,pu_]
        rfl
       refine pure_ (i:=3) (N:=some 8) (v:=?_) (a':=?_) #[false,true,true,true,false,false,false,false,false,false,false] rfl rfl (any_of HT_.out (by kernel_rfl)) (fun _ _ _ h=>h) (Or.inl ⟨by rfl,?_⟩) ?_ ?_
       rotate_left
       ·intro w'
        go_simp
        with_reducible rfl
       rotate_left
       ·simp only[Act.put,pu_]
        rfl
       refine pure_ (i:=5) (N:=some 10) (v:=?_) (a':=?_) #[false,true,true,true,false,true,false,false,false,false,false] rfl rfl (any_of HT_.out (by kernel_rfl)) (fun _ _ _ h=>h) (Or.inl ⟨by rfl,?_⟩) ?_ ?_
       rotate_left
       ·intro w'
        go_simp
        with_reducible rfl
       rotate_left
       ·simp only[Act.put,pu_]
        rfl
       refine pure_ (i:=6) (N:=some 11) (v:=?_) (a':=?_) #[false,true,true,true,false,true,true,false,false,false,false] rfl rfl (any_of HT_.out (by kernel_rfl)) (fun _ _ _ h=>h) (Or.inl ⟨by rfl,?_⟩) ?_ ?_
       rotate_left
       ·intro w'
        go_simp
        with_reducible rfl
       rotate_left
       ·simp only[Act.put,pu_]
        rfl
       refine pure_ (i:=7) (N:=some 12) (v:=?_) (a':=?_) #[false,true,true,true,false,true,true,true,false,false,false] rfl rfl (any_of HT_.out (by kernel_rfl)) (fun _ _ _ h=>h) (Or.inl ⟨by rfl,?_⟩) ?_ ?_
       rotate_left
       ·intro w'
        go_simp
        with_reducible rfl
       rotate_left
       ·simp only[Act.put,pu_]
        rfl
       refine pure_ (i:=8) (N:=some 13) (v:=?_) (a':=?_) #[false,true,true,true,false,true,true,true,true,false,false] rfl rfl (any_of HT_.out (by kernel_rfl)) (fun _ _ _ h=>h) (Or.inl ⟨by rfl,?_⟩) ?_ ?_
       rotate_left
       ·intro w'
        go_simp
        with_reducible rfl
       rotate_left
       ·simp only[Act.put,pu_]
        rfl
       refine one_ (i:=0) (N:=some 5) #[true,true,true,true,false,true,true,true,true,false,false] rfl rfl (one_of HT_.out (by kernel_rfl)) (by decide) (fun K hK=>?_)
       refine Kd.R_lit_step k42 _ 42 ?hg (N:=5) ?hd (xs:=([]:List (S42))) (inner:=[]) (ok:=fun _=>True) (okp:=fun _=>True) ?hr ?hp (fun _ hk=>hk) trivial (Below.refl _ _) (Nat.le_refl _) (by simp) ?_;(case hd=>rfl);(case hg=>rfl);(case hr=>exact hr_);(case hp=>exact(Reps.none _ _))
       intro v459 w13 ho14 hb hg_ hnew_
       clear hg_ hnew_
       (first|rw[← Ny458.out]at ho14|(simp only[Int.reduceToNat]at ho14;rw[← Ny458.out]at ho14))
       have HO460:=am_ (Kd.R_lower ho14 (below_size (a1_)))
       replace HB:=am_ (below_step (a1_) hb)
       clear hb ho14
       refine hK.out _ _ trivial (fun hHeld=>?_)
       clear hK K
       refine norm_ (a':=?_) ?_ ?_
       rotate_left
       ·show Act.put _ (some 5) _=_
        simp only[Act.put,pu_]
        rfl
       refine one_ (i:=4) (N:=some 9) #[true,true,true,true,true,true,true,true,true,false,false] rfl rfl (one_of HT_.out (by kernel_rfl)) (by decide) (fun K hK=>?_)
       refine Kd.R_append_rows_step k42 (w0:=w) w.heap.size (by rfl) (.tmp 5) (.tmp 8) 32 42 (.agg #[(.int .i64 0),(.int .i64 0),(.int .i64 0)]) 24 rfl Try.underlying32 info42 rfl (by decide) (by omega) v459 y458 y461 _ _ _ (fun _=>True) (fun _=>False) rfl rfl ?aO ?aR (fun _ _ h=>h) (fun _ h=>h.elim) ?aF ?aB ?aS ?aL ?_
       (case aR=>exact(a8_ HR464.out))
       (case aB=>exact(a1_))
       (case aF=>exact(fun _ _=>trivial))
       (case aO=>exact((a0_ HO460.out)))
       (case aS=>exact(below_size (a1_)))
       (case aL=>have:=LMc5.out;omega)
       intro v466 w15 ho hb hg hat
       rw[← Ny465.out]at ho
       have n0_:=am_ (hb)
       have n1_:=am_ (ho)
       clear HB HO460
       have HB:=n0_
       have HO467:=n1_
       clear n0_ n1_ ho hb hg hat
       refine hK.out _ _ trivial (fun hHeld=>?_)
       clear hK K
       refine norm_ (a':=?_) ?_ ?_
       rotate_left
       ·show Act.put _ (some 9) _=_
        simp only[Act.put,pu_]
        rfl
       refine one_ (i:=9) (N:=some 14) #[true,true,true,true,true,true,true,true,true,true,false] rfl rfl (one_of HT_.out (by kernel_rfl)) (by decide) (fun K hK=>?_)
       refine Kd.R_append_rows_step k42 (w0:=w) w.heap.size (by rfl) (.tmp 9) (.tmp 13) 32 42 (.agg #[(.int .i64 0),(.int .i64 0),(.int .i64 0)]) 24 rfl Try.underlying32 info42 rfl (by decide) (by omega) v466 y465 y468 _ _ _ (fun _=>True) (fun _=>False) rfl rfl ?aO ?aR (fun _ _ h=>h) (fun _ h=>h.elim) ?aF ?aB ?aS ?aL ?_
       (case aR=>exact(a8_ HR471.out))
       (case aB=>exact(a1_))
       (case aF=>exact(fun _ _=>trivial))
       (case aO=>exact((a0_ HO467.out)))
       (case aS=>exact(below_size (a1_)))
       (case aL=>have:=LMc9.out;omega)
       intro v473 w16 ho hb hg hat
       rw[← Ny472.out]at ho
       have n0_:=am_ (hb)
       have n1_:=am_ (ho)
       clear HB HO467
       have HB:=n0_
       have HO474:=n1_
       clear n0_ n1_ ho hb hg hat
       refine hK.out _ _ trivial (fun hHeld=>?_)
       clear hK K
       refine norm_ (a':=?_) ?_ ?_
       rotate_left
       ·show Act.put _ (some 14) _=_
        simp only[Act.put,pu_]
        rfl
       refine pure_ (i:=10) (N:=some 4) (v:=?_) (a':=?_) #[true,true,true,true,true,true,true,true,true,true,true] rfl rfl (any_of HT_.out (by kernel_rfl)) (fun _ _ _ h=>h) (Or.inl ⟨by rfl,?_⟩) ?_ ?_
       rotate_left
       ·intro w'
        go_simp
        with_reducible rfl
       rotate_left
       ·simp only[Act.put,pu_]
        rfl
       refine done_ (done_of HT_.out (by kernel_rfl)) ?_
       try go_wp2
       go_ret
       exact⟨_,by first | rfl|(simp[errW_none,errW_some]<;>rfl)|(simp only[← hji6];first | rfl|(simp[errW_none,errW_some]<;>rfl))|(simp[*,errW_none,errW_some]<;>rfl),(a0_ HO474.out),a1_⟩
      ·rw[if_neg c9]at H
       exact absurd H (by simp)
     ·rw[if_neg c8]at H
      exact absurd H (by simp)
    ·rw[if_neg c7]at H
     exact absurd H (by simp)
   ·rw[if_neg c5]at H
    exact absurd H (by simp)
  ·rw[if_neg c4]at H
   exact absurd H (by simp)
 ·rw[if_neg c3]at H
  exact absurd H (by simp)

end Go.Proofs.Ytplpjmhmochcfaa.QFnMerges
