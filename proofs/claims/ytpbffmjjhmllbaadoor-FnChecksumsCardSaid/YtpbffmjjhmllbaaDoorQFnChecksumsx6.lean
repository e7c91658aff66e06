/- Written by a program of this session (the kit's printer, with leaf contracts proved by hand put in): what each Go function computes, and that the call computes it. No condition but those that each theorem names. -/
import Derived.Test.YtpbffmjjhmllbaaDoorQFnChecksumsx0
import Derived.Test.YtpbffmjjhmllbaaDoorQFnChecksumsx2
import Derived.Test.YtpbffmjjhmllbaaDoorQFnChecksumsx5
namespace Go.Proofs.YtpbffmjjhmllbaaDoor.QFnChecksums
open Go.RowKit Go.Proofs.YtpbffmjjhmllbaaDoorW.PrintWords Go.Proofs.YtpbffmjjhmllbaaDoorW.PrintLast Go.Proofs.YtpbffmjjhmllbaaDoorW.PrintMore
attribute [local go_sem] max2_int min2_int max_two min_two max_three min_three max_four min_four   -- for this text's walks alone
set_option linter.unusedVariables false
set_option linter.unusedSimpArgs false

/-! ### spec_l1Cur_anySheet: function 33 -/
def spec_l1Cur_anySheet.l0:Nat→List (S33)→List Int→Int→Int→Option ((List (S33))×Int×Int)
 | 0,_,_,_,_=>none
 | k+1,x3,x1000,x1001,x1002=>if(x3.length:Int)<61 then(if x3.length<5864062014805 then(spec_l1Cur_anySheet.l0 k (x3 ++ [(⟨1,wrap64 (3*(x3.length:Int)),wrap64 ((wrap64 (3*(x3.length:Int)))+1)⟩:S33)]) x1000 x1001 x1002) else(none)) else(some (x3,x1001,x1002))
def spec_l1Cur_anySheet.f (k:Nat) (s0_0:List Int) (s0_1:Int) (s0_2:Int):Option ((List (S33))×Int×Int):=(spec_l1Cur_sheet.f k s0_0 s0_1 s0_2).bind fun bt277=>(if(bt277.1.length:Int)>0 then((spec_l1Cur_pick.f s0_0 bt277.2.1 bt277.2.2 (bt277.1.length:Int)).bind fun bt282=>((spec_l1Cur_pick.f s0_0 bt282.2.1 bt282.2.2 30).bind fun bt285=>(if bt285.1=0 then((spec_l1Cur_anyHole.f s0_0 bt285.2.1 bt285.2.2).bind fun bt288=>(if 0≤bt282.1 then(if bt282.1<(bt277.1.length:Int) then(some ((bt277.1.set (bt282.1:Int).toNat (⟨bt288.1,bt288.2.1,bt288.2.2.1⟩:S33)),bt288.2.2.2.1,bt288.2.2.2.2)) else(none)) else(none))) else(if bt285.1=1 then(if 0≤bt282.1 then(if bt282.1<(bt277.1.length:Int) then(if bt277.1.length<5864062014805 then(some ((bt277.1 ++ [(⟨(rd_T33 bt277.1 bt282.1).f0,(rd_T33 bt277.1 bt282.1).f1,(rd_T33 bt277.1 bt282.1).f2⟩:S33)]),bt285.2.1,bt285.2.2)) else(none)) else(none)) else(none)) else(if bt285.1=2 then(if 0≤bt282.1 then(if bt282.1<(bt277.1.length:Int) then(if bt277.1.length<5864062014805 then(some ((bt277.1 ++ [(⟨(rd_T33 bt277.1 bt282.1).f0,(rd_T33 bt277.1 bt282.1).f2,wrap64 (((rd_T33 bt277.1 bt282.1).f2)+2)⟩:S33)]),bt285.2.1,bt285.2.2)) else(none)) else(none)) else(none)) else(if bt285.1=3 then(spec_l1Cur_anySheet.l0 k ([]:List (S33)) s0_0 bt285.2.1 bt285.2.2) else(some (bt277.1,bt285.2.1,bt285.2.2)))))))) else(some (bt277.1,bt277.2.1,bt277.2.2)))
theorem spec_l1Cur_anySheet.mono_l:∀k,(∀y0 y1 y2 y3,LeO (spec_l1Cur_anySheet.l0 k y0 y1 y2 y3) (spec_l1Cur_anySheet.l0 (k+1) y0 y1 y2 y3))
 | 0=>fun _ _ _ _ r h=>by simp[spec_l1Cur_anySheet.l0]at h
 | k+1=>by
  have ih0:=spec_l1Cur_anySheet.mono_l k
  intros
  unfold spec_l1Cur_anySheet.l0
  rotate_left
  all_goals repeat' first|(with_reducible first|exact ih0 _ _ _ _|exact spec_l1Cur_sheet.mono _ _ _ _|exact LeO.refl _|exact LeO.none _|refine LeO.ite ?_ ?_|refine LeO.bind ?_ (fun _=>?_))|exact ih0 _ _ _ _|exact spec_l1Cur_sheet.mono _ _ _ _|exact LeO.none _|refine LeO.ite ?_ ?_|refine LeO.bind ?_ (fun _=>?_)
theorem spec_l1Cur_anySheet.mono:∀a0 a1 a2 k,LeO (spec_l1Cur_anySheet.f k a0 a1 a2) (spec_l1Cur_anySheet.f (k+1) a0 a1 a2):=by
 intro a0 a1 a2 k
 have ih0:=spec_l1Cur_anySheet.mono_l k
 unfold spec_l1Cur_anySheet.f
 repeat' first
  |(with_reducible exact ih0 _ _ _ _)
  |(with_reducible exact spec_l1Cur_sheet.mono _ _ _ _)
  |(with_reducible exact LeO.refl _)
  |(with_reducible exact LeO.none _)
  |(with_reducible refine LeO.ite ?_ ?_)
  |(with_reducible refine LeO.bind ?_ (fun _=>?_))
  |exact ih0 _ _ _ _
  |exact spec_l1Cur_sheet.mono _ _ _ _
  |exact LeO.none _
   | refine LeO.ite ?_ ?_
   | refine LeO.bind ?_ (fun _=>?_)
def spec_l1Cur_anySheet.T10:Bool×List (List Nat×List Nat):=(true, [([], []),([], []),([], []),([1,2], [1,2]),([3], [3]),([4], [4]),([], []),([], []),([6,7], [6,7]),([8], [8]),([9], [9]),([], []),([], []),([11,12], [11,12]),([13], [13]),([14], [14]),([15], [15]),([5,10,16], [5,10,16]),([17], [17]),([0,18], [0,18]),([19,19,0,1,2,3,4,5,6,7,8,9,10,11,12,13,14,15,16,17,18,19], [0,1,6,11,19])])
def spec_l1Cur_anySheet.B10:List Nat:=[0,0,0,6,14,30,0,0,192,448,960,0,0,6144,14336,30720,63488,131070,262142,524287,1048575]
theorem spec_l1Cur_anySheet.tab10:rtab .any (opsOf Tryd.f33 10)=spec_l1Cur_anySheet.T10:=by kernel_rfl
theorem spec_l1Cur_anySheet.bits10:waitsOk spec_l1Cur_anySheet.T10.2 spec_l1Cur_anySheet.B10=true:=by kernel_rfl
set_option maxHeartbeats 8000000 in
set_option maxRecDepth 100000 in
theorem spec_l1Cur_anySheet.calls (k:Nat) (g:Nat) (s0_0:List Int) (s0_1:Int) (s0_2:Int) (r1:List (S33)) (r2:Int) (r3:Int) (w0 w:World) (hI:IsS55 w0 w g s0_0 s0_1 s0_2) (hB:Below w0.heap.size w0 w) (h:spec_l1Cur_anySheet.f k s0_0 s0_1 s0_2=some (r1,r2,r3)) :
 Calls Tryd.prog 33 #[.pointer (some ⟨g,0,none⟩)] w fun e w'=>∃v0_:Value,e = .returned (v0_)∧Kd.R k33 33 w' w.heap.size (fun _=>True) v0_ r1∧IsS55 w0 w' g s0_0 r2 r3∧Below w0.heap.size w0 w'∧KeepBut w w' g none:=by
 have hu33:=Tryd.underlying33
 have HI0:=am_ hI
 have HK:=am_ (KeepBut.refl w g none)
 have HL:=am_ hB.size
 clear hI
 have HW0:=am_ hB.size
 have HB:=am_ hB
 clear hB
 have H:((spec_l1Cur_sheet.f k s0_0 s0_1 s0_2).bind fun bt277=>(if(bt277.1.length:Int)>0 then((spec_l1Cur_pick.f s0_0 bt277.2.1 bt277.2.2 (bt277.1.length:Int)).bind fun bt282=>((spec_l1Cur_pick.f s0_0 bt282.2.1 bt282.2.2 30).bind fun bt285=>(if bt285.1=0 then((spec_l1Cur_anyHole.f s0_0 bt285.2.1 bt285.2.2).bind fun bt288=>(if 0≤bt282.1 then(if bt282.1<(bt277.1.length:Int) then(some ((bt277.1.set (bt282.1:Int).toNat (⟨bt288.1,bt288.2.1,bt288.2.2.1⟩:S33)),bt288.2.2.2.1,bt288.2.2.2.2)) else(none)) else(none))) else(if bt285.1=1 then(if 0≤bt282.1 then(if bt282.1<(bt277.1.length:Int) then(if bt277.1.length<5864062014805 then(some ((bt277.1 ++ [(⟨(rd_T33 bt277.1 bt282.1).f0,(rd_T33 bt277.1 bt282.1).f1,(rd_T33 bt277.1 bt282.1).f2⟩:S33)]),bt285.2.1,bt285.2.2)) else(none)) else(none)) else(none)) else(if bt285.1=2 then(if 0≤bt282.1 then(if bt282.1<(bt277.1.length:Int) then(if bt277.1.length<5864062014805 then(some ((bt277.1 ++ [(⟨(rd_T33 bt277.1 bt282.1).f0,(rd_T33 bt277.1 bt282.1).f2,wrap64 (((rd_T33 bt277.1 bt282.1).f2)+2)⟩:S33)]),bt285.2.1,bt285.2.2)) else(none)) else(none)) else(none)) else(if bt285.1=3 then(spec_l1Cur_anySheet.l0 k ([]:List (S33)) s0_0 bt285.2.1 bt285.2.2) else(some (bt277.1,bt285.2.1,bt285.2.2)))))))) else(some (bt277.1,bt277.2.1,bt277.2.2))))=some (r1,r2,r3):=h
 clear h
 obtain⟨⟨t277,t280,t281⟩,A2,H⟩:=bo_ H
 try dsimp only at H
 by_cases c3:(t277.length:Int)>0
 ·rw[if_pos c3]at H
  have c3b0:decide (0<(t277.length:Int))=true:=decide_eq_true c3
  have c3b1:decide (0<t277.length)=true:=decide_eq_true (by omega)
  clear c3
  obtain⟨⟨t282,t283,t284⟩,A4,H⟩:=bo_ H
  try dsimp only at H
  obtain⟨⟨t285,t286,t287⟩,A5,H⟩:=bo_ H
  try dsimp only at H
  by_cases c6:t285=0
  ·rw[if_pos c6]at H
   have c6b0:(t285 == 0)=true:=beq_iff_eq.mpr c6
   have c6b1:(t285 != 0)=false:=bne_eq_false_iff_eq.mpr c6
   clear c6
   obtain⟨⟨t288,t289,t290,t291,t292⟩,A7,H⟩:=bo_ H
   try dsimp only at H
   by_cases c8:0≤t282
   ·rw[if_pos c8]at H
    have c8b0:decide (0≤t282)=true:=decide_eq_true c8
    clear c8
    by_cases c9:t282<(t277.length:Int)
    ·rw[if_pos c9]at H
     have c9b0:decide (t282<(t277.length:Int))=true:=decide_eq_true c9
     clear c9
     obtain⟨y293,hy293⟩:∃y_:List (S33),y_=(t277.set (t282:Int).toNat (⟨t288,t289,t290⟩:S33)):=⟨_,rfl⟩
     replace H:(some (y293,t291,t292))=some (r1,r2,r3):=by first|(rw[hy293];with_reducible exact H)|(have H2_:=(Option.bind_some _ _).symm.trans H;rw[hy293];with_reducible exact H2_)|(have H2_:=(Option.bind_some _ _).symm.trans H;with_reducible exact H2_) | with_reducible exact H|(rw[hy293];exact H)|exact H
     have Ny293:=am_ hy293
     clear hy293
     simp only[Option.some.injEq,Prod.mk.injEq]at H
     obtain⟨rfl,rfl,rfl⟩:=H
     go_enter Tryd.func33,Tryd.ntmps33
     go_wp2_with (first|((with_reducible refine gate_callee (f:=52) rfl ?_);refine goesL_ (some 6) rfl rfl Tryd.func52 (by kernel_rfl) rfl #[.pointer (some ⟨g,0,none⟩)] rfl gd_ ?_;(with_reducible refine(spec_l1Cur_sheet.calls k g s0_0 s0_1 s0_2 t277 t280 t281 w0 _ ?side1 ?side2 A2.out).mono ?_);(case side1=>exact(a2_ HI0.out));(case side2=>exact(a4_ HI0.out));rintro e w11 ⟨v278,rfl,ho0,hi,hb,hk⟩;refine⟨_,rfl,?_⟩;have HO279:=am_ (Kd.R_lower ho0 (keep_size (w:=w) (g:=g) (row:=none) (a6_)));replace HK:=am_ (KeepBut.trans (a6_) hk (.inl rfl));replace HB:=am_ (hb);replace HI0:=am_ (hi);(try clear hb);(try clear hb2);(try clear hk);(try clear hi);(try clear ho0);obtain⟨Ao12,co12,eo12⟩:=Kd.R_slice HO279.out;subst eo12)|((with_reducible refine gate_callee (f:=54) rfl ?_);refine goesL_ (some 13) rfl rfl Tryd.func54 (by kernel_rfl) rfl #[.pointer (some ⟨g,0,none⟩), .int .i64 (t277.length:Int)] rfl gd_ ?_;(with_reducible refine(spec_l1Cur_pick.calls g s0_0 t280 t281 (t277.length:Int) t282 t283 t284 w0 _ ?side1 ?side2 A4.out).mono ?_);(case side1=>exact(a2_ HI0.out));(case side2=>exact(a4_ HI0.out));rintro e w13 ⟨rfl,hi,hb,hk⟩;refine⟨_,rfl,?_⟩;replace HO279:=am_ (Kd.R_mono (Kd.R_keep (IsS55.apart (show IsS55 w0 _ g s0_0 t280 t281 from(a2_ HI0.out)) ((a1_ HO279.out)) (by decide)) hk (fun _ h=>h.2)) (fun _ h=>h.1));replace HK:=am_ (KeepBut.trans (a6_) hk (.inl rfl));replace HB:=am_ (hb);replace HI0:=am_ (hi);(try clear hb);(try clear hb2);(try clear hk);(try clear hi))|((with_reducible refine gate_callee (f:=54) rfl ?_);refine goesL_ (some 15) rfl rfl Tryd.func54 (by kernel_rfl) rfl #[.pointer (some ⟨g,0,none⟩), .int .i64 30] rfl gd_ ?_;(with_reducible refine(spec_l1Cur_pick.calls g s0_0 t283 t284 30 t285 t286 t287 w0 _ ?side1 ?side2 A5.out).mono ?_);(case side1=>exact(a2_ HI0.out));(case side2=>exact(a4_ HI0.out));rintro e w14 ⟨rfl,hi,hb,hk⟩;refine⟨_,rfl,?_⟩;replace HO279:=am_ (Kd.R_mono (Kd.R_keep (IsS55.apart (show IsS55 w0 _ g s0_0 t283 t284 from(a2_ HI0.out)) ((a1_ HO279.out)) (by decide)) hk (fun _ h=>h.2)) (fun _ h=>h.1));replace HK:=am_ (KeepBut.trans (a6_) hk (.inl rfl));replace HB:=am_ (hb);replace HI0:=am_ (hi);(try clear hb);(try clear hb2);(try clear hk);(try clear hi))|((with_reducible refine gate_callee (f:=72) rfl ?_);refine goesL_ (some 21) rfl rfl Tryd.func72 (by kernel_rfl) rfl #[.pointer (some ⟨g,0,none⟩)] rfl gd_ ?_;(with_reducible refine(spec_l1Cur_anyHole.calls g s0_0 t286 t287 t288 t289 t290 t291 t292 w0 _ ?side1 ?side2 A7.out).mono ?_);(case side1=>exact(a2_ HI0.out));(case side2=>exact(a4_ HI0.out));rintro e w15 ⟨rfl,hi,hb,hk⟩;refine⟨_,rfl,?_⟩;replace HO279:=am_ (Kd.R_mono (Kd.R_keep (IsS55.apart (show IsS55 w0 _ g s0_0 t286 t287 from(a2_ HI0.out)) ((a1_ HO279.out)) (by decide)) hk (fun _ h=>h.2)) (fun _ h=>h.1));replace HK:=am_ (KeepBut.trans (a6_) hk (.inl rfl));replace HB:=am_ (hb);replace HI0:=am_ (hi);(try clear hb);(try clear hb2);(try clear hk);(try clear hi);have p10:0≤(t282:Int):=of_decide_eq_true (a10_);have q10:(t282:Int)<((t277.length:Int):Int):=of_decide_eq_true (a10_);obtain⟨go10,co10,eo10,gb10,gl10,cl10,HG10⟩:=Kd.R_form HO279.out (by omega);(first|cases eo10|(injection eo10 with ea_ en_ ec_;(first|subst ea_|(injection ea_ with ea_;subst ea_));subst ec_;clear en_));have GB10:=am_ gb10;have GG10:=am_ HG10;clear gb10 gl10 HG10;obtain⟨ce10,hcl10,hM10,hcc10,hfr10⟩:=Kd.R_elem HO279.out z33 (t282:Int) p10 q10;obtain rfl:=k33_openM hM10;have hx10_0:w15.cell? ⟨go10,(t282:Int).toNat*3,none⟩=some (.int .i64 ((rd_T33 t277 t282).f0)):=hcc10 0 _ rfl;have hx10_1:w15.cell? ⟨go10,(t282:Int).toNat*3+1,none⟩=some (.int .i64 ((rd_T33 t277 t282).f1)):=hcc10 1 _ rfl;have hx10_2:w15.cell? ⟨go10,(t282:Int).toNat*3+2,none⟩=some (.int .i64 ((rd_T33 t277 t282).f2)):=hcc10 2 _ rfl;have hf10_0:w15.frozen? ⟨go10,(t282:Int).toNat*3,none⟩=false:=hfr10 0;have hf10_1:w15.frozen? ⟨go10,(t282:Int).toNat*3+1,none⟩=false:=hfr10 1;have hf10_2:w15.frozen? ⟨go10,(t282:Int).toNat*3+2,none⟩=false:=hfr10 2;clear hcl10 hcc10 hfr10;(try clear hM10);replace p10:=eq_true p10;replace q10:=eq_true q10;have HX16:=am_ (show Kd.R k33 33 w15 w.heap.size (fun _=>True) (.slice (some ⟨go10,0,none⟩) t277.length co12) t277 from((a1_ HO279.out)));obtain⟨ce16,hcl16,hM16,hcc16,hfr16⟩:=Kd.R_elem HX16.out z33 (t282:Int) (of_decide_eq_true (a10_)) (by have h_:(t282:Int)<((t277.length:Int):Int):=of_decide_eq_true (a10_);first|exact h_|(have e_:=(Kd.R_reads' HO279.out).1;omega) | simpa using h_);obtain rfl:=k33_openM hM16;have HP16:=Kd.R_seg HX16.out (t282:Int) (of_decide_eq_true (a10_)) (by have h_:(t282:Int)<((t277.length:Int):Int):=of_decide_eq_true (a10_);first|exact h_|(have e_:=(Kd.R_reads' HO279.out).1;omega) | simpa using h_) (seg:=[.int .i64 t288, .int .i64 t289, .int .i64 t290]) (j:=0) hcl16 hcc16 (show 3≤3 from by decide) (x':=(⟨t288,t289,t290⟩:S33)) (k33_mkM _ _ _ (⟨t288,t289,t290⟩:S33) ) (fun _ hk=>hk);have hx16_0:=hcc16 0 _ rfl;(try simp only[show(k33).sz=3 from rfl,Nat.mul_one,Nat.add_zero]at hx16_0);have hf16_0:=hfr16 0;(try simp only[show(k33).sz=3 from rfl,Nat.mul_one,Nat.add_zero]at hf16_0);have hx16_1:=hcc16 1 _ rfl;(try simp only[show(k33).sz=3 from rfl,Nat.mul_one,Nat.add_zero]at hx16_1);have hf16_1:=hfr16 1;(try simp only[show(k33).sz=3 from rfl,Nat.mul_one,Nat.add_zero]at hf16_1);have hx16_2:=hcc16 2 _ rfl;(try simp only[show(k33).sz=3 from rfl,Nat.mul_one,Nat.add_zero]at hx16_2);have hf16_2:=hfr16 2;(try simp only[show(k33).sz=3 from rfl,Nat.mul_one,Nat.add_zero]at hf16_2);clear hcl16 hcc16 hfr16;(try clear hM16))|((with_reducible refine gate_store (t:=33) (p:=22) rfl ?_);refine store_event (t:=33) (p:=22) (v:=?vo_w17) (w1:=(((w15.setCell ⟨go10,(t282:Int).toNat*3,none⟩ (.int .i64 t288)).setCell ⟨go10,(t282:Int).toNat*3+1,none⟩ (.int .i64 t289)).setCell ⟨go10,(t282:Int).toNat*3+2,none⟩ (.int .i64 t290))) ?hg ?ho ?hn ?hr ?_;(case ho=>rfl);(case hg=>rfl);(case hn=>rfl);(case hr=>exact hr_);intro w17 hw;have hg:w15.grownBy w17 (some go10):=(by rw[hw];exact HP16.2);have hp_:Kd.R k33 33 w17 w.heap.size (fun _=>True) (.slice (some ⟨go10,0,none⟩) t277.length co12) y293:=(by rw[hw,Ny293.out];exact HP16.1);clear HP16;replace HI0:=am_ (IsS55.grown ((a2_ HI0.out)) hg (IsS55.own_ne HI0.out HO279.out (by decide)));replace HB:=am_ ((by rw[hw];exact below_set (below_set (below_set (HB.out) (Nat.le_trans HL.out GB10.out)) (Nat.le_trans HL.out GB10.out)) (Nat.le_trans HL.out GB10.out):Below w0.heap.size w0 w17));replace HK:=am_ (KeepBut.trans (a6_) (KeepBut.of_grown hg g) (Kd.R_base2 HO279.out));replace HO279:=am_ (hp_);clear hg hw hp_))
     go_ret
     exact⟨_,a8_,(a1_ HO279.out),(a2_ HI0.out),(a4_ HI0.out),a6_⟩
    ·rw[if_neg c9]at H
     exact absurd H (by simp)
   ·rw[if_neg c8]at H
    exact absurd H (by simp)
  ·rw[if_neg c6]at H
   have c6b0:(t285 == 0)=false:=beq_eq_false_iff_ne.mpr c6
   have c6b1:(t285 != 0)=true:=bne_iff_ne.mpr c6
   by_cases c18:t285=1
   ·rw[if_pos c18]at H
    have c18b0:(t285 == 1)=true:=beq_iff_eq.mpr c18
    have c18b1:(t285 != 1)=false:=bne_eq_false_iff_eq.mpr c18
    clear c18
    by_cases c19:0≤t282
    ·rw[if_pos c19]at H
     have c19b0:decide (0≤t282)=true:=decide_eq_true c19
     clear c19
     by_cases c20:t282<(t277.length:Int)
     ·rw[if_pos c20]at H
      have c20b0:decide (t282<(t277.length:Int))=true:=decide_eq_true c20
      clear c20
      by_cases c21:t277.length<5864062014805
      ·rw[if_pos c21]at H
       have LMc21:=am_ c21
       clear c21
       obtain⟨y295,hy295⟩:∃y_:List (S33),y_=(t277 ++ [(⟨(rd_T33 t277 t282).f0,(rd_T33 t277 t282).f1,(rd_T33 t277 t282).f2⟩:S33)]):=⟨_,rfl⟩
       replace H:(some (y295,t286,t287))=some (r1,r2,r3):=by first|(rw[hy295];with_reducible exact H)|(have H2_:=(Option.bind_some _ _).symm.trans H;rw[hy295];with_reducible exact H2_)|(have H2_:=(Option.bind_some _ _).symm.trans H;with_reducible exact H2_) | with_reducible exact H|(rw[hy295];exact H)|exact H
       have Ny295:=am_ hy295
       clear hy295
       simp only[Option.some.injEq,Prod.mk.injEq]at H
       obtain⟨rfl,rfl,rfl⟩:=H
       go_enter Tryd.func33,Tryd.ntmps33
       go_wp2_with (first|((with_reducible refine gate_callee (f:=52) rfl ?_);refine goesL_ (some 6) rfl rfl Tryd.func52 (by kernel_rfl) rfl #[.pointer (some ⟨g,0,none⟩)] rfl gd_ ?_;(with_reducible refine(spec_l1Cur_sheet.calls k g s0_0 s0_1 s0_2 t277 t280 t281 w0 _ ?side1 ?side2 A2.out).mono ?_);(case side1=>exact(a2_ HI0.out));(case side2=>exact(a4_ HI0.out));rintro e w22 ⟨v278,rfl,ho0,hi,hb,hk⟩;refine⟨_,rfl,?_⟩;have HO279:=am_ (Kd.R_lower ho0 (keep_size (w:=w) (g:=g) (row:=none) (a6_)));replace HK:=am_ (KeepBut.trans (a6_) hk (.inl rfl));replace HB:=am_ (hb);replace HI0:=am_ (hi);(try clear hb);(try clear hb2);(try clear hk);(try clear hi);(try clear ho0);obtain⟨Ao23,co23,eo23⟩:=Kd.R_slice HO279.out;subst eo23)|((with_reducible refine gate_callee (f:=54) rfl ?_);refine goesL_ (some 13) rfl rfl Tryd.func54 (by kernel_rfl) rfl #[.pointer (some ⟨g,0,none⟩), .int .i64 (t277.length:Int)] rfl gd_ ?_;(with_reducible refine(spec_l1Cur_pick.calls g s0_0 t280 t281 (t277.length:Int) t282 t283 t284 w0 _ ?side1 ?side2 A4.out).mono ?_);(case side1=>exact(a2_ HI0.out));(case side2=>exact(a4_ HI0.out));rintro e w24 ⟨rfl,hi,hb,hk⟩;refine⟨_,rfl,?_⟩;replace HO279:=am_ (Kd.R_mono (Kd.R_keep (IsS55.apart (show IsS55 w0 _ g s0_0 t280 t281 from(a2_ HI0.out)) ((a1_ HO279.out)) (by decide)) hk (fun _ h=>h.2)) (fun _ h=>h.1));replace HK:=am_ (KeepBut.trans (a6_) hk (.inl rfl));replace HB:=am_ (hb);replace HI0:=am_ (hi);(try clear hb);(try clear hb2);(try clear hk);(try clear hi))|((with_reducible refine gate_callee (f:=54) rfl ?_);refine goesL_ (some 15) rfl rfl Tryd.func54 (by kernel_rfl) rfl #[.pointer (some ⟨g,0,none⟩), .int .i64 30] rfl gd_ ?_;(with_reducible refine(spec_l1Cur_pick.calls g s0_0 t283 t284 30 t285 t286 t287 w0 _ ?side1 ?side2 A5.out).mono ?_);(case side1=>exact(a2_ HI0.out));(case side2=>exact(a4_ HI0.out));rintro e w25 ⟨rfl,hi,hb,hk⟩;refine⟨_,rfl,?_⟩;replace HO279:=am_ (Kd.R_mono (Kd.R_keep (IsS55.apart (show IsS55 w0 _ g s0_0 t283 t284 from(a2_ HI0.out)) ((a1_ HO279.out)) (by decide)) hk (fun _ h=>h.2)) (fun _ h=>h.1));replace HK:=am_ (KeepBut.trans (a6_) hk (.inl rfl));replace HB:=am_ (hb);replace HI0:=am_ (hi);(try clear hb);(try clear hb2);(try clear hk);(try clear hi);have p294:0≤(t282:Int):=of_decide_eq_true (a10_);have q294:t282<(t277.length:Int):=of_decide_eq_true (a10_);obtain⟨ad294,e294,hx294_0,hx294_1,hx294_2⟩:=at_T33 (Kd.R_reads' HO279.out).2.2 t282 p294 q294;cases e294;replace p294:=eq_true p294;replace q294:=eq_true q294)|((with_reducible refine gate_builtin (b:= .append) (xs:= #[.tmp 25, .tmp 30]) rfl ?_);at_builtin;refine Kd.R_append k33 w.heap.size rfl (.tmp 25) (.tmp 30) 24 33 (.agg #[(.int .i64 0),(.int .i64 0),(.int .i64 0)]) 24 rfl Tryd.underlying24 info33 rfl (by decide) (by omega) (.slice (some ad294) t277.length co23) t277 (⟨(rd_T33 t277 t282).f0,(rd_T33 t277 t282).f1,(rd_T33 t277 t282).f2⟩:S33) [.int .i64 ((rd_T33 t277 t282).f0), .int .i64 ((rd_T33 t277 t282).f1), .int .i64 ((rd_T33 t277 t282).f2)] (fun _=>True) (fun _=>False) rfl rfl ?aP (fun _ hk=>hk.elim) ?aF ?aO (Below.refl _ _) ?aS ?aL ?_;(case aP=>exact k33_mkM _ _ _ (⟨(rd_T33 t277 t282).f0,(rd_T33 t277 t282).f1,(rd_T33 t277 t282).f2⟩:S33));(case aF=>exact(fun _ _=>trivial));(case aO=>exact((a1_ HO279.out)));(case aS=>exact(keep_size (w:=w) (g:=g) (row:=none) (a6_)));(case aL=>have:=LMc21.out;omega);intro v296 w26 ho hb hg hat;rw[← Ny295.out]at ho;have n0_:=am_ (IsS55.grown ((a2_ HI0.out)) hg (IsS55.own_ne HI0.out HO279.out (by decide)));have n1_:=am_ (below_weaken ((a4_ HI0.out)) HL.out hb);have n2_:=am_ (KeepBut.trans (a6_) (KeepBut.of_grown hg g) (Kd.R_base2 HO279.out));have n3_:=am_ (ho);clear HI0 HB HK HO279;have HI0:=n0_;have HB:=n1_;have HK:=n2_;have HO297:=n3_;clear n0_ n1_ n2_ n3_ ho hb hg hat))
       go_ret
       exact⟨_,a8_,(a1_ HO297.out),(a2_ HI0.out),(a4_ HI0.out),a6_⟩
      ·rw[if_neg c21]at H
       exact absurd H (by simp)
     ·rw[if_neg c20]at H
      exact absurd H (by simp)
    ·rw[if_neg c19]at H
     exact absurd H (by simp)
   ·rw[if_neg c18]at H
    have c18b0:(t285 == 1)=false:=beq_eq_false_iff_ne.mpr c18
    have c18b1:(t285 != 1)=true:=bne_iff_ne.mpr c18
    by_cases c27:t285=2
    ·rw[if_pos c27]at H
     have c27b0:(t285 == 2)=true:=beq_iff_eq.mpr c27
     have c27b1:(t285 != 2)=false:=bne_eq_false_iff_eq.mpr c27
     clear c27
     by_cases c28:0≤t282
     ·rw[if_pos c28]at H
      have c28b0:decide (0≤t282)=true:=decide_eq_true c28
      clear c28
      by_cases c29:t282<(t277.length:Int)
      ·rw[if_pos c29]at H
       have c29b0:decide (t282<(t277.length:Int))=true:=decide_eq_true c29
       clear c29
       by_cases c30:t277.length<5864062014805
       ·rw[if_pos c30]at H
        have LMc30:=am_ c30
        clear c30
        obtain⟨y301,hy301⟩:∃y_:List (S33),y_=(t277 ++ [(⟨(rd_T33 t277 t282).f0,(rd_T33 t277 t282).f2,wrap64 (((rd_T33 t277 t282).f2)+2)⟩:S33)]):=⟨_,rfl⟩
        replace H:(some (y301,t286,t287))=some (r1,r2,r3):=by first|(rw[hy301];with_reducible exact H)|(have H2_:=(Option.bind_some _ _).symm.trans H;rw[hy301];with_reducible exact H2_)|(have H2_:=(Option.bind_some _ _).symm.trans H;with_reducible exact H2_) | with_reducible exact H|(rw[hy301];exact H)|exact H
        have Ny301:=am_ hy301
        clear hy301
        simp only[Option.some.injEq,Prod.mk.injEq]at H
        obtain⟨rfl,rfl,rfl⟩:=H
        go_enter Tryd.func33,Tryd.ntmps33
        try go_wp2_with (first|((with_reducible refine gate_callee (f:=52) rfl ?_);refine goesL_ (some 6) rfl rfl Tryd.func52 (by kernel_rfl) rfl #[.pointer (some ⟨g,0,none⟩)] rfl gd_ ?_;(with_reducible refine(spec_l1Cur_sheet.calls k g s0_0 s0_1 s0_2 t277 t280 t281 w0 _ ?side1 ?side2 A2.out).mono ?_);(case side1=>exact(a2_ HI0.out));(case side2=>exact(a4_ HI0.out));rintro e w31 ⟨v278,rfl,ho0,hi,hb,hk⟩;refine⟨_,rfl,?_⟩;have HO279:=am_ (Kd.R_lower ho0 (keep_size (w:=w) (g:=g) (row:=none) (a6_)));replace HK:=am_ (KeepBut.trans (a6_) hk (.inl rfl));replace HB:=am_ (hb);replace HI0:=am_ (hi);(try clear hb);(try clear hb2);(try clear hk);(try clear hi);(try clear ho0);obtain⟨Ao32,co32,eo32⟩:=Kd.R_slice HO279.out;subst eo32)|((with_reducible refine gate_callee (f:=54) rfl ?_);refine goesL_ (some 13) rfl rfl Tryd.func54 (by kernel_rfl) rfl #[.pointer (some ⟨g,0,none⟩), .int .i64 (t277.length:Int)] rfl gd_ ?_;(with_reducible refine(spec_l1Cur_pick.calls g s0_0 t280 t281 (t277.length:Int) t282 t283 t284 w0 _ ?side1 ?side2 A4.out).mono ?_);(case side1=>exact(a2_ HI0.out));(case side2=>exact(a4_ HI0.out));rintro e w33 ⟨rfl,hi,hb,hk⟩;refine⟨_,rfl,?_⟩;replace HO279:=am_ (Kd.R_mono (Kd.R_keep (IsS55.apart (show IsS55 w0 _ g s0_0 t280 t281 from(a2_ HI0.out)) ((a1_ HO279.out)) (by decide)) hk (fun _ h=>h.2)) (fun _ h=>h.1));replace HK:=am_ (KeepBut.trans (a6_) hk (.inl rfl));replace HB:=am_ (hb);replace HI0:=am_ (hi);(try clear hb);(try clear hb2);(try clear hk);(try clear hi))|((with_reducible refine gate_callee (f:=54) rfl ?_);refine goesL_ (some 15) rfl rfl Tryd.func54 (by kernel_rfl) rfl #[.pointer (some ⟨g,0,none⟩), .int .i64 30] rfl gd_ ?_;(with_reducible refine(spec_l1Cur_pick.calls g s0_0 t283 t284 30 t285 t286 t287 w0 _ ?side1 ?side2 A5.out).mono ?_);(case side1=>exact(a2_ HI0.out));(case side2=>exact(a4_ HI0.out));rintro e w34 ⟨rfl,hi,hb,hk⟩;refine⟨_,rfl,?_⟩;replace HO279:=am_ (Kd.R_mono (Kd.R_keep (IsS55.apart (show IsS55 w0 _ g s0_0 t283 t284 from(a2_ HI0.out)) ((a1_ HO279.out)) (by decide)) hk (fun _ h=>h.2)) (fun _ h=>h.1));replace HK:=am_ (KeepBut.trans (a6_) hk (.inl rfl));replace HB:=am_ (hb);replace HI0:=am_ (hi);(try clear hb);(try clear hb2);(try clear hk);(try clear hi)))
        replace HO279:=am_ (Kd.R_drew HO279.out)
        replace HI0:=am_ (IsS55.drew HI0.out)
        replace HK:=am_ (keep_drew HK.out)
        replace HB:=am_ (below_drew1 HB.out)
        have p298:0≤(t282:Int):=of_decide_eq_true (a10_)
        have q298:t282<(t277.length:Int):=of_decide_eq_true (a10_)
        obtain⟨ad298,e298,hx298_0,hx298_1,hx298_2⟩:=at_T33 (Kd.R_reads' HO279.out).2.2 t282 p298 q298
        cases e298
        replace p298:=eq_true p298
        replace q298:=eq_true q298
        have p299:0≤(t282:Int):=of_decide_eq_true (a10_)
        have q299:t282<(t277.length:Int):=of_decide_eq_true (a10_)
        obtain⟨ad299,e299,hx299_0,hx299_1,hx299_2⟩:=at_T33 (Kd.R_reads' HO279.out).2.2 t282 p299 q299
        obtain rfl:ad298=ad299:=(by injection e299)
        replace p299:=eq_true p299
        replace q299:=eq_true q299
        have p300:0≤(t282:Int):=of_decide_eq_true (a10_)
        have q300:t282<(t277.length:Int):=of_decide_eq_true (a10_)
        obtain⟨ad300,e300,hx300_0,hx300_1,hx300_2⟩:=at_T33 (Kd.R_reads' HO279.out).2.2 t282 p300 q300
        obtain rfl:ad298=ad300:=(by injection e300)
        replace p300:=eq_true p300
        replace q300:=eq_true q300
        refine start_ (n:=21) (S:=fun w'=>w'.cell? (ad298.add ((t282).toNat*3))=some (.int .i64 ((rd_T33 t277 t282).f0))∧w'.cell? ⟨(ad298.add ((t282).toNat*3)).block,(ad298.add ((t282).toNat*3)).off+1,none⟩=some (.int .i64 ((rd_T33 t277 t282).f1))∧w'.cell? ⟨(ad298.add ((t282).toNat*3)).block,(ad298.add ((t282).toNat*3)).off+2,none⟩=some (.int .i64 ((rd_T33 t277 t282).f2))∧w'.cell? (ad298.add ((t282).toNat*3))=some (.int .i64 ((rd_T33 t277 t282).f0))∧w'.cell? ⟨(ad298.add ((t282).toNat*3)).block,(ad298.add ((t282).toNat*3)).off+1,none⟩=some (.int .i64 ((rd_T33 t277 t282).f1))∧w'.cell? ⟨(ad298.add ((t282).toNat*3)).block,(ad298.add ((t282).toNat*3)).off+2,none⟩=some (.int .i64 ((rd_T33 t277 t282).f2))∧w'.cell? (ad298.add ((t282).toNat*3))=some (.int .i64 ((rd_T33 t277 t282).f0))∧w'.cell? ⟨(ad298.add ((t282).toNat*3)).block,(ad298.add ((t282).toNat*3)).off+1,none⟩=some (.int .i64 ((rd_T33 t277 t282).f1))∧w'.cell? ⟨(ad298.add ((t282).toNat*3)).block,(ad298.add ((t282).toNat*3)).off+2,none⟩=some (.int .i64 ((rd_T33 t277 t282).f2))) (ds:=[18,19]) #[false,false,false,false,false,false,false,false,false,false,false,false,false,false,false,false,false,false,false,false,false] (by kernel_rfl) rfl rfl ⟨hx298_0,hx298_1,hx298_2,hx299_0,hx299_1,hx299_2,hx300_0,hx300_1,hx300_2⟩ (fun hHeld=>?_);refine with_tabW spec_l1Cur_anySheet.tab10 spec_l1Cur_anySheet.bits10 (fun HT_ HW_=>?_)
        generalize w34.drew=w35 at HO279 HI0 HK HB hx298_0 hx298_1 hx298_2 hx299_0 hx299_1 hx299_2 hx300_0 hx300_1 hx300_2 hHeld ⊢
        refine pure_ (i:=0) (N:=some 34) (v:=?_) (a':=?_) #[true,false,false,false,false,false,false,false,false,false,false,false,false,false,false,false,false,false,false,false,false] rfl rfl (any_of HT_.out (by kernel_rfl)) (fun _ _ _ h=>h) (Or.inl ⟨by rfl,?_⟩) ?_ ?_
        rotate_left
        ·intro w'
         go_simp
         with_reducible rfl
        rotate_left
        ·simp only[Act.put,pu_]
         rfl
        refine pure_ (i:=1) (N:=some 35) (v:=?_) (a':=?_) #[true,true,false,false,false,false,false,false,false,false,false,false,false,false,false,false,false,false,false,false,false] rfl rfl (any_of HT_.out (by kernel_rfl)) (fun _ _ _ h=>h) (Or.inl ⟨by rfl,?_⟩) ?_ ?_
        rotate_left
        ·intro w'
         go_simp
         with_reducible rfl
        rotate_left
        ·simp only[Act.put,pu_]
         rfl
        refine pure_ (i:=2) (N:=some 36) (v:=?_) (a':=?_) #[true,true,true,false,false,false,false,false,false,false,false,false,false,false,false,false,false,false,false,false,false] rfl rfl (any_of HT_.out (by kernel_rfl)) (fun _ _ _ h=>h) (Or.inl ⟨by rfl,?_⟩) ?_ ?_
        rotate_left
        ·intro w'
         go_simp
         with_reducible rfl
        rotate_left
        ·simp only[Act.put,pu_]
         rfl
        refine pure_ (i:=3) (N:=some 37) (v:=?_) (a':=?_) #[true,true,true,true,false,false,false,false,false,false,false,false,false,false,false,false,false,false,false,false,false] rfl rfl (any_of HT_.out (by kernel_rfl)) (fun _ _ _ h=>h) (Or.inl ⟨by rfl,?_⟩) ?_ ?_
        rotate_left
        ·intro w'
         go_simp
         with_reducible rfl
        rotate_left
        ·simp only[Act.put,pu_]
         rfl
        refine pure_ (i:=4) (N:=some 38) (v:=?_) (a':=?_) #[true,true,true,true,true,false,false,false,false,false,false,false,false,false,false,false,false,false,false,false,false] rfl rfl (any_of HT_.out (by kernel_rfl)) (fun _ _ _ h=>h) (Or.inl ⟨by rfl,?_⟩) ?_ ?_
        rotate_left
        ·intro w'
         go_simp
         with_reducible rfl
        rotate_left
        ·simp only[Act.put,pu_]
         rfl
        refine pure_ (i:=6) (N:=some 40) (v:=?_) (a':=?_) #[true,true,true,true,true,false,true,false,false,false,false,false,false,false,false,false,false,false,false,false,false] rfl rfl (any_of HT_.out (by kernel_rfl)) (fun _ _ _ h=>h) (Or.inl ⟨by rfl,?_⟩) ?_ ?_
        rotate_left
        ·intro w'
         go_simp
         with_reducible rfl
        rotate_left
        ·simp only[Act.put,pu_]
         rfl
        refine pure_ (i:=7) (N:=some 41) (v:=?_) (a':=?_) #[true,true,true,true,true,false,true,true,false,false,false,false,false,false,false,false,false,false,false,false,false] rfl rfl (any_of HT_.out (by kernel_rfl)) (fun _ _ _ h=>h) (Or.inl ⟨by rfl,?_⟩) ?_ ?_
        rotate_left
        ·intro w'
         go_simp
         with_reducible rfl
        rotate_left
        ·simp only[Act.put,pu_]
         rfl
        refine pure_ (i:=8) (N:=some 42) (v:=?_) (a':=?_) #[true,true,true,true,true,false,true,true,true,false,false,false,false,false,false,false,false,false,false,false,false] rfl rfl (any_of HT_.out (by kernel_rfl)) (fun _ _ _ h=>h) (Or.inl ⟨by rfl,?_⟩) ?_ ?_
        rotate_left
        ·intro w'
         go_simp
         with_reducible rfl
        rotate_left
        ·simp only[Act.put,pu_]
         rfl
        refine pure_ (i:=9) (N:=some 43) (v:=?_) (a':=?_) #[true,true,true,true,true,false,true,true,true,true,false,false,false,false,false,false,false,false,false,false,false] rfl rfl (any_of HT_.out (by kernel_rfl)) (fun _ _ _ h=>h) (Or.inl ⟨by rfl,?_⟩) ?_ ?_
        rotate_left
        ·intro w'
         go_simp
         with_reducible rfl
        rotate_left
        ·simp only[Act.put,pu_]
         rfl
        refine pure_ (i:=11) (N:=some 45) (v:=?_) (a':=?_) #[true,true,true,true,true,false,true,true,true,true,false,true,false,false,false,false,false,false,false,false,false] rfl rfl (any_of HT_.out (by kernel_rfl)) (fun _ _ _ h=>h) (Or.inl ⟨by rfl,?_⟩) ?_ ?_
        rotate_left
        ·intro w'
         go_simp
         with_reducible rfl
        rotate_left
        ·simp only[Act.put,pu_]
         rfl
        refine pure_ (i:=12) (N:=some 46) (v:=?_) (a':=?_) #[true,true,true,true,true,false,true,true,true,true,false,true,true,false,false,false,false,false,false,false,false] rfl rfl (any_of HT_.out (by kernel_rfl)) (fun _ _ _ h=>h) (Or.inl ⟨by rfl,?_⟩) ?_ ?_
        rotate_left
        ·intro w'
         go_simp
         with_reducible rfl
        rotate_left
        ·simp only[Act.put,pu_]
         rfl
        refine pure_ (i:=13) (N:=some 47) (v:=?_) (a':=?_) #[true,true,true,true,true,false,true,true,true,true,false,true,true,true,false,false,false,false,false,false,false] rfl rfl (any_of HT_.out (by kernel_rfl)) (fun _ _ _ h=>h) (Or.inl ⟨by rfl,?_⟩) ?_ ?_
        rotate_left
        ·intro w'
         go_simp
         with_reducible rfl
        rotate_left
        ·simp only[Act.put,pu_]
         rfl
        refine pure_ (i:=14) (N:=some 48) (v:=?_) (a':=?_) #[true,true,true,true,true,false,true,true,true,true,false,true,true,true,true,false,false,false,false,false,false] rfl rfl (any_of HT_.out (by kernel_rfl)) (fun _ _ _ h=>h) (Or.inl ⟨by rfl,?_⟩) ?_ ?_
        rotate_left
        ·intro w'
         go_simp
         with_reducible rfl
        rotate_left
        ·simp only[Act.put,pu_]
         rfl
        refine take_ (i:=5) (N:=some 39) (v:=?_) (a':=?_) #[true,true,true,true,true,true,true,true,true,true,false,true,true,true,true,false,false,false,false,false,false] rfl rfl (take_ofW HT_.out HW_.out (by kernel_rfl)) (fun _ _ _ h=>h) (Or.inl ⟨by rfl,?_⟩) hHeld ?_ ?_
        rotate_left
        ·rintro w' ⟨s0,s1,s2,s3,s4,s5,s6,s7,s8⟩
         go_simp
         with_reducible rfl
        rotate_left
        ·simp only[Act.put,pu_]
         rfl
        refine take_ (i:=10) (N:=some 44) (v:=?_) (a':=?_) #[true,true,true,true,true,true,true,true,true,true,true,true,true,true,true,false,false,false,false,false,false] rfl rfl (take_ofW HT_.out HW_.out (by kernel_rfl)) (fun _ _ _ h=>h) (Or.inl ⟨by rfl,?_⟩) hHeld ?_ ?_
        rotate_left
        ·rintro w' ⟨s0,s1,s2,s3,s4,s5,s6,s7,s8⟩
         go_simp
         with_reducible rfl
        rotate_left
        ·simp only[Act.put,pu_]
         rfl
        refine take_ (i:=15) (N:=some 49) (v:=?_) (a':=?_) #[true,true,true,true,true,true,true,true,true,true,true,true,true,true,true,true,false,false,false,false,false] rfl rfl (take_ofW HT_.out HW_.out (by kernel_rfl)) (fun _ _ _ h=>h) (Or.inl ⟨by rfl,?_⟩) hHeld ?_ ?_
        rotate_left
        ·rintro w' ⟨s0,s1,s2,s3,s4,s5,s6,s7,s8⟩
         go_simp
         with_reducible rfl
        rotate_left
        ·simp only[Act.put,pu_]
         rfl
        refine pure_ (i:=16) (N:=some 50) (v:=?_) (a':=?_) #[true,true,true,true,true,true,true,true,true,true,true,true,true,true,true,true,true,false,false,false,false] rfl rfl (any_of HT_.out (by kernel_rfl)) (fun _ _ _ h=>h) (Or.inl ⟨by rfl,?_⟩) ?_ ?_
        rotate_left
        ·intro w'
         go_simp
         with_reducible rfl
        rotate_left
        ·simp only[Act.put,pu_]
         rfl
        refine pure_ (i:=17) (N:=some 51) (v:=?_) (a':=?_) #[true,true,true,true,true,true,true,true,true,true,true,true,true,true,true,true,true,true,false,false,false] rfl rfl (any_of HT_.out (by kernel_rfl)) (fun _ _ _ h=>h) (Or.inl ⟨by rfl,?_⟩) ?_ ?_
        rotate_left
        ·intro w'
         go_simp
         with_reducible rfl
        rotate_left
        ·simp only[Act.put,pu_]
         rfl
        refine last_ (i:=18) (N:=some 52) #[true,true,true,true,true,true,true,true,true,true,true,true,true,true,true,true,true,true,true,false,false] rfl rfl (one_of HT_.out (by kernel_rfl)) (by decide) (fun K hK=>?_)
        refine value_ (w1:=?_) (v:=?_) (by rfl) rfl ?_ ?_
        rotate_left 2
        ·go_simp
         constructor
         ·rfl
         ·rfl
        refine hK.out _ _ ?_
        clear hK K
        refine norm_ (a':=?_) ?_ ?_
        rotate_left
        ·show Act.put _ (some 52) _=_
         simp only[Act.put,pu_]
         rfl
        refine last_ (i:=19) (N:=some 53) #[true,true,true,true,true,true,true,true,true,true,true,true,true,true,true,true,true,true,true,true,false] rfl rfl (one_of HT_.out (by kernel_rfl)) (by decide) (fun K hK=>?_)
        refine Kd.R_append_step k33 w.heap.size (by rfl) (.tmp 34) (.tmp 52) 24 33 (.agg #[(.int .i64 0),(.int .i64 0),(.int .i64 0)]) 24 rfl Tryd.underlying24 info33 rfl (by decide) (by omega) (.slice (some ad298) t277.length co32) t277 (⟨(rd_T33 t277 t282).f0,(rd_T33 t277 t282).f2,wrap64 (((rd_T33 t277 t282).f2)+2)⟩:S33) [.int .i64 ((rd_T33 t277 t282).f0), .int .i64 ((rd_T33 t277 t282).f2), .int .i64 (wrap64 (((rd_T33 t277 t282).f2)+2))] (fun _=>True) (fun _=>False) rfl rfl ?aP (fun _ hk=>hk.elim) ?aF ?aO (Below.refl _ _) ?aS ?aL ?_
        (case aP=>exact k33_mkM _ _ _ (⟨(rd_T33 t277 t282).f0,(rd_T33 t277 t282).f2,wrap64 (((rd_T33 t277 t282).f2)+2)⟩:S33))
        (case aF=>exact(fun _ _=>trivial))
        (case aO=>exact((a1_ HO279.out)))
        (case aS=>exact(keep_size (w:=w) (g:=g) (row:=none) (a6_)))
        (case aL=>have:=LMc30.out;omega)
        intro v302 w36 ho hb hg hat
        rw[← Ny301.out]at ho
        have n0_:=am_ (IsS55.grown ((a2_ HI0.out)) hg (IsS55.own_ne HI0.out HO279.out (by decide)))
        have n1_:=am_ (below_weaken ((a4_ HI0.out)) HL.out hb)
        have n2_:=am_ (KeepBut.trans (a6_) (KeepBut.of_grown hg g) (Kd.R_base2 HO279.out))
        have n3_:=am_ (ho)
        clear HI0 HB HK HO279
        have HI0:=n0_
        have HB:=n1_
        have HK:=n2_
        have HO303:=n3_
        clear n0_ n1_ n2_ n3_ ho hb hg hat
        refine hK.out _ _ ?_
        clear hK K
        refine norm_ (a':=?_) ?_ ?_
        rotate_left
        ·show Act.put _ (some 53) _=_
         simp only[Act.put,pu_]
         rfl
        refine pure_ (i:=20) (N:=some 3) (v:=?_) (a':=?_) #[true,true,true,true,true,true,true,true,true,true,true,true,true,true,true,true,true,true,true,true,true] rfl rfl (any_of HT_.out (by kernel_rfl)) (fun _ _ _ h=>h) (Or.inl ⟨by rfl,?_⟩) ?_ ?_
        rotate_left
        ·intro w'
         go_simp
         with_reducible rfl
        rotate_left
        ·simp only[Act.put,pu_]
         rfl
        refine done_ (done_of HT_.out (by kernel_rfl)) ?_
        try go_wp2
        go_ret
        exact⟨_,a8_,(a1_ HO303.out),(a2_ HI0.out),(a4_ HI0.out),a6_⟩
       ·rw[if_neg c30]at H
        exact absurd H (by simp)
      ·rw[if_neg c29]at H
       exact absurd H (by simp)
     ·rw[if_neg c28]at H
      exact absurd H (by simp)
    ·rw[if_neg c27]at H
     have c27b0:(t285 == 2)=false:=beq_eq_false_iff_ne.mpr c27
     have c27b1:(t285 != 2)=true:=bne_iff_ne.mpr c27
     by_cases c37:t285=3
     ·rw[if_pos c37]at H
      have c37b0:(t285 == 3)=true:=beq_iff_eq.mpr c37
      have c37b1:(t285 != 3)=false:=bne_eq_false_iff_eq.mpr c37
      clear c37
      have H':=am_ H
      clear H
      go_enter Tryd.func33,Tryd.ntmps33
      go_wp2_with (first|((with_reducible refine gate_callee (f:=52) rfl ?_);refine goesL_ (some 6) rfl rfl Tryd.func52 (by kernel_rfl) rfl #[.pointer (some ⟨g,0,none⟩)] rfl gd_ ?_;(with_reducible refine(spec_l1Cur_sheet.calls k g s0_0 s0_1 s0_2 t277 t280 t281 w0 _ ?side1 ?side2 A2.out).mono ?_);(case side1=>exact(a2_ HI0.out));(case side2=>exact(a4_ HI0.out));rintro e w38 ⟨v278,rfl,ho0,hi,hb,hk⟩;refine⟨_,rfl,?_⟩;have HO279:=am_ (Kd.R_lower ho0 (keep_size (w:=w) (g:=g) (row:=none) (a6_)));replace HK:=am_ (KeepBut.trans (a6_) hk (.inl rfl));replace HB:=am_ (hb);replace HI0:=am_ (hi);(try clear hb);(try clear hb2);(try clear hk);(try clear hi);(try clear ho0);obtain⟨Ao39,co39,eo39⟩:=Kd.R_slice HO279.out;subst eo39)|((with_reducible refine gate_callee (f:=54) rfl ?_);refine goesL_ (some 13) rfl rfl Tryd.func54 (by kernel_rfl) rfl #[.pointer (some ⟨g,0,none⟩), .int .i64 (t277.length:Int)] rfl gd_ ?_;(with_reducible refine(spec_l1Cur_pick.calls g s0_0 t280 t281 (t277.length:Int) t282 t283 t284 w0 _ ?side1 ?side2 A4.out).mono ?_);(case side1=>exact(a2_ HI0.out));(case side2=>exact(a4_ HI0.out));rintro e w40 ⟨rfl,hi,hb,hk⟩;refine⟨_,rfl,?_⟩;replace HO279:=am_ (Kd.R_mono (Kd.R_keep (IsS55.apart (show IsS55 w0 _ g s0_0 t280 t281 from(a2_ HI0.out)) ((a1_ HO279.out)) (by decide)) hk (fun _ h=>h.2)) (fun _ h=>h.1));replace HK:=am_ (KeepBut.trans (a6_) hk (.inl rfl));replace HB:=am_ (hb);replace HI0:=am_ (hi);(try clear hb);(try clear hb2);(try clear hk);(try clear hi))|((with_reducible refine gate_callee (f:=54) rfl ?_);refine goesL_ (some 15) rfl rfl Tryd.func54 (by kernel_rfl) rfl #[.pointer (some ⟨g,0,none⟩), .int .i64 30] rfl gd_ ?_;(with_reducible refine(spec_l1Cur_pick.calls g s0_0 t283 t284 30 t285 t286 t287 w0 _ ?side1 ?side2 A5.out).mono ?_);(case side1=>exact(a2_ HI0.out));(case side2=>exact(a4_ HI0.out));rintro e w41 ⟨rfl,hi,hb,hk⟩;refine⟨_,rfl,?_⟩;replace HO279:=am_ (Kd.R_mono (Kd.R_keep (IsS55.apart (show IsS55 w0 _ g s0_0 t283 t284 from(a2_ HI0.out)) ((a1_ HO279.out)) (by decide)) hk (fun _ h=>h.2)) (fun _ h=>h.1));replace HK:=am_ (KeepBut.trans (a6_) hk (.inl rfl));replace HB:=am_ (hb);replace HI0:=am_ (hi);(try clear hb);(try clear hb2);(try clear hk);(try clear hi)))
      (try simp only[Act.put,List.setIfInBounds_toArray,List.set_cons_zero,List.set_cons_succ])
      go_loopg [3] k (fun kq v3 w'=>∃(x3_1:List (S33)),Aside0 (spec_l1Cur_anySheet.l0 kq x3_1 s0_0 t286 t287=some (r1,r2,r3))∧Aside0 (kq≤k)∧Aside0 (Kd.R k33 33 w' w.heap.size (fun _=>True) v3 x3_1)∧Aside0 (IsS55 w0 w' g s0_0 t286 t287)∧Aside0 (KeepBut w w' g none)∧Aside0 (Below w0.heap.size w0 w'))
      case atStart=>exact⟨(([]:List (S33))),H',⟨Nat.le_refl _⟩,⟨a29_⟩,⟨(a2_ HI0.out)⟩,⟨a6_⟩,⟨(a4_ HI0.out)⟩⟩
      case round=>
       clear H'
       try clear c1
       try clear p1
       try clear q1
       try clear hx1
       try clear hf1
       try clear c2
       try clear p2
       try clear q2
       try clear hx2
       try clear c3
       try clear c3b0
       try clear c3b1
       try clear p3
       try clear q3
       try clear hx3
       try clear c5
       try clear c6
       try clear c6b0
       try clear c6b1
       try clear p6
       try clear c7
       try clear c8
       try clear c8b0
       try clear c9
       try clear c9b0
       try clear c10
       try clear p10
       try clear q10
       try clear hx10
       try clear hf10
       try clear c16
       try clear hx16
       try clear hf16
       try clear c18
       try clear c18b0
       try clear c18b1
       try clear c19
       try clear c19b0
       try clear c20
       try clear c20b0
       try clear c21
       try clear c27
       try clear c27b0
       try clear c27b1
       try clear c28
       try clear c28b0
       try clear c29
       try clear c29b0
       try clear p29
       try clear q29
       try clear hx29
       try clear c30
       try clear p30
       try clear q30
       try clear hx30
       try clear c33
       try clear c37
       try clear c37b0
       try clear c37b1
       try clear hx10_0
       try clear hx10_1
       try clear hx10_2
       try clear hx16_0
       try clear hx16_1
       try clear hx16_2
       try clear hx294_0
       try clear hx294_1
       try clear hx294_2
       try clear hx298_0
       try clear hx298_1
       try clear hx298_2
       try clear hx299_0
       try clear hx299_1
       try clear hx299_2
       try clear hx300_0
       try clear hx300_1
       try clear hx300_2
       try clear p10
       try clear p294
       try clear p298
       try clear p299
       try clear p300
       try clear q10
       try clear q294
       try clear q298
       try clear q299
       try clear q300
       obtain⟨x3_1,HA,HK1,HO_3,HI0,HK,HB⟩:=hrel
       cases gk with
       | zero=>exact absurd HA.out (by simp[spec_l1Cur_anySheet.l0])
       | succ k1=>
        have H:=HA.out
        clear HA
        simp only[spec_l1Cur_anySheet.l0]at H
        by_cases c42:(x3_1.length:Int)<61
        ·rw[if_pos c42]at H
         have c42b0:decide ((x3_1.length:Int)<61)=true:=decide_eq_true c42
         have c42b1:decide (x3_1.length<61)=true:=decide_eq_true (by omega)
         clear c42
         by_cases c43:x3_1.length<5864062014805
         ·rw[if_pos c43]at H
          have LMc43:=am_ c43
          clear c43
          obtain⟨y304,hy304⟩:∃y_:List (S33),y_=(x3_1 ++ [(⟨1,wrap64 (3*(x3_1.length:Int)),wrap64 ((wrap64 (3*(x3_1.length:Int)))+1)⟩:S33)]):=⟨_,rfl⟩
          replace H:(spec_l1Cur_anySheet.l0 k1 y304 s0_0 t286 t287)=some (r1,r2,r3):=by first|(rw[hy304];with_reducible exact H)|(have H2_:=(Option.bind_some _ _).symm.trans H;rw[hy304];with_reducible exact H2_)|(have H2_:=(Option.bind_some _ _).symm.trans H;with_reducible exact H2_) | with_reducible exact H|(rw[hy304];exact H)|exact H
          have Ny304:=am_ hy304
          clear hy304
          have H':=am_ H
          clear H
          obtain⟨Ao44,co44,eo44⟩:=Kd.R_slice HO_3.out
          subst eo44
          go_wp2_with (first|((with_reducible refine gate_builtin (b:= .append) (xs:= #[.tmp 59, .tmp 68]) rfl ?_);at_builtin;refine Kd.R_append k33 w.heap.size rfl (.tmp 59) (.tmp 68) 24 33 (.agg #[(.int .i64 0),(.int .i64 0),(.int .i64 0)]) 24 rfl Tryd.underlying24 info33 rfl (by decide) (by omega) (.slice Ao44 x3_1.length co44) x3_1 (⟨1,wrap64 (3*(x3_1.length:Int)),wrap64 ((wrap64 (3*(x3_1.length:Int)))+1)⟩:S33) [.int .i64 1, .int .i64 (wrap64 (3*(x3_1.length:Int))), .int .i64 (wrap64 ((wrap64 (3*(x3_1.length:Int)))+1))] (fun _=>True) (fun _=>False) rfl rfl ?aP (fun _ hk=>hk.elim) ?aF ?aO (Below.refl _ _) ?aS ?aL ?_;(case aP=>exact k33_mkM _ _ _ (⟨1,wrap64 (3*(x3_1.length:Int)),wrap64 ((wrap64 (3*(x3_1.length:Int)))+1)⟩:S33));(case aF=>exact(fun _ _=>trivial));(case aO=>exact((a1_ HO_3.out)));(case aS=>exact(keep_size (w:=w) (g:=g) (row:=none) (a6_)));(case aL=>have:=LMc43.out;omega);intro v305 w45 ho hb hg hat;rw[← Ny304.out]at ho;have n0_:=am_ (IsS55.grown ((a2_ HI0.out)) hg (IsS55.own_ne HI0.out HO_3.out (by decide)));have n1_:=am_ (below_weaken ((a4_ HI0.out)) HL.out hb);have n2_:=am_ (KeepBut.trans (a6_) (KeepBut.of_grown hg g) (Kd.R_base2 HO_3.out));have n3_:=am_ (ho);clear HI0 HB HK HO_3;have HI0:=n0_;have HB:=n1_;have HK:=n2_;have HO306:=n3_;clear n0_ n1_ n2_ n3_ ho hb hg hat))
          go_roundg k1
          case measure=>have:=HK1.out;omega
          case rel=>exact⟨(y304),H',⟨by have:=HK1.out;omega⟩,⟨(a1_ HO306.out)⟩,⟨(a2_ HI0.out)⟩,⟨a6_⟩,⟨(a4_ HI0.out)⟩⟩
         ·rw[if_neg c43]at H
          exact absurd H (by simp)
        ·rw[if_neg c42]at H
         have c42b0:decide ((x3_1.length:Int)<61)=false:=decide_eq_false c42
         have c42b1:decide (x3_1.length<61)=false:=decide_eq_false (by omega)
         clear c42
         simp only[Option.some.injEq,Prod.mk.injEq]at H
         obtain⟨rfl,rfl,rfl⟩:=H
         obtain⟨Ao46,co46,eo46⟩:=Kd.R_slice HO_3.out
         subst eo46
         go_wp2
         go_ret
         exact⟨_,a8_,(a1_ HO_3.out),(a2_ HI0.out),(a4_ HI0.out),a6_⟩
     ·rw[if_neg c37]at H
      have c37b0:(t285 == 3)=false:=beq_eq_false_iff_ne.mpr c37
      have c37b1:(t285 != 3)=true:=bne_iff_ne.mpr c37
      simp only[Option.some.injEq,Prod.mk.injEq]at H
      obtain⟨rfl,rfl,rfl⟩:=H
      go_enter Tryd.func33,Tryd.ntmps33
      go_wp2_with (first|((with_reducible refine gate_callee (f:=52) rfl ?_);refine goesL_ (some 6) rfl rfl Tryd.func52 (by kernel_rfl) rfl #[.pointer (some ⟨g,0,none⟩)] rfl gd_ ?_;(with_reducible refine(spec_l1Cur_sheet.calls k g s0_0 s0_1 s0_2 t277 t280 t281 w0 _ ?side1 ?side2 A2.out).mono ?_);(case side1=>exact(a2_ HI0.out));(case side2=>exact(a4_ HI0.out));rintro e w47 ⟨v278,rfl,ho0,hi,hb,hk⟩;refine⟨_,rfl,?_⟩;have HO279:=am_ (Kd.R_lower ho0 (keep_size (w:=w) (g:=g) (row:=none) (a6_)));replace HK:=am_ (KeepBut.trans (a6_) hk (.inl rfl));replace HB:=am_ (hb);replace HI0:=am_ (hi);(try clear hb);(try clear hb2);(try clear hk);(try clear hi);(try clear ho0);obtain⟨Ao48,co48,eo48⟩:=Kd.R_slice HO279.out;subst eo48)|((with_reducible refine gate_callee (f:=54) rfl ?_);refine goesL_ (some 13) rfl rfl Tryd.func54 (by kernel_rfl) rfl #[.pointer (some ⟨g,0,none⟩), .int .i64 (t277.length:Int)] rfl gd_ ?_;(with_reducible refine(spec_l1Cur_pick.calls g s0_0 t280 t281 (t277.length:Int) t282 t283 t284 w0 _ ?side1 ?side2 A4.out).mono ?_);(case side1=>exact(a2_ HI0.out));(case side2=>exact(a4_ HI0.out));rintro e w49 ⟨rfl,hi,hb,hk⟩;refine⟨_,rfl,?_⟩;replace HO279:=am_ (Kd.R_mono (Kd.R_keep (IsS55.apart (show IsS55 w0 _ g s0_0 t280 t281 from(a2_ HI0.out)) ((a1_ HO279.out)) (by decide)) hk (fun _ h=>h.2)) (fun _ h=>h.1));replace HK:=am_ (KeepBut.trans (a6_) hk (.inl rfl));replace HB:=am_ (hb);replace HI0:=am_ (hi);(try clear hb);(try clear hb2);(try clear hk);(try clear hi))|((with_reducible refine gate_callee (f:=54) rfl ?_);refine goesL_ (some 15) rfl rfl Tryd.func54 (by kernel_rfl) rfl #[.pointer (some ⟨g,0,none⟩), .int .i64 30] rfl gd_ ?_;(with_reducible refine(spec_l1Cur_pick.calls g s0_0 t283 t284 30 t285 t286 t287 w0 _ ?side1 ?side2 A5.out).mono ?_);(case side1=>exact(a2_ HI0.out));(case side2=>exact(a4_ HI0.out));rintro e w50 ⟨rfl,hi,hb,hk⟩;refine⟨_,rfl,?_⟩;replace HO279:=am_ (Kd.R_mono (Kd.R_keep (IsS55.apart (show IsS55 w0 _ g s0_0 t283 t284 from(a2_ HI0.out)) ((a1_ HO279.out)) (by decide)) hk (fun _ h=>h.2)) (fun _ h=>h.1));replace HK:=am_ (KeepBut.trans (a6_) hk (.inl rfl));replace HB:=am_ (hb);replace HI0:=am_ (hi);(try clear hb);(try clear hb2);(try clear hk);(try clear hi)))
      go_ret
      exact⟨_,a8_,(a1_ HO279.out),(a2_ HI0.out),(a4_ HI0.out),a6_⟩
 ·rw[if_neg c3]at H
  have c3b0:decide (0<(t277.length:Int))=false:=decide_eq_false c3
  have c3b1:decide (0<t277.length)=false:=decide_eq_false (by omega)
  clear c3
  simp only[Option.some.injEq,Prod.mk.injEq]at H
  obtain⟨rfl,rfl,rfl⟩:=H
  go_enter Tryd.func33,Tryd.ntmps33
  go_wp2_with (first|((with_reducible refine gate_callee (f:=52) rfl ?_);refine goesL_ (some 6) rfl rfl Tryd.func52 (by kernel_rfl) rfl #[.pointer (some ⟨g,0,none⟩)] rfl gd_ ?_;(with_reducible refine(spec_l1Cur_sheet.calls k g s0_0 s0_1 s0_2 t277 t280 t281 w0 _ ?side1 ?side2 A2.out).mono ?_);(case side1=>exact(a2_ HI0.out));(case side2=>exact(a4_ HI0.out));rintro e w51 ⟨v278,rfl,ho0,hi,hb,hk⟩;refine⟨_,rfl,?_⟩;have HO279:=am_ (Kd.R_lower ho0 (keep_size (w:=w) (g:=g) (row:=none) (a6_)));replace HK:=am_ (KeepBut.trans (a6_) hk (.inl rfl));replace HB:=am_ (hb);replace HI0:=am_ (hi);(try clear hb);(try clear hb2);(try clear hk);(try clear hi);(try clear ho0);obtain⟨Ao52,co52,eo52⟩:=Kd.R_slice HO279.out;subst eo52))
  go_ret
  exact⟨_,a8_,(a1_ HO279.out),(a2_ HI0.out),(a4_ HI0.out),a6_⟩

/-! ### spec_DrawChecksumOf: function 6 -/
def spec_DrawChecksumOf.f (k:Nat) (l0:List Int):Option ((List (S33))):=(spec_l1Cur_anySheet.f k l0 0 0).bind fun bt308=>(some bt308.1)
theorem spec_DrawChecksumOf.mono:∀a0 k,LeO (spec_DrawChecksumOf.f k a0) (spec_DrawChecksumOf.f (k+1) a0):=by
 intro a0 k
 unfold spec_DrawChecksumOf.f
 repeat' first
  |(with_reducible exact spec_l1Cur_anySheet.mono _ _ _ _)
  |(with_reducible exact LeO.refl _)
  |(with_reducible exact LeO.none _)
  |(with_reducible refine LeO.ite ?_ ?_)
  |(with_reducible refine LeO.bind ?_ (fun _=>?_))
  |exact spec_l1Cur_anySheet.mono _ _ _ _
  |exact LeO.none _
   | refine LeO.ite ?_ ?_
   | refine LeO.bind ?_ (fun _=>?_)
set_option maxHeartbeats 8000000 in
set_option maxRecDepth 100000 in
theorem spec_DrawChecksumOf.calls (k:Nat) (A0:Option Addr) (c0:Nat) (l0:List Int) (r:List (S33)) (w:World) (hr0:Kd.C (Kd.int .u8) w A0 l0.length l0) (hc0:l0.length≤c0) (h:spec_DrawChecksumOf.f k l0=some r) :
 Calls Tryd.prog 6 #[.slice A0 l0.length c0] w fun e w'=>∃v0_:Value,e = .returned (v0_)∧Kd.R k33 33 w' w.heap.size (fun _=>True) v0_ r∧Below w.heap.size w w':=by
 have hu55:=Tryd.underlying55
 have HR0:=am_ hr0
 have HC0:=am_ hc0
 clear hr0 hc0
 have HB:=am_ (Below.refl w.heap.size w)
 have H:((spec_l1Cur_anySheet.f k l0 0 0).bind fun bt308=>(some bt308.1))=some r:=h
 clear h
 obtain⟨⟨t308,t311,t312⟩,A2,H⟩:=bo_ H
 try dsimp only at H
 obtain rfl:=Option.some.inj H
 go_enter Tryd.func6,Tryd.ntmps6
 go_wp2_with (first|((with_reducible refine gate_dst (N:=6) rfl ?_);refine box_event ?hg (N:=6) ?hd (cs:= #[.slice A0 l0.length c0, .int .i64 0, .int .u64 0]) (t:=55) ?hr ?_;(case hd=>rfl);(case hg=>rfl);(case hr=>exact hr_);intro g307 hg w3 hbox hb;have HI307:=am_ ((⟨_,_,hbox,by rw[hg];exact(below_size (a0_)),HR0.out⟩:IsS55 w w3 g307 l0 0 0));replace HB:=am_ (below_step (a0_) hb);clear hb hbox hg)|((with_reducible refine gate_callee (f:=33) rfl ?_);refine goesL_ (some 8) rfl rfl Tryd.func33 (by kernel_rfl) rfl #[.pointer (some ⟨g307,0,none⟩)] rfl gd_ ?_;(with_reducible refine(spec_l1Cur_anySheet.calls k g307 l0 0 0 t308 t311 t312 w _ ?side1 ?side2 A2.out).mono ?_);(case side1=>exact(a2_ HI307.out));(case side2=>exact(a4_ HI307.out));rintro e w4 ⟨v309,rfl,ho0,hi,hb,hk⟩;refine⟨_,rfl,?_⟩;have HO310:=am_ (Kd.R_lower ho0 (below_size ((a4_ HI307.out))));replace HB:=am_ (hb);replace HI307:=am_ (hi);(try clear hb);(try clear hb2);(try clear hk);(try clear hi);(try clear ho0)))
 go_ret
 exact⟨_,a8_,(a1_ HO310.out),(a4_ HI307.out)⟩

/-! ### impl_isTrack: function 76 -/
def impl_isTrack.f (a0:Int):Option (Bool):=if a0≥0 then(some (decide (a0<20))) else(some false)
set_option maxHeartbeats 8000000 in
set_option maxRecDepth 100000 in
theorem impl_isTrack.calls (a0:Int) (r:Bool) (w:World) (h:impl_isTrack.f a0=some r) :
 Calls Tryd.prog 76 #[.int .i64 a0] w fun e w'=>e = .returned (.bool r)∧Drawn0 w w':=by
 have H:(if a0≥0 then(some (decide (a0<20))) else(some false))=some r:=h
 clear h
 by_cases c2:a0≥0
 ·rw[if_pos c2]at H
  have c2b0:decide (0≤a0)=true:=decide_eq_true c2
  clear c2
  obtain rfl:=Option.some.inj H
  go_enter Tryd.func76,Tryd.ntmps76
  go_wp2
  go_ret
  exact⟨by first | rfl|(simp;done)|(simp[*];done),a24_⟩
 ·rw[if_neg c2]at H
  have c2b0:decide (0≤a0)=false:=decide_eq_false c2
  clear c2
  obtain rfl:=Option.some.inj H
  go_enter Tryd.func76,Tryd.ntmps76
  go_wp2
  go_ret
  exact⟨by first | rfl|(simp;done)|(simp[*];done),a24_⟩

/-! ### impl_IsHole: function 42 -/
def impl_IsHole.f (a0_0:Int) (a0_1:Int) (a0_2:Int):Option (Bool):=(impl_isTrack.f a0_0).bind fun t314=>(if t314=true then(if a0_1≥0 then(if a0_1<a0_2 then(some (decide (a0_2≤2000))) else(some false)) else(some false)) else(some false))
set_option maxHeartbeats 8000000 in
set_option maxRecDepth 100000 in
theorem impl_IsHole.calls (a0_0:Int) (a0_1:Int) (a0_2:Int) (r:Bool) (w:World) (h:impl_IsHole.f a0_0 a0_1 a0_2=some r) :
 Calls Tryd.prog 42 #[.agg #[.int .i64 a0_0, .int .i64 a0_1, .int .i64 a0_2]] w fun e w'=>e = .returned (.bool r)∧Below w.heap.size w w':=by
 have hu33:=Tryd.underlying33
 have HB:=am_ (Below.refl w.heap.size w)
 have H:((impl_isTrack.f a0_0).bind fun t314=>(if t314=true then(if a0_1≥0 then(if a0_1<a0_2 then(some (decide (a0_2≤2000))) else(some false)) else(some false)) else(some false)))=some r:=h
 clear h
 obtain⟨t314,A2,H⟩:=bo_ H
 try dsimp only at H
 by_cases c3:t314=true
 ·subst c3
  replace H:(if a0_1≥0 then(if a0_1<a0_2 then(some (decide (a0_2≤2000))) else(some false)) else(some false))=some r:=by rw[if_pos rfl]at H;exact H
  by_cases c4:a0_1≥0
  ·rw[if_pos c4]at H
   have c4b0:decide (0≤a0_1)=true:=decide_eq_true c4
   clear c4
   by_cases c5:a0_1<a0_2
   ·rw[if_pos c5]at H
    have c5b0:decide (a0_1<a0_2)=true:=decide_eq_true c5
    clear c5
    obtain rfl:=Option.some.inj H
    go_enter Tryd.func42,Tryd.ntmps42
    go_wp2_with (first|((with_reducible refine gate_dst (N:=1) rfl ?_);refine box_event ?hg (N:=1) ?hd (cs:= #[.int .i64 a0_0, .int .i64 a0_1, .int .i64 a0_2]) (t:=33) ?hr ?_;(case hd=>rfl);(case hg=>rfl);(case hr=>exact hr_);intro gb313 hg w6 hbox hb;have BK313:=am_ (hbox);have GW313:=am_ ((by rw[hg];exact(below_size (a0_)):w.heap.size≤gb313));have GE313:=am_ ((by rw[hg];exact(below_size (a0_)):w.heap.size≤gb313));replace HB:=am_ (below_step (a0_) hb);clear hb hbox hg;have hcz7_0:w6.cell? ⟨gb313,0,none⟩=some (.int .i64 a0_0):=(blk_cell BK313.out 0).trans rfl;have hcz7_1:w6.cell? ⟨gb313,1,none⟩=some (.int .i64 a0_1):=(blk_cell BK313.out 1).trans rfl;have hcz7_2:w6.cell? ⟨gb313,2,none⟩=some (.int .i64 a0_2):=(blk_cell BK313.out 2).trans rfl;have hfz7_0:=blk_frozen BK313.out 0;have hfz7_1:=blk_frozen BK313.out 1;have hfz7_2:=blk_frozen BK313.out 2)|((with_reducible refine gate_callee (f:=76) rfl ?_);refine goesL_ (some 5) rfl rfl Tryd.func76 (by kernel_rfl) rfl #[.int .i64 a0_0] rfl gd_ ?_;(with_reducible refine(impl_isTrack.calls a0_0 true _ A2.out).mono ?_);rintro e w' ⟨rfl,⟨nd,rfl⟩⟩;refine⟨_,rfl,?_⟩))
    go_ret
    exact⟨a8_,(a3_ GE313.out)⟩
   ·rw[if_neg c5]at H
    have c5b0:decide (a0_1<a0_2)=false:=decide_eq_false c5
    clear c5
    obtain rfl:=Option.some.inj H
    go_enter Tryd.func42,Tryd.ntmps42
    go_wp2_with (first|((with_reducible refine gate_dst (N:=1) rfl ?_);refine box_event ?hg (N:=1) ?hd (cs:= #[.int .i64 a0_0, .int .i64 a0_1, .int .i64 a0_2]) (t:=33) ?hr ?_;(case hd=>rfl);(case hg=>rfl);(case hr=>exact hr_);intro gb313 hg w8 hbox hb;have BK313:=am_ (hbox);have GW313:=am_ ((by rw[hg];exact(below_size (a0_)):w.heap.size≤gb313));have GE313:=am_ ((by rw[hg];exact(below_size (a0_)):w.heap.size≤gb313));replace HB:=am_ (below_step (a0_) hb);clear hb hbox hg;have hcz9_0:w8.cell? ⟨gb313,0,none⟩=some (.int .i64 a0_0):=(blk_cell BK313.out 0).trans rfl;have hcz9_1:w8.cell? ⟨gb313,1,none⟩=some (.int .i64 a0_1):=(blk_cell BK313.out 1).trans rfl;have hcz9_2:w8.cell? ⟨gb313,2,none⟩=some (.int .i64 a0_2):=(blk_cell BK313.out 2).trans rfl;have hfz9_0:=blk_frozen BK313.out 0;have hfz9_1:=blk_frozen BK313.out 1;have hfz9_2:=blk_frozen BK313.out 2)|((with_reducible refine gate_callee (f:=76) rfl ?_);refine goesL_ (some 5) rfl rfl Tryd.func76 (by kernel_rfl) rfl #[.int .i64 a0_0] rfl gd_ ?_;(with_reducible refine(impl_isTrack.calls a0_0 true _ A2.out).mono ?_);rintro e w' ⟨rfl,⟨nd,rfl⟩⟩;refine⟨_,rfl,?_⟩))
    go_ret
    exact⟨a8_,(a3_ GE313.out)⟩
  ·rw[if_neg c4]at H
   have c4b0:decide (0≤a0_1)=false:=decide_eq_false c4
   clear c4
   obtain rfl:=Option.some.inj H
   go_enter Tryd.func42,Tryd.ntmps42
   go_wp2_with (first|((with_reducible refine gate_dst (N:=1) rfl ?_);refine box_event ?hg (N:=1) ?hd (cs:= #[.int .i64 a0_0, .int .i64 a0_1, .int .i64 a0_2]) (t:=33) ?hr ?_;(case hd=>rfl);(case hg=>rfl);(case hr=>exact hr_);intro gb313 hg w10 hbox hb;have BK313:=am_ (hbox);have GW313:=am_ ((by rw[hg];exact(below_size (a0_)):w.heap.size≤gb313));have GE313:=am_ ((by rw[hg];exact(below_size (a0_)):w.heap.size≤gb313));replace HB:=am_ (below_step (a0_) hb);clear hb hbox hg;have hcz11_0:w10.cell? ⟨gb313,0,none⟩=some (.int .i64 a0_0):=(blk_cell BK313.out 0).trans rfl;have hcz11_1:w10.cell? ⟨gb313,1,none⟩=some (.int .i64 a0_1):=(blk_cell BK313.out 1).trans rfl;have hcz11_2:w10.cell? ⟨gb313,2,none⟩=some (.int .i64 a0_2):=(blk_cell BK313.out 2).trans rfl;have hfz11_0:=blk_frozen BK313.out 0;have hfz11_1:=blk_frozen BK313.out 1;have hfz11_2:=blk_frozen BK313.out 2)|((with_reducible refine gate_callee (f:=76) rfl ?_);refine goesL_ (some 5) rfl rfl Tryd.func76 (by kernel_rfl) rfl #[.int .i64 a0_0] rfl gd_ ?_;(with_reducible refine(impl_isTrack.calls a0_0 true _ A2.out).mono ?_);rintro e w' ⟨rfl,⟨nd,rfl⟩⟩;refine⟨_,rfl,?_⟩))
   go_ret
   exact⟨a8_,(a3_ GE313.out)⟩
 ·replace c3:=Bool.eq_false_iff.mpr c3
  subst c3
  replace H:(some false)=some r:=by rw[if_neg (show ¬(false=true) by decide)]at H;exact H
  obtain rfl:=Option.some.inj H
  go_enter Tryd.func42,Tryd.ntmps42
  go_wp2_with (first|((with_reducible refine gate_dst (N:=1) rfl ?_);refine box_event ?hg (N:=1) ?hd (cs:= #[.int .i64 a0_0, .int .i64 a0_1, .int .i64 a0_2]) (t:=33) ?hr ?_;(case hd=>rfl);(case hg=>rfl);(case hr=>exact hr_);intro gb313 hg w12 hbox hb;have BK313:=am_ (hbox);have GW313:=am_ ((by rw[hg];exact(below_size (a0_)):w.heap.size≤gb313));have GE313:=am_ ((by rw[hg];exact(below_size (a0_)):w.heap.size≤gb313));replace HB:=am_ (below_step (a0_) hb);clear hb hbox hg;have hcz13_0:w12.cell? ⟨gb313,0,none⟩=some (.int .i64 a0_0):=(blk_cell BK313.out 0).trans rfl;have hcz13_1:w12.cell? ⟨gb313,1,none⟩=some (.int .i64 a0_1):=(blk_cell BK313.out 1).trans rfl;have hcz13_2:w12.cell? ⟨gb313,2,none⟩=some (.int .i64 a0_2):=(blk_cell BK313.out 2).trans rfl;have hfz13_0:=blk_frozen BK313.out 0;have hfz13_1:=blk_frozen BK313.out 1;have hfz13_2:=blk_frozen BK313.out 2)|((with_reducible refine gate_callee (f:=76) rfl ?_);refine goesL_ (some 5) rfl rfl Tryd.func76 (by kernel_rfl) rfl #[.int .i64 a0_0] rfl gd_ ?_;(with_reducible refine(impl_isTrack.calls a0_0 false _ A2.out).mono ?_);rintro e w' ⟨rfl,⟨nd,rfl⟩⟩;refine⟨_,rfl,?_⟩))
  go_ret
  exact⟨a8_,(a3_ GE313.out)⟩

/-! ### impl_holeLess: function 73 -/
def impl_holeLess.f (a0_0:Int) (a0_1:Int) (a0_2:Int) (a1_0:Int) (a1_1:Int) (a1_2:Int):Option (Bool):=if a0_1=a1_1 then(some (decide (a0_0<a1_0))) else(some (decide (a0_1<a1_1)))
set_option maxHeartbeats 8000000 in
set_option maxRecDepth 100000 in
theorem impl_holeLess.calls (a0_0:Int) (a0_1:Int) (a0_2:Int) (a1_0:Int) (a1_1:Int) (a1_2:Int) (r:Bool) (w:World) (h:impl_holeLess.f a0_0 a0_1 a0_2 a1_0 a1_1 a1_2=some r) :
 Calls Tryd.prog 73 #[.agg #[.int .i64 a0_0, .int .i64 a0_1, .int .i64 a0_2], .agg #[.int .i64 a1_0, .int .i64 a1_1, .int .i64 a1_2]] w fun e w'=>e = .returned (.bool r)∧Below w.heap.size w w':=by
 have hu33:=Tryd.underlying33
 have HB:=am_ (Below.refl w.heap.size w)
 have H:(if a0_1=a1_1 then(some (decide (a0_0<a1_0))) else(some (decide (a0_1<a1_1))))=some r:=h
 clear h
 by_cases c3:a0_1=a1_1
 ·rw[if_pos c3]at H
  have c3b0:(a0_1 == a1_1)=true:=beq_iff_eq.mpr c3
  have c3b1:(a0_1 != a1_1)=false:=bne_eq_false_iff_eq.mpr c3
  clear c3
  obtain rfl:=Option.some.inj H
  go_enter Tryd.func73,Tryd.ntmps73
  go_wp2_with (first|((with_reducible refine gate_dst (N:=2) rfl ?_);refine box_event ?hg (N:=2) ?hd (cs:= #[.int .i64 a0_0, .int .i64 a0_1, .int .i64 a0_2]) (t:=33) ?hr ?_;(case hd=>rfl);(case hg=>rfl);(case hr=>exact hr_);intro gb315 hg w4 hbox hb;have BK315:=am_ (hbox);have GW315:=am_ ((by rw[hg];exact(below_size (a0_)):w.heap.size≤gb315));have GE315:=am_ ((by rw[hg];exact(below_size (a0_)):w.heap.size≤gb315));replace HB:=am_ (below_step (a0_) hb);clear hb hbox hg)|((with_reducible refine gate_dst (N:=3) rfl ?_);refine box_event ?hg (N:=3) ?hd (cs:= #[.int .i64 a1_0, .int .i64 a1_1, .int .i64 a1_2]) (t:=33) ?hr ?_;(case hd=>rfl);(case hg=>rfl);(case hr=>exact hr_);intro gb316 hg w5 hbox hb;have BK316:=am_ (hbox);have GW316:=am_ ((by rw[hg];exact(below_size ((a3_ GE315.out))):w.heap.size≤gb316));have GE316:=am_ ((by rw[hg];exact(below_size ((a3_ GE315.out))):w.heap.size≤gb316));replace HB:=am_ (below_step ((a3_ GE315.out)) hb);have NB315_316:=am_ ((by rw[hg];exact Nat.ne_of_lt (blk_lt (g:=gb315) (o:= .cells #[.int .i64 a0_0, .int .i64 a0_1, .int .i64 a0_2] 33 (0,0)) ((a5_ BK315.out))):gb315≠gb316));have NB316_315:=am_ ((by rw[hg];exact Nat.ne_of_gt (blk_lt (g:=gb315) (o:= .cells #[.int .i64 a0_0, .int .i64 a0_1, .int .i64 a0_2] 33 (0,0)) ((a5_ BK315.out))):gb316≠gb315));replace BK315:=am_ (blk_below (g:=gb315) (o:= .cells #[.int .i64 a0_0, .int .i64 a0_1, .int .i64 a0_2] 33 (0,0)) ((a5_ BK315.out)) hb);clear hb hbox hg;have hnb6:=NB315_316.out;have hnc6:=NB316_315.out;have hcz7_0:w5.cell? ⟨gb315,0,none⟩=some (.int .i64 a0_0):=(blk_cell BK315.out 0).trans rfl;have hcz7_1:w5.cell? ⟨gb315,1,none⟩=some (.int .i64 a0_1):=(blk_cell BK315.out 1).trans rfl;have hcz7_2:w5.cell? ⟨gb315,2,none⟩=some (.int .i64 a0_2):=(blk_cell BK315.out 2).trans rfl;have hfz7_0:=blk_frozen BK315.out 0;have hfz7_1:=blk_frozen BK315.out 1;have hfz7_2:=blk_frozen BK315.out 2;have hcz8_0:w5.cell? ⟨gb316,0,none⟩=some (.int .i64 a1_0):=(blk_cell BK316.out 0).trans rfl;have hcz8_1:w5.cell? ⟨gb316,1,none⟩=some (.int .i64 a1_1):=(blk_cell BK316.out 1).trans rfl;have hcz8_2:w5.cell? ⟨gb316,2,none⟩=some (.int .i64 a1_2):=(blk_cell BK316.out 2).trans rfl;have hfz8_0:=blk_frozen BK316.out 0;have hfz8_1:=blk_frozen BK316.out 1;have hfz8_2:=blk_frozen BK316.out 2))
  go_ret
  exact⟨a8_,(a13_ GE315.out GE316.out)⟩
 ·rw[if_neg c3]at H
  have c3b0:(a0_1 == a1_1)=false:=beq_eq_false_iff_ne.mpr c3
  have c3b1:(a0_1 != a1_1)=true:=bne_iff_ne.mpr c3
  obtain rfl:=Option.some.inj H
  go_enter Tryd.func73,Tryd.ntmps73
  go_wp2_with (first|((with_reducible refine gate_dst (N:=2) rfl ?_);refine box_event ?hg (N:=2) ?hd (cs:= #[.int .i64 a0_0, .int .i64 a0_1, .int .i64 a0_2]) (t:=33) ?hr ?_;(case hd=>rfl);(case hg=>rfl);(case hr=>exact hr_);intro gb315 hg w9 hbox hb;have BK315:=am_ (hbox);have GW315:=am_ ((by rw[hg];exact(below_size (a0_)):w.heap.size≤gb315));have GE315:=am_ ((by rw[hg];exact(below_size (a0_)):w.heap.size≤gb315));replace HB:=am_ (below_step (a0_) hb);clear hb hbox hg)|((with_reducible refine gate_dst (N:=3) rfl ?_);refine box_event ?hg (N:=3) ?hd (cs:= #[.int .i64 a1_0, .int .i64 a1_1, .int .i64 a1_2]) (t:=33) ?hr ?_;(case hd=>rfl);(case hg=>rfl);(case hr=>exact hr_);intro gb316 hg w10 hbox hb;have BK316:=am_ (hbox);have GW316:=am_ ((by rw[hg];exact(below_size ((a3_ GE315.out))):w.heap.size≤gb316));have GE316:=am_ ((by rw[hg];exact(below_size ((a3_ GE315.out))):w.heap.size≤gb316));replace HB:=am_ (below_step ((a3_ GE315.out)) hb);have NB315_316:=am_ ((by rw[hg];exact Nat.ne_of_lt (blk_lt (g:=gb315) (o:= .cells #[.int .i64 a0_0, .int .i64 a0_1, .int .i64 a0_2] 33 (0,0)) ((a5_ BK315.out))):gb315≠gb316));have NB316_315:=am_ ((by rw[hg];exact Nat.ne_of_gt (blk_lt (g:=gb315) (o:= .cells #[.int .i64 a0_0, .int .i64 a0_1, .int .i64 a0_2] 33 (0,0)) ((a5_ BK315.out))):gb316≠gb315));replace BK315:=am_ (blk_below (g:=gb315) (o:= .cells #[.int .i64 a0_0, .int .i64 a0_1, .int .i64 a0_2] 33 (0,0)) ((a5_ BK315.out)) hb);clear hb hbox hg;have hnb11:=NB315_316.out;have hnc11:=NB316_315.out;have hcz12_0:w10.cell? ⟨gb315,0,none⟩=some (.int .i64 a0_0):=(blk_cell BK315.out 0).trans rfl;have hcz12_1:w10.cell? ⟨gb315,1,none⟩=some (.int .i64 a0_1):=(blk_cell BK315.out 1).trans rfl;have hcz12_2:w10.cell? ⟨gb315,2,none⟩=some (.int .i64 a0_2):=(blk_cell BK315.out 2).trans rfl;have hfz12_0:=blk_frozen BK315.out 0;have hfz12_1:=blk_frozen BK315.out 1;have hfz12_2:=blk_frozen BK315.out 2;have hcz13_0:w10.cell? ⟨gb316,0,none⟩=some (.int .i64 a1_0):=(blk_cell BK316.out 0).trans rfl;have hcz13_1:w10.cell? ⟨gb316,1,none⟩=some (.int .i64 a1_1):=(blk_cell BK316.out 1).trans rfl;have hcz13_2:w10.cell? ⟨gb316,2,none⟩=some (.int .i64 a1_2):=(blk_cell BK316.out 2).trans rfl;have hfz13_0:=blk_frozen BK316.out 0;have hfz13_1:=blk_frozen BK316.out 1;have hfz13_2:=blk_frozen BK316.out 2))
  go_ret
  exact⟨a8_,(a13_ GE315.out GE316.out)⟩

end Go.Proofs.YtpbffmjjhmllbaaDoor.QFnChecksums
