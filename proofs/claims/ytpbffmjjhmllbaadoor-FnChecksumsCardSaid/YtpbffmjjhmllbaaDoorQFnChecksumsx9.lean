/- Written by a program of this session (the kit's printer, with leaf contracts proved by hand put in): what each Go function computes, and that the call computes it. No condition but those that each theorem names. -/
import Derived.Test.YtpbffmjjhmllbaaDoorQFnChecksumsx0
import Derived.Test.YtpbffmjjhmllbaaDoorQFnChecksumsx2
import Derived.Test.YtpbffmjjhmllbaaDoorQFnChecksumsx3
import Derived.Test.YtpbffmjjhmllbaaDoorQFnChecksumsx6
import Derived.Test.YtpbffmjjhmllbaaDoorQFnChecksumsx8
namespace Go.Proofs.YtpbffmjjhmllbaaDoor.QFnChecksums
open Go.RowKit Go.Proofs.YtpbffmjjhmllbaaDoorW.PrintWords Go.Proofs.YtpbffmjjhmllbaaDoorW.PrintLast Go.Proofs.YtpbffmjjhmllbaaDoorW.PrintMore
attribute [local go_sem] max2_int min2_int max_two min_two max_three min_three max_four min_four   -- for this text's walks alone
set_option linter.unusedVariables false
set_option linter.unusedSimpArgs false

/-! ### spec_TrackChecksums: function 10 -/
mutual
def spec_TrackChecksums.l0:Nat→List (S33)→List Int→Int→Option (List Int×Bool)
 | 0,_,_,_=>none
 | k+1,x0,x4,x5=>if x5<20 then(spec_TrackChecksums.l1 k x0 x4 x5 ([]:List (S33)) x0 (x0.length:Int) 0) else(some (x4,true))
def spec_TrackChecksums.l1:Nat→List (S33)→List Int→Int→List (S33)→List (S33)→Int→Int→Option (List Int×Bool)
 | 0,_,_,_,_,_,_,_=>none
 | k+1,x0,x4,x5,x6,x16,x17,x18=>if x18<x17 then(if 0≤x18 then(if x18<(x16.length:Int) then(if((rd_T33 x16 x18).f0)=x5 then(if x6.length<5864062014805 then(spec_TrackChecksums.l1 k x0 x4 x5 (x6 ++ [(⟨(rd_T33 x16 x18).f0,(rd_T33 x16 x18).f1,(rd_T33 x16 x18).f2⟩:S33)]) x16 x17 (wrap64 (x18+1))) else(none)) else(spec_TrackChecksums.l1 k x0 x4 x5 x6 x16 x17 (wrap64 (x18+1)))) else(none)) else(none)) else((spec_ckSum.f k x6).bind fun t350=>(if x4.length<17592186044416 then(spec_TrackChecksums.l0 k x0 (x4 ++ [t350]) (wrap64 (x5+1))) else(none)))
end
def spec_TrackChecksums.f (k:Nat) (l0:List (S33)):Option (List Int×Bool):=(spec_shGood.f k l0).bind fun t344=>(if t344=true then(spec_TrackChecksums.l0 k l0 ([]:List Int) 0) else(some (([]:List Int),false)))
theorem spec_TrackChecksums.mono_l:∀k,(∀y0 y1 y2,LeO (spec_TrackChecksums.l0 k y0 y1 y2) (spec_TrackChecksums.l0 (k+1) y0 y1 y2))∧(∀y0 y1 y2 y3 y4 y5 y6,LeO (spec_TrackChecksums.l1 k y0 y1 y2 y3 y4 y5 y6) (spec_TrackChecksums.l1 (k+1) y0 y1 y2 y3 y4 y5 y6))
 | 0=>⟨fun _ _ _ r h=>by simp[spec_TrackChecksums.l0]at h,fun _ _ _ _ _ _ _ r h=>by simp[spec_TrackChecksums.l1]at h⟩
 | k+1=>by
  obtain⟨ih0,ih1⟩:=spec_TrackChecksums.mono_l k
  refine⟨?_,?_⟩
  intros
  unfold spec_TrackChecksums.l0
  rotate_left
  intros
  unfold spec_TrackChecksums.l1
  rotate_left
  all_goals repeat' first|(with_reducible first|exact ih0 _ _ _|exact ih1 _ _ _ _ _ _ _|exact spec_ckSum.mono _ _|exact spec_shGood.mono _ _|exact LeO.refl _|exact LeO.none _|refine LeO.ite ?_ ?_|refine LeO.bind ?_ (fun _=>?_))|exact ih0 _ _ _|exact ih1 _ _ _ _ _ _ _|exact spec_ckSum.mono _ _|exact spec_shGood.mono _ _|exact LeO.none _|refine LeO.ite ?_ ?_|refine LeO.bind ?_ (fun _=>?_)
theorem spec_TrackChecksums.mono:∀a0 k,LeO (spec_TrackChecksums.f k a0) (spec_TrackChecksums.f (k+1) a0):=by
 intro a0 k
 obtain⟨ih0,ih1⟩:=spec_TrackChecksums.mono_l k
 unfold spec_TrackChecksums.f
 repeat' first
  |(with_reducible exact ih0 _ _ _)
  |(with_reducible exact ih1 _ _ _ _ _ _ _)
  |(with_reducible exact spec_ckSum.mono _ _)
  |(with_reducible exact spec_shGood.mono _ _)
  |(with_reducible exact LeO.refl _)
  |(with_reducible exact LeO.none _)
  |(with_reducible refine LeO.ite ?_ ?_)
  |(with_reducible refine LeO.bind ?_ (fun _=>?_))
  |exact ih0 _ _ _
  |exact ih1 _ _ _ _ _ _ _
  |exact spec_ckSum.mono _ _
  |exact spec_shGood.mono _ _
  |exact LeO.none _
   | refine LeO.ite ?_ ?_
   | refine LeO.bind ?_ (fun _=>?_)
set_option maxHeartbeats 8000000 in
set_option maxRecDepth 100000 in
theorem spec_TrackChecksums.calls (k:Nat) (A0:Option Addr) (c0:Nat) (l0:List (S33)) (r1:List Int) (r2:Bool) (w:World) (hr0:Kd.C k33 w A0 l0.length l0) (hc0:l0.length≤c0) (h:spec_TrackChecksums.f k l0=some (r1,r2)) :
 Calls Tryd.prog 10 #[.slice A0 l0.length c0] w fun e w'=>∃v0_:Value,e = .returned (.tuple #[v0_, .bool r2])∧Kd.R (Kd.int .i64) 3 w' w.heap.size (fun _=>True) v0_ r1∧Below w.heap.size w w':=by
 have hu33:=Tryd.underlying33
 have HR0:=am_ hr0
 have HC0:=am_ hc0
 clear hr0 hc0
 have HB:=am_ (Below.refl w.heap.size w)
 have H:((spec_shGood.f k l0).bind fun t344=>(if t344=true then(spec_TrackChecksums.l0 k l0 ([]:List Int) 0) else(some (([]:List Int),false))))=some (r1,r2):=h
 clear h
 obtain⟨t344,A2,H⟩:=bo_ H
 try dsimp only at H
 by_cases c3:t344=true
 ·subst c3
  replace H:(spec_TrackChecksums.l0 k l0 ([]:List Int) 0)=some (r1,r2):=by rw[if_pos rfl]at H;exact H
  have H':=am_ H
  clear H
  go_enter Tryd.func10,Tryd.ntmps10
  go_wp2_with (first|((with_reducible refine gate_callee (f:=36) rfl ?_);refine goesL_ (some 10) rfl rfl Tryd.func36 (by kernel_rfl) rfl #[.slice A0 l0.length c0] rfl gd_ ?_;(with_reducible refine(spec_shGood.calls k _ _ l0 true _ ?side1 ?side2 A2.out).mono ?_);(case side1=>exact(a28_ HR0.out));(case side2=>exact HC0.out);rintro e w4 ⟨rfl,hb⟩;refine⟨_,rfl,?_⟩;replace HB:=am_ (below_step (a0_) hb);(try clear hb);(try clear hb2);(try clear hk);(try clear hi)))
  (try simp only[Act.put,List.setIfInBounds_toArray,List.set_cons_zero,List.set_cons_succ])
  go_loopg [4,5] k (fun kq v4 v5 w'=>∃(x4_1:List Int) (x5_1:Int),v5 = .int .i64 x5_1∧Aside0 (spec_TrackChecksums.l0 kq l0 x4_1 x5_1=some (r1,r2))∧Aside0 (kq≤k)∧Aside0 (Kd.R (Kd.int .i64) 3 w' w.heap.size (fun _=>True) v4 x4_1)∧Aside0 (Below w.heap.size w w'))
  case atStart=>exact⟨(([]:List Int)),(0),(by first | rfl|(simp;done)|(simp[*];done)),H',⟨Nat.le_refl _⟩,⟨a29_⟩,⟨a0_⟩⟩
  case round=>
   clear H'
   try clear c1
   try clear p2
   try clear c3
   obtain⟨x4_1,x5_1,rfl,HA,HK1,HO_4,HB⟩:=hrel
   cases gk with
   | zero=>exact absurd HA.out (by simp[spec_TrackChecksums.l0])
   | succ k1=>
    have H:=HA.out
    clear HA
    simp only[spec_TrackChecksums.l0]at H
    by_cases c5:x5_1<20
    ·rw[if_pos c5]at H
     have c5b0:decide (x5_1<20)=true:=decide_eq_true c5
     clear c5
     have H':=am_ H
     clear H
     go_wp2
     (try simp only[Act.put,List.setIfInBounds_toArray,List.set_cons_zero,List.set_cons_succ])
     go_loopg [6,18] k1 (fun kq v6 v18 w'=>∃(x6_2:List (S33)) (x18_2:Int),v18 = .int .i64 x18_2∧Aside0 (spec_TrackChecksums.l1 kq l0 x4_1 x5_1 x6_2 l0 (l0.length:Int) x18_2=some (r1,r2))∧Aside0 (kq≤k1)∧Aside0 (Kd.R (Kd.int .i64) 3 w' w.heap.size (fun _=>True) u4 x4_1)∧Aside0 (Kd.R k33 33 w' w.heap.size (fun _=>True) v6 x6_2)∧Aside0 (Below w.heap.size w w'))
     case atStart=>exact⟨(([]:List (S33))),(0),(by first | rfl|(simp;done)|(simp[*];done)),H',⟨Nat.le_refl _⟩,⟨(a1_ HO_4.out)⟩,⟨a29_⟩,⟨a0_⟩⟩
     case round=>
      clear H'
      try clear c1
      try clear p2
      try clear c3
      try clear c5
      try clear c5b0
      try clear p2
      obtain⟨x6_2,x18_2,rfl,HA,HK2,HO_4,HO_6,HB⟩:=hrel
      cases gk with
      | zero=>exact absurd HA.out (by simp[spec_TrackChecksums.l1])
      | succ k2=>
       have H:=HA.out
       clear HA
       simp only[spec_TrackChecksums.l1]at H
       by_cases c6:x18_2<(l0.length:Int)
       ·rw[if_pos c6]at H
        have c6b0:decide (x18_2<(l0.length:Int))=true:=decide_eq_true c6
        clear c6
        by_cases c7:0≤x18_2
        ·rw[if_pos c7]at H
         have c7b0:decide (0≤x18_2)=true:=decide_eq_true c7
         clear c7
         by_cases c8:x18_2<(l0.length:Int)
         ·rw[if_pos c8]at H
          have c8b0:decide (x18_2<(l0.length:Int))=true:=decide_eq_true c8
          clear c8
          by_cases c9:((rd_T33 l0 x18_2).f0)=x5_1
          ·rw[if_pos c9]at H
           have c9b0:(((rd_T33 l0 x18_2).f0) == x5_1)=true:=beq_iff_eq.mpr c9
           have c9b1:(((rd_T33 l0 x18_2).f0) != x5_1)=false:=bne_eq_false_iff_eq.mpr c9
           clear c9
           by_cases c10:x6_2.length<5864062014805
           ·rw[if_pos c10]at H
            have LMc10:=am_ c10
            clear c10
            obtain⟨y347,hy347⟩:∃y_:List (S33),y_=(x6_2 ++ [(⟨(rd_T33 l0 x18_2).f0,(rd_T33 l0 x18_2).f1,(rd_T33 l0 x18_2).f2⟩:S33)]):=⟨_,rfl⟩
            replace H:(spec_TrackChecksums.l1 k2 l0 x4_1 x5_1 y347 l0 (l0.length:Int) (wrap64 (x18_2+1)))=some (r1,r2):=by first|(rw[hy347];with_reducible exact H)|(have H2_:=(Option.bind_some _ _).symm.trans H;rw[hy347];with_reducible exact H2_)|(have H2_:=(Option.bind_some _ _).symm.trans H;with_reducible exact H2_) | with_reducible exact H|(rw[hy347];exact H)|exact H
            have Ny347:=am_ hy347
            clear hy347
            have H':=am_ H
            clear H
            have p345:0≤(x18_2:Int):=of_decide_eq_true (a10_)
            have q345:x18_2<(l0.length:Int):=of_decide_eq_true (a10_)
            obtain⟨ad345,e345,hx345_0,hx345_1,hx345_2⟩:=at_T33 HR0.out x18_2 p345 q345
            cases e345
            replace hx345_0:=(HB.out.cell (World.block_lt_of_cell? w _ hx345_0)).trans hx345_0
            replace hx345_1:=(HB.out.cell (World.block_lt_of_cell? w _ hx345_1)).trans hx345_1
            replace hx345_2:=(HB.out.cell (World.block_lt_of_cell? w _ hx345_2)).trans hx345_2
            replace p345:=eq_true p345
            replace q345:=eq_true q345
            go_wp2_with (first|((with_reducible refine gate_dst (N:=8) rfl ?_);refine box_event ?hg (N:=8) ?hd (cs:= #[.int .i64 0, .int .i64 0, .int .i64 0]) (t:=33) ?hr ?_;(case hd=>rfl);(case hg=>rfl);(case hr=>exact hr_);intro gb346 hg w11 hbox hb;replace HO_4:=am_ (Kd.R_below ((a1_ HO_4.out)) hb);replace HO_6:=am_ (Kd.R_below (Kd.R_elderB ((a1_ HO_6.out)) gb346 (Nat.le_of_eq hg.symm)) hb);have BK346:=am_ (hbox);have GW346:=am_ ((by rw[hg];exact(below_size (a0_)):w.heap.size≤gb346));have GE346:=am_ ((by rw[hg];exact(below_size (a0_)):w.heap.size≤gb346));replace HB:=am_ (below_step (a0_) hb);clear hb hbox hg;have hcz12_0:w11.cell? ⟨gb346,0,none⟩=some (.int .i64 0):=(blk_cell BK346.out 0).trans rfl;have hcz12_1:w11.cell? ⟨gb346,1,none⟩=some (.int .i64 0):=(blk_cell BK346.out 1).trans rfl;have hcz12_2:w11.cell? ⟨gb346,2,none⟩=some (.int .i64 0):=(blk_cell BK346.out 2).trans rfl;have hfz12_0:=blk_frozen BK346.out 0;have hfz12_1:=blk_frozen BK346.out 1;have hfz12_2:=blk_frozen BK346.out 2)|((with_reducible refine gate_builtin (b:= .append) (xs:= #[.tmp 26, .tmp 28]) rfl ?_);at_builtin;refine Kd.R_append k33 (w0:=w) w.heap.size rfl (.tmp 26) (.tmp 28) 24 33 (.agg #[(.int .i64 0),(.int .i64 0),(.int .i64 0)]) 24 rfl Tryd.underlying24 info33 rfl (by decide) (by omega) u6 x6_2 (⟨(rd_T33 l0 x18_2).f0,(rd_T33 l0 x18_2).f1,(rd_T33 l0 x18_2).f2⟩:S33) [.int .i64 ((rd_T33 l0 x18_2).f0), .int .i64 ((rd_T33 l0 x18_2).f1), .int .i64 ((rd_T33 l0 x18_2).f2)] (fun k_=>k_≠gb346) (fun _=>False) rfl (by first|(go_simp;done)|(go_simp;rfl)) ?aP (fun _ hk=>hk.elim) ?aF ?aO ?aB ?aS ?aL ?_;(case aP=>exact k33_mkM _ _ _ (⟨(rd_T33 l0 x18_2).f0,(rd_T33 l0 x18_2).f1,(rd_T33 l0 x18_2).f2⟩:S33));(case aB=>exact((a3_ GE346.out)));(case aF=>exact(fun k_ hk=>Kd.freshB (g:=gb346) (o:= .cells #[.int .i64 ((rd_T33 l0 x18_2).f0), .int .i64 ((rd_T33 l0 x18_2).f1), .int .i64 ((rd_T33 l0 x18_2).f2)] 33 (0,0)) ((a32_ BK346.out)) k_ hk));(case aO=>exact(by(with_reducible repeat (first|apply Kd.R_alloc|apply Kd.R_drewN|apply Kd.R_drew));exact Kd.R_mono (Kd.R_far (p:=⟨gb346,2,none⟩) (Kd.R_far (p:=⟨gb346,1,none⟩) (Kd.R_far (p:=⟨gb346,0,none⟩) (Kd.R_mono HO_6.out (fun k_ hk=>(⟨hk,hk.2⟩:_∧k_≠gb346))) (fun _ hk=>hk.2) (.int .i64 ((rd_T33 l0 x18_2).f0))) (fun _ hk=>hk.2) (.int .i64 ((rd_T33 l0 x18_2).f1))) (fun _ hk=>hk.2) (.int .i64 ((rd_T33 l0 x18_2).f2))) (fun _ hk=>hk.1.2)));(case aS=>exact(below_size ((a3_ GE346.out))));(case aL=>have:=LMc10.out;omega);intro v348 w13 ho hb hg hat;rw[← Ny347.out]at ho;have n0_:=am_ (Kd.R_over' (by(with_reducible repeat (first|apply Kd.R_alloc|apply Kd.R_drewN|apply Kd.R_drew));exact(Kd.R_mono (Kd.R_far (p:=⟨gb346,2,none⟩) (Kd.R_far (p:=⟨gb346,1,none⟩) (Kd.R_far (p:=⟨gb346,0,none⟩) (Kd.R_types HO_4.out BK346.out (by decide)) (fun _ hk=>hk.2) (.int .i64 ((rd_T33 l0 x18_2).f0))) (fun _ hk=>hk.2) (.int .i64 ((rd_T33 l0 x18_2).f1))) (fun _ hk=>hk.2) (.int .i64 ((rd_T33 l0 x18_2).f2))) (fun _ h_=>h_.1))) (Kd.R_typed (by(with_reducible repeat (first|apply Kd.R_alloc|apply Kd.R_drewN|apply Kd.R_drew));exact(Kd.R_mono (Kd.R_far (p:=⟨gb346,2,none⟩) (Kd.R_far (p:=⟨gb346,1,none⟩) (Kd.R_far (p:=⟨gb346,0,none⟩) (Kd.R_mono HO_6.out (fun k_ hk=>(⟨hk,hk.2⟩:_∧k_≠gb346))) (fun _ hk=>hk.2) (.int .i64 ((rd_T33 l0 x18_2).f0))) (fun _ hk=>hk.2) (.int .i64 ((rd_T33 l0 x18_2).f1))) (fun _ hk=>hk.2) (.int .i64 ((rd_T33 l0 x18_2).f2))) (fun _ h_=>h_.1)))) (by decide) hg);have n1_:=am_ (blk_grown (g:=gb346) (o:= .cells #[.int .i64 ((rd_T33 l0 x18_2).f0), .int .i64 ((rd_T33 l0 x18_2).f1), .int .i64 ((rd_T33 l0 x18_2).f2)] 33 (0,0)) ((a32_ BK346.out)) hg (Kd.R_away HO_6.out (fun _ hk=>hk.2)));have n2_:=am_ (hb);have n3_:=am_ (ho);clear HO_4 BK346 HB HO_6;have HO_4:=n0_;have BK346:=n1_;have HB:=n2_;have HO349:=n3_;clear n0_ n1_ n2_ n3_ ho hb hg hat))
            go_roundg k2
            case measure=>have:=HK1.out;have:=HK2.out;omega
            case rel=>exact⟨(y347),(wrap64 (x18_2+1)),(by first | rfl|(simp;done)|(simp[*];done)),H',⟨by have:=HK1.out;have:=HK2.out;omega⟩,⟨(a1_ HO_4.out)⟩,⟨(a36_ HO349.out)⟩,⟨(a3_ GE346.out)⟩⟩
           ·rw[if_neg c10]at H
            exact absurd H (by simp)
          ·rw[if_neg c9]at H
           have c9b0:(((rd_T33 l0 x18_2).f0) == x5_1)=false:=beq_eq_false_iff_ne.mpr c9
           have c9b1:(((rd_T33 l0 x18_2).f0) != x5_1)=true:=bne_iff_ne.mpr c9
           have H':=am_ H
           clear H
           have p345:0≤(x18_2:Int):=of_decide_eq_true (a10_)
           have q345:x18_2<(l0.length:Int):=of_decide_eq_true (a10_)
           obtain⟨ad345,e345,hx345_0,hx345_1,hx345_2⟩:=at_T33 HR0.out x18_2 p345 q345
           cases e345
           replace hx345_0:=(HB.out.cell (World.block_lt_of_cell? w _ hx345_0)).trans hx345_0
           replace hx345_1:=(HB.out.cell (World.block_lt_of_cell? w _ hx345_1)).trans hx345_1
           replace hx345_2:=(HB.out.cell (World.block_lt_of_cell? w _ hx345_2)).trans hx345_2
           replace p345:=eq_true p345
           replace q345:=eq_true q345
           go_wp2_with (first|((with_reducible refine gate_dst (N:=8) rfl ?_);refine box_event ?hg (N:=8) ?hd (cs:= #[.int .i64 0, .int .i64 0, .int .i64 0]) (t:=33) ?hr ?_;(case hd=>rfl);(case hg=>rfl);(case hr=>exact hr_);intro gb346 hg w14 hbox hb;replace HO_4:=am_ (Kd.R_below ((a1_ HO_4.out)) hb);replace HO_6:=am_ (Kd.R_below (Kd.R_elderB ((a1_ HO_6.out)) gb346 (Nat.le_of_eq hg.symm)) hb);have BK346:=am_ (hbox);have GW346:=am_ ((by rw[hg];exact(below_size (a0_)):w.heap.size≤gb346));have GE346:=am_ ((by rw[hg];exact(below_size (a0_)):w.heap.size≤gb346));replace HB:=am_ (below_step (a0_) hb);clear hb hbox hg;have hcz15_0:w14.cell? ⟨gb346,0,none⟩=some (.int .i64 0):=(blk_cell BK346.out 0).trans rfl;have hcz15_1:w14.cell? ⟨gb346,1,none⟩=some (.int .i64 0):=(blk_cell BK346.out 1).trans rfl;have hcz15_2:w14.cell? ⟨gb346,2,none⟩=some (.int .i64 0):=(blk_cell BK346.out 2).trans rfl;have hfz15_0:=blk_frozen BK346.out 0;have hfz15_1:=blk_frozen BK346.out 1;have hfz15_2:=blk_frozen BK346.out 2))
           go_roundg k2
           case measure=>have:=HK1.out;have:=HK2.out;omega
           case rel=>exact⟨(x6_2),(wrap64 (x18_2+1)),(by first | rfl|(simp;done)|(simp[*];done)),H',⟨by have:=HK1.out;have:=HK2.out;omega⟩,⟨by(with_reducible repeat (first|apply Kd.R_alloc|apply Kd.R_drewN|apply Kd.R_drew));exact Kd.R_mono (Kd.R_far (p:=⟨gb346,2,none⟩) (Kd.R_far (p:=⟨gb346,1,none⟩) (Kd.R_far (p:=⟨gb346,0,none⟩) (Kd.R_types HO_4.out BK346.out (by decide)) (fun _ hk=>hk.2) (.int .i64 ((rd_T33 l0 x18_2).f0))) (fun _ hk=>hk.2) (.int .i64 ((rd_T33 l0 x18_2).f1))) (fun _ hk=>hk.2) (.int .i64 ((rd_T33 l0 x18_2).f2))) (fun _ hk=>trivial)⟩,⟨by(with_reducible repeat (first|apply Kd.R_alloc|apply Kd.R_drewN|apply Kd.R_drew));exact Kd.R_mono (Kd.R_far (p:=⟨gb346,2,none⟩) (Kd.R_far (p:=⟨gb346,1,none⟩) (Kd.R_far (p:=⟨gb346,0,none⟩) (Kd.R_mono HO_6.out (fun k_ hk=>(⟨hk,hk.2⟩:_∧k_≠gb346))) (fun _ hk=>hk.2) (.int .i64 ((rd_T33 l0 x18_2).f0))) (fun _ hk=>hk.2) (.int .i64 ((rd_T33 l0 x18_2).f1))) (fun _ hk=>hk.2) (.int .i64 ((rd_T33 l0 x18_2).f2))) (fun _ hk=>trivial)⟩,⟨(a3_ GE346.out)⟩⟩
         ·rw[if_neg c8]at H
          exact absurd H (by simp)
        ·rw[if_neg c7]at H
         exact absurd H (by simp)
       ·rw[if_neg c6]at H
        have c6b0:decide (x18_2<(l0.length:Int))=false:=decide_eq_false c6
        clear c6
        obtain⟨t350,A16,H⟩:=bo_ H
        try dsimp only at H
        by_cases c17:x4_1.length<17592186044416
        ·rw[if_pos c17]at H
         have LMc17:=am_ c17
         clear c17
         obtain⟨y351,hy351⟩:∃y_:List Int,y_=(x4_1 ++ [t350]):=⟨_,rfl⟩
         replace H:(spec_TrackChecksums.l0 k2 l0 y351 (wrap64 (x5_1+1)))=some (r1,r2):=by first|(rw[hy351];with_reducible exact H)|(have H2_:=(Option.bind_some _ _).symm.trans H;rw[hy351];with_reducible exact H2_)|(have H2_:=(Option.bind_some _ _).symm.trans H;with_reducible exact H2_) | with_reducible exact H|(rw[hy351];exact H)|exact H
         have Ny351:=am_ hy351
         clear hy351
         have H':=am_ H
         clear H
         obtain⟨Ao18,co18,eo18⟩:=Kd.R_slice HO_6.out
         subst eo18
         go_wp2_with (first|((with_reducible refine gate_callee (f:=37) rfl ?_);refine goesL_ (some 33) rfl rfl Tryd.func37 (by kernel_rfl) rfl #[.slice Ao18 x6_2.length co18] rfl gd_ ?_;(with_reducible refine(spec_ckSum.calls k2 _ _ x6_2 t350 _ ?side1 ?side2 A16.out).mono ?_);(case side1=>exact(a12_ HO_6.out));(case side2=>exact(Kd.R_reads' HO_6.out).2.1);rintro e w19 ⟨rfl,hb⟩;refine⟨_,rfl,?_⟩;replace HO_4:=am_ (Kd.R_below ((a1_ HO_4.out)) hb);replace HO_6:=am_ (Kd.R_below ((a1_ HO_6.out)) hb);replace HB:=am_ (below_step (a0_) hb);(try clear hb);(try clear hb2);(try clear hk);(try clear hi))|((with_reducible refine gate_builtin (b:= .append) (xs:= #[.tmp 31, .tmp 34]) rfl ?_);at_builtin;refine Kd.R_append (Kd.int .i64) (w0:=w) w.heap.size rfl (.tmp 31) (.tmp 34) 28 3 (.int .i64 0) 8 rfl Tryd.underlying28 info3 rfl (by decide) (by omega) u4 x4_1 t350 [.int .i64 t350] (fun _=>True) (fun _=>False) rfl rfl ?aP (fun _ hk=>hk.elim) ?aF ?aO ?aB ?aS ?aL ?_;(case aP=>exact rfl);(case aB=>exact(a0_));(case aF=>exact(fun _ _=>trivial));(case aO=>exact((a1_ HO_4.out)));(case aS=>exact(below_size (a0_)));(case aL=>have:=LMc17.out;omega);intro v352 w20 ho hb hg hat;rw[← Ny351.out]at ho;have n0_:=am_ (Kd.R_over' ((a1_ HO_6.out)) (Kd.R_typed ((a1_ HO_4.out))) (by decide) hg);have n1_:=am_ (hb);have n2_:=am_ (ho);clear HO_6 HB HO_4;have HO_6:=n0_;have HB:=n1_;have HO353:=n2_;clear n0_ n1_ n2_ ho hb hg hat))
         go_roundg k2
         case measure=>have:=HK1.out;have:=HK2.out;omega
         case rel=>exact⟨(y351),(wrap64 (x5_1+1)),(by first | rfl|(simp;done)|(simp[*];done)),H',⟨by have:=HK1.out;have:=HK2.out;omega⟩,⟨(a1_ HO353.out)⟩,⟨a0_⟩⟩
        ·rw[if_neg c17]at H
         exact absurd H (by simp)
    ·rw[if_neg c5]at H
     have c5b0:decide (x5_1<20)=false:=decide_eq_false c5
     clear c5
     simp only[Option.some.injEq,Prod.mk.injEq]at H
     obtain⟨rfl,rfl⟩:=H
     go_wp2
     go_ret2
     exact⟨_,a8_,(a1_ HO_4.out),a0_⟩
 ·replace c3:=Bool.eq_false_iff.mpr c3
  subst c3
  replace H:(some (([]:List Int),false))=some (r1,r2):=by rw[if_neg (show ¬(false=true) by decide)]at H;exact H
  simp only[Option.some.injEq,Prod.mk.injEq]at H
  obtain⟨rfl,rfl⟩:=H
  go_enter Tryd.func10,Tryd.ntmps10
  go_wp2_with (first|((with_reducible refine gate_callee (f:=36) rfl ?_);refine goesL_ (some 10) rfl rfl Tryd.func36 (by kernel_rfl) rfl #[.slice A0 l0.length c0] rfl gd_ ?_;(with_reducible refine(spec_shGood.calls k _ _ l0 false _ ?side1 ?side2 A2.out).mono ?_);(case side1=>exact(a28_ HR0.out));(case side2=>exact HC0.out);rintro e w21 ⟨rfl,hb⟩;refine⟨_,rfl,?_⟩;replace HB:=am_ (below_step (a0_) hb);(try clear hb);(try clear hb2);(try clear hk);(try clear hi)))
  go_ret2
  exact⟨_,a8_,a29_,a0_⟩

/-! ### laws_sameInts: function 11 -/
def laws_sameInts.l0:Nat→List Int→List Int→Int→Int→Option (Bool)
 | 0,_,_,_,_=>none
 | k+1,x0,x1,x12,x13=>if x13<x12 then(if 0≤x13 then(if x13<(x0.length:Int) then(if x13<(x1.length:Int) then(if(rd x0 x13)=(rd x1 x13) then(laws_sameInts.l0 k x0 x1 x12 (wrap64 (x13+1))) else(some false)) else(none)) else(none)) else(none)) else(some true)
def laws_sameInts.f (k:Nat) (l0:List Int) (l1:List Int):Option (Bool):=if(l0.length:Int)=(l1.length:Int) then(laws_sameInts.l0 k l0 l1 (l0.length:Int) 0) else(some false)
theorem laws_sameInts.mono_l:∀k,(∀y0 y1 y2 y3,LeO (laws_sameInts.l0 k y0 y1 y2 y3) (laws_sameInts.l0 (k+1) y0 y1 y2 y3))
 | 0=>fun _ _ _ _ r h=>by simp[laws_sameInts.l0]at h
 | k+1=>by
  have ih0:=laws_sameInts.mono_l k
  intros
  unfold laws_sameInts.l0
  rotate_left
  all_goals repeat' first|(with_reducible first|exact ih0 _ _ _ _|exact LeO.refl _|exact LeO.none _|refine LeO.ite ?_ ?_|refine LeO.bind ?_ (fun _=>?_))|exact ih0 _ _ _ _|exact LeO.none _|refine LeO.ite ?_ ?_|refine LeO.bind ?_ (fun _=>?_)
theorem laws_sameInts.mono:∀a0 a1 k,LeO (laws_sameInts.f k a0 a1) (laws_sameInts.f (k+1) a0 a1):=by
 intro a0 a1 k
 have ih0:=laws_sameInts.mono_l k
 unfold laws_sameInts.f
 repeat' first
  |(with_reducible exact ih0 _ _ _ _)
  |(with_reducible exact LeO.refl _)
  |(with_reducible exact LeO.none _)
  |(with_reducible refine LeO.ite ?_ ?_)
  |(with_reducible refine LeO.bind ?_ (fun _=>?_))
  |exact ih0 _ _ _ _
  |exact LeO.none _
   | refine LeO.ite ?_ ?_
   | refine LeO.bind ?_ (fun _=>?_)
set_option maxHeartbeats 8000000 in
set_option maxRecDepth 100000 in
theorem laws_sameInts.calls (k:Nat) (A0:Option Addr) (c0:Nat) (l0:List Int) (A1:Option Addr) (c1:Nat) (l1:List Int) (r:Bool) (w:World) (hr0:Kd.C (Kd.int .i64) w A0 l0.length l0) (hc0:l0.length≤c0) (hr1:Kd.C (Kd.int .i64) w A1 l1.length l1) (hc1:l1.length≤c1) (h:laws_sameInts.f k l0 l1=some r) :
 Calls Tryd.prog 11 #[.slice A0 l0.length c0, .slice A1 l1.length c1] w fun e w'=>e = .returned (.bool r)∧Drawn0 w w':=by
 have HR0:=am_ hr0
 have HC0:=am_ hc0
 clear hr0 hc0
 have HR1:=am_ hr1
 have HC1:=am_ hc1
 clear hr1 hc1
 have H:(if(l0.length:Int)=(l1.length:Int) then(laws_sameInts.l0 k l0 l1 (l0.length:Int) 0) else(some false))=some r:=h
 clear h
 by_cases c3:(l0.length:Int)=(l1.length:Int)
 ·rw[if_pos c3]at H
  have c3b0:((l0.length:Int) == (l1.length:Int))=true:=beq_iff_eq.mpr c3
  have c3b1:((l0.length:Int) != (l1.length:Int))=false:=bne_eq_false_iff_eq.mpr c3
  have c3b2:(l0.length == l1.length)=true:=by first | simpa using c3|(simp at c3 ⊢;omega)
  clear c3
  have H':=am_ H
  clear H
  go_enter Tryd.func11,Tryd.ntmps11
  go_wp2
  repeat (go_quiet (fail);try go_wp2)
  (try simp only[Act.put,List.setIfInBounds_toArray,List.set_cons_zero,List.set_cons_succ])
  go_loopg [13] k (fun kq v13 w'=>∃(x13_1:Int),v13 = .int .i64 x13_1∧Aside0 (laws_sameInts.l0 kq l0 l1 (l0.length:Int) x13_1=some r)∧Aside0 (kq≤k)∧Drawn0 w w')
  case atStart=>exact⟨(0),(by first | rfl|(simp;done)|(simp[*];done)),H',⟨Nat.le_refl _⟩,a24_⟩
  case round=>
   clear H'
   try clear c1
   try clear p2
   try clear c3
   try clear c3b0
   try clear c3b1
   try clear c3b2
   obtain⟨x13_1,rfl,HA,HK1,⟨m1,rfl⟩⟩:=hrel
   cases gk with
   | zero=>exact absurd HA.out (by simp[laws_sameInts.l0])
   | succ k1=>
    have H:=HA.out
    clear HA
    simp only[laws_sameInts.l0]at H
    by_cases c4:x13_1<(l0.length:Int)
    ·rw[if_pos c4]at H
     have c4b0:decide (x13_1<(l0.length:Int))=true:=decide_eq_true c4
     clear c4
     by_cases c5:0≤x13_1
     ·rw[if_pos c5]at H
      have c5b0:decide (0≤x13_1)=true:=decide_eq_true c5
      clear c5
      by_cases c6:x13_1<(l0.length:Int)
      ·rw[if_pos c6]at H
       have c6b0:decide (x13_1<(l0.length:Int))=true:=decide_eq_true c6
       clear c6
       by_cases c7:x13_1<(l1.length:Int)
       ·rw[if_pos c7]at H
        have c7b0:decide (x13_1<(l1.length:Int))=true:=decide_eq_true c7
        clear c7
        by_cases c8:(rd l0 x13_1)=(rd l1 x13_1)
        ·rw[if_pos c8]at H
         have c8b0:((rd l0 x13_1) == (rd l1 x13_1))=true:=beq_iff_eq.mpr c8
         have c8b1:((rd l0 x13_1) != (rd l1 x13_1))=false:=bne_eq_false_iff_eq.mpr c8
         clear c8
         have H':=am_ H
         clear H
         have p354:0≤(x13_1:Int):=of_decide_eq_true (a10_)
         have q354:x13_1<(l0.length:Int):=of_decide_eq_true (a10_)
         obtain⟨ad354,e354,hx354_0⟩:=Kd.at_int HR0.out x13_1 p354 q354
         cases e354
         replace p354:=eq_true p354
         replace q354:=eq_true q354
         have p355:0≤(x13_1:Int):=of_decide_eq_true (a10_)
         have q355:x13_1<(l1.length:Int):=of_decide_eq_true (a10_)
         obtain⟨ad355,e355,hx355_0⟩:=Kd.at_int HR1.out x13_1 p355 q355
         cases e355
         replace p355:=eq_true p355
         replace q355:=eq_true q355
         go_wp2
         repeat (go_quiet (fail);try go_wp2)
         go_roundg k1
         case measure=>have:=HK1.out;omega
         case rel=>exact⟨(wrap64 (x13_1+1)),(by first | rfl|(simp;done)|(simp[*];done)),H',⟨by have:=HK1.out;omega⟩,a24_⟩
        ·rw[if_neg c8]at H
         have c8b0:((rd l0 x13_1) == (rd l1 x13_1))=false:=beq_eq_false_iff_ne.mpr c8
         have c8b1:((rd l0 x13_1) != (rd l1 x13_1))=true:=bne_iff_ne.mpr c8
         obtain rfl:=Option.some.inj H
         have p354:0≤(x13_1:Int):=of_decide_eq_true (a10_)
         have q354:x13_1<(l0.length:Int):=of_decide_eq_true (a10_)
         obtain⟨ad354,e354,hx354_0⟩:=Kd.at_int HR0.out x13_1 p354 q354
         cases e354
         replace p354:=eq_true p354
         replace q354:=eq_true q354
         have p355:0≤(x13_1:Int):=of_decide_eq_true (a10_)
         have q355:x13_1<(l1.length:Int):=of_decide_eq_true (a10_)
         obtain⟨ad355,e355,hx355_0⟩:=Kd.at_int HR1.out x13_1 p355 q355
         cases e355
         replace p355:=eq_true p355
         replace q355:=eq_true q355
         go_wp2
         repeat (go_quiet (fail);try go_wp2)
         go_ret
         exact⟨by first | rfl|(simp;done)|(simp[*];done),a24_⟩
       ·rw[if_neg c7]at H
        exact absurd H (by simp)
      ·rw[if_neg c6]at H
       exact absurd H (by simp)
     ·rw[if_neg c5]at H
      exact absurd H (by simp)
    ·rw[if_neg c4]at H
     have c4b0:decide (x13_1<(l0.length:Int))=false:=decide_eq_false c4
     clear c4
     obtain rfl:=Option.some.inj H
     go_wp2
     repeat (go_quiet (fail);try go_wp2)
     go_ret
     exact⟨by first | rfl|(simp;done)|(simp[*];done),a24_⟩
 ·rw[if_neg c3]at H
  have c3b0:((l0.length:Int) == (l1.length:Int))=false:=beq_eq_false_iff_ne.mpr c3
  have c3b1:((l0.length:Int) != (l1.length:Int))=true:=bne_iff_ne.mpr c3
  have c3b2:(l0.length == l1.length)=false:=by first | simpa using c3|(simp at c3 ⊢;omega)
  obtain rfl:=Option.some.inj H
  go_enter Tryd.func11,Tryd.ntmps11
  go_wp2
  repeat (go_quiet (fail);try go_wp2)
  go_ret
  exact⟨by first | rfl|(simp;done)|(simp[*];done),a24_⟩

/-! ### impl_isChecksum: function 41 -/
def impl_isChecksum.f (a0:Int):Option (Bool):=if a0≥0 then(some (decide (a0<1000003))) else(some false)
set_option maxHeartbeats 8000000 in
set_option maxRecDepth 100000 in
theorem impl_isChecksum.calls (a0:Int) (r:Bool) (w:World) (h:impl_isChecksum.f a0=some r) :
 Calls Tryd.prog 41 #[.int .i64 a0] w fun e w'=>e = .returned (.bool r)∧Drawn0 w w':=by
 have H:(if a0≥0 then(some (decide (a0<1000003))) else(some false))=some r:=h
 clear h
 by_cases c2:a0≥0
 ·rw[if_pos c2]at H
  have c2b0:decide (0≤a0)=true:=decide_eq_true c2
  clear c2
  obtain rfl:=Option.some.inj H
  go_enter Tryd.func41,Tryd.ntmps41
  go_wp2
  go_ret
  exact⟨by first | rfl|(simp;done)|(simp[*];done),a24_⟩
 ·rw[if_neg c2]at H
  have c2b0:decide (0≤a0)=false:=decide_eq_false c2
  clear c2
  obtain rfl:=Option.some.inj H
  go_enter Tryd.func41,Tryd.ntmps41
  go_wp2
  go_ret
  exact⟨by first | rfl|(simp;done)|(simp[*];done),a24_⟩

/-! ### impl_ExtendChecksum: function 12 -/
def impl_ExtendChecksum.f (a0:Int) (a1_0:Int) (a1_1:Int) (a1_2:Int):Option (Int×Bool):=(impl_isChecksum.f a0).bind fun t357=>(if t357=true then((impl_IsHole.f a1_0 a1_1 a1_2).bind fun t358=>(if t358=true then((impl_extendChecksum.f a0 a1_0 a1_1 a1_2).bind fun t359=>(some (t359,true))) else(some (0,false)))) else(some (0,false)))
set_option maxHeartbeats 8000000 in
set_option maxRecDepth 100000 in
theorem impl_ExtendChecksum.calls (a0:Int) (a1_0:Int) (a1_1:Int) (a1_2:Int) (r1:Int) (r2:Bool) (w:World) (h:impl_ExtendChecksum.f a0 a1_0 a1_1 a1_2=some (r1,r2)) :
 Calls Tryd.prog 12 #[.int .i64 a0, .agg #[.int .i64 a1_0, .int .i64 a1_1, .int .i64 a1_2]] w fun e w'=>e = .returned (.tuple #[.int .i64 r1, .bool r2])∧Below w.heap.size w w':=by
 have hu33:=Tryd.underlying33
 have HB:=am_ (Below.refl w.heap.size w)
 have H:((impl_isChecksum.f a0).bind fun t357=>(if t357=true then((impl_IsHole.f a1_0 a1_1 a1_2).bind fun t358=>(if t358=true then((impl_extendChecksum.f a0 a1_0 a1_1 a1_2).bind fun t359=>(some (t359,true))) else(some (0,false)))) else(some (0,false))))=some (r1,r2):=h
 clear h
 obtain⟨t357,A3,H⟩:=bo_ H
 try dsimp only at H
 by_cases c4:t357=true
 ·subst c4
  replace H:((impl_IsHole.f a1_0 a1_1 a1_2).bind fun t358=>(if t358=true then((impl_extendChecksum.f a0 a1_0 a1_1 a1_2).bind fun t359=>(some (t359,true))) else(some (0,false))))=some (r1,r2):=by rw[if_pos rfl]at H;exact H
  obtain⟨t358,A5,H⟩:=bo_ H
  try dsimp only at H
  by_cases c6:t358=true
  ·subst c6
   replace H:((impl_extendChecksum.f a0 a1_0 a1_1 a1_2).bind fun t359=>(some (t359,true)))=some (r1,r2):=by rw[if_pos rfl]at H;exact H
   obtain⟨t359,A7,H⟩:=bo_ H
   try dsimp only at H
   simp only[Option.some.injEq,Prod.mk.injEq]at H
   obtain⟨rfl,rfl⟩:=H
   go_enter Tryd.func12,Tryd.ntmps12
   go_wp2_with (first|((with_reducible refine gate_dst (N:=3) rfl ?_);refine box_event ?hg (N:=3) ?hd (cs:= #[.int .i64 a1_0, .int .i64 a1_1, .int .i64 a1_2]) (t:=33) ?hr ?_;(case hd=>rfl);(case hg=>rfl);(case hr=>exact hr_);intro gb356 hg w8 hbox hb;have BK356:=am_ (hbox);have GW356:=am_ ((by rw[hg];exact(below_size (a0_)):w.heap.size≤gb356));have GE356:=am_ ((by rw[hg];exact(below_size (a0_)):w.heap.size≤gb356));replace HB:=am_ (below_step (a0_) hb);clear hb hbox hg)|((with_reducible refine gate_callee (f:=41) rfl ?_);refine goesL_ (some 7) rfl rfl Tryd.func41 (by kernel_rfl) rfl #[.int .i64 a0] rfl gd_ ?_;(with_reducible refine(impl_isChecksum.calls a0 true _ A3.out).mono ?_);rintro e w' ⟨rfl,⟨nd,rfl⟩⟩;refine⟨_,rfl,?_⟩;have hcz9_0:w8.cell? ⟨gb356,0,none⟩=some (.int .i64 a1_0):=(blk_cell BK356.out 0).trans rfl;have hcz9_1:w8.cell? ⟨gb356,1,none⟩=some (.int .i64 a1_1):=(blk_cell BK356.out 1).trans rfl;have hcz9_2:w8.cell? ⟨gb356,2,none⟩=some (.int .i64 a1_2):=(blk_cell BK356.out 2).trans rfl;have hfz9_0:=blk_frozen BK356.out 0;have hfz9_1:=blk_frozen BK356.out 1;have hfz9_2:=blk_frozen BK356.out 2)|(go_at_call 42;(with_reducible refine(impl_IsHole.calls a1_0 a1_1 a1_2 true _ A5.out).mono ?_);rintro e w10 ⟨rfl,hb⟩;replace BK356:=am_ (blk_below (g:=gb356) (o:= .cells #[.int .i64 a1_0, .int .i64 a1_1, .int .i64 a1_2] 33 (0,0)) ((a5_ BK356.out)) hb);replace HB:=am_ (below_step ((a3_ GE356.out)) hb);(try clear hb);(try clear hb2);(try clear hk);(try clear hi);have hcz11_0:w10.cell? ⟨gb356,0,none⟩=some (.int .i64 a1_0):=(blk_cell BK356.out 0).trans rfl;have hcz11_1:w10.cell? ⟨gb356,1,none⟩=some (.int .i64 a1_1):=(blk_cell BK356.out 1).trans rfl;have hcz11_2:w10.cell? ⟨gb356,2,none⟩=some (.int .i64 a1_2):=(blk_cell BK356.out 2).trans rfl;have hfz11_0:=blk_frozen BK356.out 0;have hfz11_1:=blk_frozen BK356.out 1;have hfz11_2:=blk_frozen BK356.out 2)|((with_reducible refine gate_callee (f:=43) rfl ?_);refine goesL_ (some 16) rfl rfl Tryd.func43 (by kernel_rfl) rfl #[.int .i64 a0, .agg #[.int .i64 a1_0, .int .i64 a1_1, .int .i64 a1_2]] rfl gd_ ?_;(with_reducible refine(impl_extendChecksum.calls a0 a1_0 a1_1 a1_2 t359 _ A7.out).mono ?_);rintro e w12 ⟨rfl,hb⟩;refine⟨_,rfl,?_⟩;replace BK356:=am_ (blk_below (g:=gb356) (o:= .cells #[.int .i64 a1_0, .int .i64 a1_1, .int .i64 a1_2] 33 (0,0)) ((a5_ BK356.out)) hb);replace HB:=am_ (below_step ((a3_ GE356.out)) hb);(try clear hb);(try clear hb2);(try clear hk);(try clear hi)))
   go_ret2
   exact⟨a8_,(a3_ GE356.out)⟩
  ·replace c6:=Bool.eq_false_iff.mpr c6
   subst c6
   replace H:(some (0,false))=some (r1,r2):=by rw[if_neg (show ¬(false=true) by decide)]at H;exact H
   simp only[Option.some.injEq,Prod.mk.injEq]at H
   obtain⟨rfl,rfl⟩:=H
   go_enter Tryd.func12,Tryd.ntmps12
   go_wp2_with (first|((with_reducible refine gate_dst (N:=3) rfl ?_);refine box_event ?hg (N:=3) ?hd (cs:= #[.int .i64 a1_0, .int .i64 a1_1, .int .i64 a1_2]) (t:=33) ?hr ?_;(case hd=>rfl);(case hg=>rfl);(case hr=>exact hr_);intro gb356 hg w13 hbox hb;have BK356:=am_ (hbox);have GW356:=am_ ((by rw[hg];exact(below_size (a0_)):w.heap.size≤gb356));have GE356:=am_ ((by rw[hg];exact(below_size (a0_)):w.heap.size≤gb356));replace HB:=am_ (below_step (a0_) hb);clear hb hbox hg)|((with_reducible refine gate_callee (f:=41) rfl ?_);refine goesL_ (some 7) rfl rfl Tryd.func41 (by kernel_rfl) rfl #[.int .i64 a0] rfl gd_ ?_;(with_reducible refine(impl_isChecksum.calls a0 true _ A3.out).mono ?_);rintro e w' ⟨rfl,⟨nd,rfl⟩⟩;refine⟨_,rfl,?_⟩;have hcz14_0:w13.cell? ⟨gb356,0,none⟩=some (.int .i64 a1_0):=(blk_cell BK356.out 0).trans rfl;have hcz14_1:w13.cell? ⟨gb356,1,none⟩=some (.int .i64 a1_1):=(blk_cell BK356.out 1).trans rfl;have hcz14_2:w13.cell? ⟨gb356,2,none⟩=some (.int .i64 a1_2):=(blk_cell BK356.out 2).trans rfl;have hfz14_0:=blk_frozen BK356.out 0;have hfz14_1:=blk_frozen BK356.out 1;have hfz14_2:=blk_frozen BK356.out 2)|(go_at_call 42;(with_reducible refine(impl_IsHole.calls a1_0 a1_1 a1_2 false _ A5.out).mono ?_);rintro e w15 ⟨rfl,hb⟩;replace BK356:=am_ (blk_below (g:=gb356) (o:= .cells #[.int .i64 a1_0, .int .i64 a1_1, .int .i64 a1_2] 33 (0,0)) ((a5_ BK356.out)) hb);replace HB:=am_ (below_step ((a3_ GE356.out)) hb);(try clear hb);(try clear hb2);(try clear hk);(try clear hi)))
   go_ret2
   exact⟨a8_,(a3_ GE356.out)⟩
 ·replace c4:=Bool.eq_false_iff.mpr c4
  subst c4
  replace H:(some (0,false))=some (r1,r2):=by rw[if_neg (show ¬(false=true) by decide)]at H;exact H
  simp only[Option.some.injEq,Prod.mk.injEq]at H
  obtain⟨rfl,rfl⟩:=H
  go_enter Tryd.func12,Tryd.ntmps12
  go_wp2_with (first|((with_reducible refine gate_dst (N:=3) rfl ?_);refine box_event ?hg (N:=3) ?hd (cs:= #[.int .i64 a1_0, .int .i64 a1_1, .int .i64 a1_2]) (t:=33) ?hr ?_;(case hd=>rfl);(case hg=>rfl);(case hr=>exact hr_);intro gb356 hg w16 hbox hb;have BK356:=am_ (hbox);have GW356:=am_ ((by rw[hg];exact(below_size (a0_)):w.heap.size≤gb356));have GE356:=am_ ((by rw[hg];exact(below_size (a0_)):w.heap.size≤gb356));replace HB:=am_ (below_step (a0_) hb);clear hb hbox hg)|((with_reducible refine gate_callee (f:=41) rfl ?_);refine goesL_ (some 7) rfl rfl Tryd.func41 (by kernel_rfl) rfl #[.int .i64 a0] rfl gd_ ?_;(with_reducible refine(impl_isChecksum.calls a0 false _ A3.out).mono ?_);rintro e w' ⟨rfl,⟨nd,rfl⟩⟩;refine⟨_,rfl,?_⟩))
  go_ret2
  exact⟨a8_,(a3_ GE356.out)⟩

/-! ### spec_ckIs: function 44 -/
def spec_ckIs.f (a0:Int):Option (Bool):=(spec_l1In.f a0 0 1000002).bind fun t360=>(some t360)
set_option maxHeartbeats 8000000 in
set_option maxRecDepth 100000 in
theorem spec_ckIs.calls (a0:Int) (r:Bool) (w:World) (h:spec_ckIs.f a0=some r) :
 Calls Tryd.prog 44 #[.int .i64 a0] w fun e w'=>e = .returned (.bool r)∧Drawn0 w w':=by
 have H:((spec_l1In.f a0 0 1000002).bind fun t360=>(some t360))=some r:=h
 clear h
 obtain⟨t360,A2,H⟩:=bo_ H
 try dsimp only at H
 obtain rfl:=Option.some.inj H
 go_enter Tryd.func44,Tryd.ntmps44
 go_wp2_with (first|((with_reducible refine gate_callee (f:=77) rfl ?_);refine goesL_ (some 4) rfl rfl Tryd.func77 (by kernel_rfl) rfl #[.int .i64 a0, .int .i64 0, .int .i64 1000002] rfl gd_ ?_;(with_reducible refine(spec_l1In.calls a0 0 1000002 t360 _ A2.out).mono ?_);rintro e w' ⟨rfl,⟨nd,rfl⟩⟩;refine⟨_,rfl,?_⟩))
 go_ret
 exact⟨by first | rfl|(simp;done)|(simp[*];done),a24_⟩

/-! ### spec_ExtendChecksum: function 13 -/
def spec_ExtendChecksum.f (a0:Int) (a1_0:Int) (a1_1:Int) (a1_2:Int):Option (Int×Bool):=(spec_ckIs.f a0).bind fun t362=>(if t362=true then((spec_shHole.f a1_0 a1_1 a1_2).bind fun t363=>(if t363=true then((spec_ckExtend.f a0 a1_0 a1_1 a1_2).bind fun t364=>(some (t364,true))) else(some (0,false)))) else(some (0,false)))
set_option maxHeartbeats 8000000 in
set_option maxRecDepth 100000 in
theorem spec_ExtendChecksum.calls (a0:Int) (a1_0:Int) (a1_1:Int) (a1_2:Int) (r1:Int) (r2:Bool) (w:World) (h:spec_ExtendChecksum.f a0 a1_0 a1_1 a1_2=some (r1,r2)) :
 Calls Tryd.prog 13 #[.int .i64 a0, .agg #[.int .i64 a1_0, .int .i64 a1_1, .int .i64 a1_2]] w fun e w'=>e = .returned (.tuple #[.int .i64 r1, .bool r2])∧Below w.heap.size w w':=by
 have hu33:=Tryd.underlying33
 have HB:=am_ (Below.refl w.heap.size w)
 have H:((spec_ckIs.f a0).bind fun t362=>(if t362=true then((spec_shHole.f a1_0 a1_1 a1_2).bind fun t363=>(if t363=true then((spec_ckExtend.f a0 a1_0 a1_1 a1_2).bind fun t364=>(some (t364,true))) else(some (0,false)))) else(some (0,false))))=some (r1,r2):=h
 clear h
 obtain⟨t362,A3,H⟩:=bo_ H
 try dsimp only at H
 by_cases c4:t362=true
 ·subst c4
  replace H:((spec_shHole.f a1_0 a1_1 a1_2).bind fun t363=>(if t363=true then((spec_ckExtend.f a0 a1_0 a1_1 a1_2).bind fun t364=>(some (t364,true))) else(some (0,false))))=some (r1,r2):=by rw[if_pos rfl]at H;exact H
  obtain⟨t363,A5,H⟩:=bo_ H
  try dsimp only at H
  by_cases c6:t363=true
  ·subst c6
   replace H:((spec_ckExtend.f a0 a1_0 a1_1 a1_2).bind fun t364=>(some (t364,true)))=some (r1,r2):=by rw[if_pos rfl]at H;exact H
   obtain⟨t364,A7,H⟩:=bo_ H
   try dsimp only at H
   simp only[Option.some.injEq,Prod.mk.injEq]at H
   obtain⟨rfl,rfl⟩:=H
   go_enter Tryd.func13,Tryd.ntmps13
   go_wp2_with (first|((with_reducible refine gate_dst (N:=3) rfl ?_);refine box_event ?hg (N:=3) ?hd (cs:= #[.int .i64 a1_0, .int .i64 a1_1, .int .i64 a1_2]) (t:=33) ?hr ?_;(case hd=>rfl);(case hg=>rfl);(case hr=>exact hr_);intro gb361 hg w8 hbox hb;have BK361:=am_ (hbox);have GW361:=am_ ((by rw[hg];exact(below_size (a0_)):w.heap.size≤gb361));have GE361:=am_ ((by rw[hg];exact(below_size (a0_)):w.heap.size≤gb361));replace HB:=am_ (below_step (a0_) hb);clear hb hbox hg)|((with_reducible refine gate_callee (f:=44) rfl ?_);refine goesL_ (some 7) rfl rfl Tryd.func44 (by kernel_rfl) rfl #[.int .i64 a0] rfl gd_ ?_;(with_reducible refine(spec_ckIs.calls a0 true _ A3.out).mono ?_);rintro e w' ⟨rfl,⟨nd,rfl⟩⟩;refine⟨_,rfl,?_⟩;have hcz9_0:w8.cell? ⟨gb361,0,none⟩=some (.int .i64 a1_0):=(blk_cell BK361.out 0).trans rfl;have hcz9_1:w8.cell? ⟨gb361,1,none⟩=some (.int .i64 a1_1):=(blk_cell BK361.out 1).trans rfl;have hcz9_2:w8.cell? ⟨gb361,2,none⟩=some (.int .i64 a1_2):=(blk_cell BK361.out 2).trans rfl;have hfz9_0:=blk_frozen BK361.out 0;have hfz9_1:=blk_frozen BK361.out 1;have hfz9_2:=blk_frozen BK361.out 2)|(go_at_call 45;(with_reducible refine(spec_shHole.calls a1_0 a1_1 a1_2 true _ A5.out).mono ?_);rintro e w10 ⟨rfl,hb⟩;replace BK361:=am_ (blk_below (g:=gb361) (o:= .cells #[.int .i64 a1_0, .int .i64 a1_1, .int .i64 a1_2] 33 (0,0)) ((a5_ BK361.out)) hb);replace HB:=am_ (below_step ((a3_ GE361.out)) hb);(try clear hb);(try clear hb2);(try clear hk);(try clear hi);have hcz11_0:w10.cell? ⟨gb361,0,none⟩=some (.int .i64 a1_0):=(blk_cell BK361.out 0).trans rfl;have hcz11_1:w10.cell? ⟨gb361,1,none⟩=some (.int .i64 a1_1):=(blk_cell BK361.out 1).trans rfl;have hcz11_2:w10.cell? ⟨gb361,2,none⟩=some (.int .i64 a1_2):=(blk_cell BK361.out 2).trans rfl;have hfz11_0:=blk_frozen BK361.out 0;have hfz11_1:=blk_frozen BK361.out 1;have hfz11_2:=blk_frozen BK361.out 2)|((with_reducible refine gate_callee (f:=46) rfl ?_);refine goesL_ (some 16) rfl rfl Tryd.func46 (by kernel_rfl) rfl #[.int .i64 a0, .agg #[.int .i64 a1_0, .int .i64 a1_1, .int .i64 a1_2]] rfl gd_ ?_;(with_reducible refine(spec_ckExtend.calls a0 a1_0 a1_1 a1_2 t364 _ A7.out).mono ?_);rintro e w12 ⟨rfl,hb⟩;refine⟨_,rfl,?_⟩;replace BK361:=am_ (blk_below (g:=gb361) (o:= .cells #[.int .i64 a1_0, .int .i64 a1_1, .int .i64 a1_2] 33 (0,0)) ((a5_ BK361.out)) hb);replace HB:=am_ (below_step ((a3_ GE361.out)) hb);(try clear hb);(try clear hb2);(try clear hk);(try clear hi)))
   go_ret2
   exact⟨a8_,(a3_ GE361.out)⟩
  ·replace c6:=Bool.eq_false_iff.mpr c6
   subst c6
   replace H:(some (0,false))=some (r1,r2):=by rw[if_neg (show ¬(false=true) by decide)]at H;exact H
   simp only[Option.some.injEq,Prod.mk.injEq]at H
   obtain⟨rfl,rfl⟩:=H
   go_enter Tryd.func13,Tryd.ntmps13
   go_wp2_with (first|((with_reducible refine gate_dst (N:=3) rfl ?_);refine box_event ?hg (N:=3) ?hd (cs:= #[.int .i64 a1_0, .int .i64 a1_1, .int .i64 a1_2]) (t:=33) ?hr ?_;(case hd=>rfl);(case hg=>rfl);(case hr=>exact hr_);intro gb361 hg w13 hbox hb;have BK361:=am_ (hbox);have GW361:=am_ ((by rw[hg];exact(below_size (a0_)):w.heap.size≤gb361));have GE361:=am_ ((by rw[hg];exact(below_size (a0_)):w.heap.size≤gb361));replace HB:=am_ (below_step (a0_) hb);clear hb hbox hg)|((with_reducible refine gate_callee (f:=44) rfl ?_);refine goesL_ (some 7) rfl rfl Tryd.func44 (by kernel_rfl) rfl #[.int .i64 a0] rfl gd_ ?_;(with_reducible refine(spec_ckIs.calls a0 true _ A3.out).mono ?_);rintro e w' ⟨rfl,⟨nd,rfl⟩⟩;refine⟨_,rfl,?_⟩;have hcz14_0:w13.cell? ⟨gb361,0,none⟩=some (.int .i64 a1_0):=(blk_cell BK361.out 0).trans rfl;have hcz14_1:w13.cell? ⟨gb361,1,none⟩=some (.int .i64 a1_1):=(blk_cell BK361.out 1).trans rfl;have hcz14_2:w13.cell? ⟨gb361,2,none⟩=some (.int .i64 a1_2):=(blk_cell BK361.out 2).trans rfl;have hfz14_0:=blk_frozen BK361.out 0;have hfz14_1:=blk_frozen BK361.out 1;have hfz14_2:=blk_frozen BK361.out 2)|(go_at_call 45;(with_reducible refine(spec_shHole.calls a1_0 a1_1 a1_2 false _ A5.out).mono ?_);rintro e w15 ⟨rfl,hb⟩;replace BK361:=am_ (blk_below (g:=gb361) (o:= .cells #[.int .i64 a1_0, .int .i64 a1_1, .int .i64 a1_2] 33 (0,0)) ((a5_ BK361.out)) hb);replace HB:=am_ (below_step ((a3_ GE361.out)) hb);(try clear hb);(try clear hb2);(try clear hk);(try clear hi)))
   go_ret2
   exact⟨a8_,(a3_ GE361.out)⟩
 ·replace c4:=Bool.eq_false_iff.mpr c4
  subst c4
  replace H:(some (0,false))=some (r1,r2):=by rw[if_neg (show ¬(false=true) by decide)]at H;exact H
  simp only[Option.some.injEq,Prod.mk.injEq]at H
  obtain⟨rfl,rfl⟩:=H
  go_enter Tryd.func13,Tryd.ntmps13
  go_wp2_with (first|((with_reducible refine gate_dst (N:=3) rfl ?_);refine box_event ?hg (N:=3) ?hd (cs:= #[.int .i64 a1_0, .int .i64 a1_1, .int .i64 a1_2]) (t:=33) ?hr ?_;(case hd=>rfl);(case hg=>rfl);(case hr=>exact hr_);intro gb361 hg w16 hbox hb;have BK361:=am_ (hbox);have GW361:=am_ ((by rw[hg];exact(below_size (a0_)):w.heap.size≤gb361));have GE361:=am_ ((by rw[hg];exact(below_size (a0_)):w.heap.size≤gb361));replace HB:=am_ (below_step (a0_) hb);clear hb hbox hg)|((with_reducible refine gate_callee (f:=44) rfl ?_);refine goesL_ (some 7) rfl rfl Tryd.func44 (by kernel_rfl) rfl #[.int .i64 a0] rfl gd_ ?_;(with_reducible refine(spec_ckIs.calls a0 false _ A3.out).mono ?_);rintro e w' ⟨rfl,⟨nd,rfl⟩⟩;refine⟨_,rfl,?_⟩))
  go_ret2
  exact⟨a8_,(a3_ GE361.out)⟩

/-! ### impl_HoleNumber: function 14 -/
def impl_HoleNumber.f (a0_0:Int) (a0_1:Int) (a0_2:Int):Option (Int×Bool):=(impl_IsHole.f a0_0 a0_1 a0_2).bind fun t366=>(if t366=true then((impl_holeNumber.f a0_0 a0_1 a0_2).bind fun t367=>(some (t367,true))) else(some (0,false)))
set_option maxHeartbeats 8000000 in
set_option maxRecDepth 100000 in
theorem impl_HoleNumber.calls (a0_0:Int) (a0_1:Int) (a0_2:Int) (r1:Int) (r2:Bool) (w:World) (h:impl_HoleNumber.f a0_0 a0_1 a0_2=some (r1,r2)) :
 Calls Tryd.prog 14 #[.agg #[.int .i64 a0_0, .int .i64 a0_1, .int .i64 a0_2]] w fun e w'=>e = .returned (.tuple #[.int .i64 r1, .bool r2])∧Below w.heap.size w w':=by
 have hu33:=Tryd.underlying33
 have HB:=am_ (Below.refl w.heap.size w)
 have H:((impl_IsHole.f a0_0 a0_1 a0_2).bind fun t366=>(if t366=true then((impl_holeNumber.f a0_0 a0_1 a0_2).bind fun t367=>(some (t367,true))) else(some (0,false))))=some (r1,r2):=h
 clear h
 obtain⟨t366,A2,H⟩:=bo_ H
 try dsimp only at H
 by_cases c3:t366=true
 ·subst c3
  replace H:((impl_holeNumber.f a0_0 a0_1 a0_2).bind fun t367=>(some (t367,true)))=some (r1,r2):=by rw[if_pos rfl]at H;exact H
  obtain⟨t367,A4,H⟩:=bo_ H
  try dsimp only at H
  simp only[Option.some.injEq,Prod.mk.injEq]at H
  obtain⟨rfl,rfl⟩:=H
  go_enter Tryd.func14,Tryd.ntmps14
  go_wp2_with (first|((with_reducible refine gate_dst (N:=1) rfl ?_);refine box_event ?hg (N:=1) ?hd (cs:= #[.int .i64 a0_0, .int .i64 a0_1, .int .i64 a0_2]) (t:=33) ?hr ?_;(case hd=>rfl);(case hg=>rfl);(case hr=>exact hr_);intro gb365 hg w5 hbox hb;have BK365:=am_ (hbox);have GW365:=am_ ((by rw[hg];exact(below_size (a0_)):w.heap.size≤gb365));have GE365:=am_ ((by rw[hg];exact(below_size (a0_)):w.heap.size≤gb365));replace HB:=am_ (below_step (a0_) hb);clear hb hbox hg;have hcz6_0:w5.cell? ⟨gb365,0,none⟩=some (.int .i64 a0_0):=(blk_cell BK365.out 0).trans rfl;have hcz6_1:w5.cell? ⟨gb365,1,none⟩=some (.int .i64 a0_1):=(blk_cell BK365.out 1).trans rfl;have hcz6_2:w5.cell? ⟨gb365,2,none⟩=some (.int .i64 a0_2):=(blk_cell BK365.out 2).trans rfl;have hfz6_0:=blk_frozen BK365.out 0;have hfz6_1:=blk_frozen BK365.out 1;have hfz6_2:=blk_frozen BK365.out 2)|((with_reducible refine gate_callee (f:=42) rfl ?_);refine goesL_ (some 5) rfl rfl Tryd.func42 (by kernel_rfl) rfl #[.agg #[.int .i64 a0_0, .int .i64 a0_1, .int .i64 a0_2]] rfl gd_ ?_;(with_reducible refine(impl_IsHole.calls a0_0 a0_1 a0_2 true _ A2.out).mono ?_);rintro e w7 ⟨rfl,hb⟩;refine⟨_,rfl,?_⟩;replace BK365:=am_ (blk_below (g:=gb365) (o:= .cells #[.int .i64 a0_0, .int .i64 a0_1, .int .i64 a0_2] 33 (0,0)) ((a5_ BK365.out)) hb);replace HB:=am_ (below_step ((a3_ GE365.out)) hb);(try clear hb);(try clear hb2);(try clear hk);(try clear hi);have hcz8_0:w7.cell? ⟨gb365,0,none⟩=some (.int .i64 a0_0):=(blk_cell BK365.out 0).trans rfl;have hcz8_1:w7.cell? ⟨gb365,1,none⟩=some (.int .i64 a0_1):=(blk_cell BK365.out 1).trans rfl;have hcz8_2:w7.cell? ⟨gb365,2,none⟩=some (.int .i64 a0_2):=(blk_cell BK365.out 2).trans rfl;have hfz8_0:=blk_frozen BK365.out 0;have hfz8_1:=blk_frozen BK365.out 1;have hfz8_2:=blk_frozen BK365.out 2)|((with_reducible refine gate_callee (f:=47) rfl ?_);refine goesL_ (some 8) rfl rfl Tryd.func47 (by kernel_rfl) rfl #[.agg #[.int .i64 a0_0, .int .i64 a0_1, .int .i64 a0_2]] rfl gd_ ?_;(with_reducible refine(impl_holeNumber.calls a0_0 a0_1 a0_2 t367 _ A4.out).mono ?_);rintro e w9 ⟨rfl,hb⟩;refine⟨_,rfl,?_⟩;replace BK365:=am_ (blk_below (g:=gb365) (o:= .cells #[.int .i64 a0_0, .int .i64 a0_1, .int .i64 a0_2] 33 (0,0)) ((a5_ BK365.out)) hb);replace HB:=am_ (below_step ((a3_ GE365.out)) hb);(try clear hb);(try clear hb2);(try clear hk);(try clear hi)))
  go_ret2
  exact⟨a8_,(a3_ GE365.out)⟩
 ·replace c3:=Bool.eq_false_iff.mpr c3
  subst c3
  replace H:(some (0,false))=some (r1,r2):=by rw[if_neg (show ¬(false=true) by decide)]at H;exact H
  simp only[Option.some.injEq,Prod.mk.injEq]at H
  obtain⟨rfl,rfl⟩:=H
  go_enter Tryd.func14,Tryd.ntmps14
  go_wp2_with (first|((with_reducible refine gate_dst (N:=1) rfl ?_);refine box_event ?hg (N:=1) ?hd (cs:= #[.int .i64 a0_0, .int .i64 a0_1, .int .i64 a0_2]) (t:=33) ?hr ?_;(case hd=>rfl);(case hg=>rfl);(case hr=>exact hr_);intro gb365 hg w10 hbox hb;have BK365:=am_ (hbox);have GW365:=am_ ((by rw[hg];exact(below_size (a0_)):w.heap.size≤gb365));have GE365:=am_ ((by rw[hg];exact(below_size (a0_)):w.heap.size≤gb365));replace HB:=am_ (below_step (a0_) hb);clear hb hbox hg;have hcz11_0:w10.cell? ⟨gb365,0,none⟩=some (.int .i64 a0_0):=(blk_cell BK365.out 0).trans rfl;have hcz11_1:w10.cell? ⟨gb365,1,none⟩=some (.int .i64 a0_1):=(blk_cell BK365.out 1).trans rfl;have hcz11_2:w10.cell? ⟨gb365,2,none⟩=some (.int .i64 a0_2):=(blk_cell BK365.out 2).trans rfl;have hfz11_0:=blk_frozen BK365.out 0;have hfz11_1:=blk_frozen BK365.out 1;have hfz11_2:=blk_frozen BK365.out 2)|((with_reducible refine gate_callee (f:=42) rfl ?_);refine goesL_ (some 5) rfl rfl Tryd.func42 (by kernel_rfl) rfl #[.agg #[.int .i64 a0_0, .int .i64 a0_1, .int .i64 a0_2]] rfl gd_ ?_;(with_reducible refine(impl_IsHole.calls a0_0 a0_1 a0_2 false _ A2.out).mono ?_);rintro e w12 ⟨rfl,hb⟩;refine⟨_,rfl,?_⟩;replace BK365:=am_ (blk_below (g:=gb365) (o:= .cells #[.int .i64 a0_0, .int .i64 a0_1, .int .i64 a0_2] 33 (0,0)) ((a5_ BK365.out)) hb);replace HB:=am_ (below_step ((a3_ GE365.out)) hb);(try clear hb);(try clear hb2);(try clear hk);(try clear hi)))
  go_ret2
  exact⟨a8_,(a3_ GE365.out)⟩

/-! ### spec_HoleNumber: function 15 -/
def spec_HoleNumber.f (a0_0:Int) (a0_1:Int) (a0_2:Int):Option (Int×Bool):=(spec_shHole.f a0_0 a0_1 a0_2).bind fun t369=>(if t369=true then((spec_ckNumber.f a0_0 a0_1 a0_2).bind fun t370=>(some (t370,true))) else(some (0,false)))
set_option maxHeartbeats 8000000 in
set_option maxRecDepth 100000 in
theorem spec_HoleNumber.calls (a0_0:Int) (a0_1:Int) (a0_2:Int) (r1:Int) (r2:Bool) (w:World) (h:spec_HoleNumber.f a0_0 a0_1 a0_2=some (r1,r2)) :
 Calls Tryd.prog 15 #[.agg #[.int .i64 a0_0, .int .i64 a0_1, .int .i64 a0_2]] w fun e w'=>e = .returned (.tuple #[.int .i64 r1, .bool r2])∧Below w.heap.size w w':=by
 have hu33:=Tryd.underlying33
 have HB:=am_ (Below.refl w.heap.size w)
 have H:((spec_shHole.f a0_0 a0_1 a0_2).bind fun t369=>(if t369=true then((spec_ckNumber.f a0_0 a0_1 a0_2).bind fun t370=>(some (t370,true))) else(some (0,false))))=some (r1,r2):=h
 clear h
 obtain⟨t369,A2,H⟩:=bo_ H
 try dsimp only at H
 by_cases c3:t369=true
 ·subst c3
  replace H:((spec_ckNumber.f a0_0 a0_1 a0_2).bind fun t370=>(some (t370,true)))=some (r1,r2):=by rw[if_pos rfl]at H;exact H
  obtain⟨t370,A4,H⟩:=bo_ H
  try dsimp only at H
  simp only[Option.some.injEq,Prod.mk.injEq]at H
  obtain⟨rfl,rfl⟩:=H
  go_enter Tryd.func15,Tryd.ntmps15
  go_wp2_with (first|((with_reducible refine gate_dst (N:=1) rfl ?_);refine box_event ?hg (N:=1) ?hd (cs:= #[.int .i64 a0_0, .int .i64 a0_1, .int .i64 a0_2]) (t:=33) ?hr ?_;(case hd=>rfl);(case hg=>rfl);(case hr=>exact hr_);intro gb368 hg w5 hbox hb;have BK368:=am_ (hbox);have GW368:=am_ ((by rw[hg];exact(below_size (a0_)):w.heap.size≤gb368));have GE368:=am_ ((by rw[hg];exact(below_size (a0_)):w.heap.size≤gb368));replace HB:=am_ (below_step (a0_) hb);clear hb hbox hg;have hcz6_0:w5.cell? ⟨gb368,0,none⟩=some (.int .i64 a0_0):=(blk_cell BK368.out 0).trans rfl;have hcz6_1:w5.cell? ⟨gb368,1,none⟩=some (.int .i64 a0_1):=(blk_cell BK368.out 1).trans rfl;have hcz6_2:w5.cell? ⟨gb368,2,none⟩=some (.int .i64 a0_2):=(blk_cell BK368.out 2).trans rfl;have hfz6_0:=blk_frozen BK368.out 0;have hfz6_1:=blk_frozen BK368.out 1;have hfz6_2:=blk_frozen BK368.out 2)|((with_reducible refine gate_callee (f:=45) rfl ?_);refine goesL_ (some 5) rfl rfl Tryd.func45 (by kernel_rfl) rfl #[.agg #[.int .i64 a0_0, .int .i64 a0_1, .int .i64 a0_2]] rfl gd_ ?_;(with_reducible refine(spec_shHole.calls a0_0 a0_1 a0_2 true _ A2.out).mono ?_);rintro e w7 ⟨rfl,hb⟩;refine⟨_,rfl,?_⟩;replace BK368:=am_ (blk_below (g:=gb368) (o:= .cells #[.int .i64 a0_0, .int .i64 a0_1, .int .i64 a0_2] 33 (0,0)) ((a5_ BK368.out)) hb);replace HB:=am_ (below_step ((a3_ GE368.out)) hb);(try clear hb);(try clear hb2);(try clear hk);(try clear hi);have hcz8_0:w7.cell? ⟨gb368,0,none⟩=some (.int .i64 a0_0):=(blk_cell BK368.out 0).trans rfl;have hcz8_1:w7.cell? ⟨gb368,1,none⟩=some (.int .i64 a0_1):=(blk_cell BK368.out 1).trans rfl;have hcz8_2:w7.cell? ⟨gb368,2,none⟩=some (.int .i64 a0_2):=(blk_cell BK368.out 2).trans rfl;have hfz8_0:=blk_frozen BK368.out 0;have hfz8_1:=blk_frozen BK368.out 1;have hfz8_2:=blk_frozen BK368.out 2)|((with_reducible refine gate_callee (f:=48) rfl ?_);refine goesL_ (some 8) rfl rfl Tryd.func48 (by kernel_rfl) rfl #[.agg #[.int .i64 a0_0, .int .i64 a0_1, .int .i64 a0_2]] rfl gd_ ?_;(with_reducible refine(spec_ckNumber.calls a0_0 a0_1 a0_2 t370 _ A4.out).mono ?_);rintro e w9 ⟨rfl,hb⟩;refine⟨_,rfl,?_⟩;replace BK368:=am_ (blk_below (g:=gb368) (o:= .cells #[.int .i64 a0_0, .int .i64 a0_1, .int .i64 a0_2] 33 (0,0)) ((a5_ BK368.out)) hb);replace HB:=am_ (below_step ((a3_ GE368.out)) hb);(try clear hb);(try clear hb2);(try clear hk);(try clear hi)))
  go_ret2
  exact⟨a8_,(a3_ GE368.out)⟩
 ·replace c3:=Bool.eq_false_iff.mpr c3
  subst c3
  replace H:(some (0,false))=some (r1,r2):=by rw[if_neg (show ¬(false=true) by decide)]at H;exact H
  simp only[Option.some.injEq,Prod.mk.injEq]at H
  obtain⟨rfl,rfl⟩:=H
  go_enter Tryd.func15,Tryd.ntmps15
  go_wp2_with (first|((with_reducible refine gate_dst (N:=1) rfl ?_);refine box_event ?hg (N:=1) ?hd (cs:= #[.int .i64 a0_0, .int .i64 a0_1, .int .i64 a0_2]) (t:=33) ?hr ?_;(case hd=>rfl);(case hg=>rfl);(case hr=>exact hr_);intro gb368 hg w10 hbox hb;have BK368:=am_ (hbox);have GW368:=am_ ((by rw[hg];exact(below_size (a0_)):w.heap.size≤gb368));have GE368:=am_ ((by rw[hg];exact(below_size (a0_)):w.heap.size≤gb368));replace HB:=am_ (below_step (a0_) hb);clear hb hbox hg;have hcz11_0:w10.cell? ⟨gb368,0,none⟩=some (.int .i64 a0_0):=(blk_cell BK368.out 0).trans rfl;have hcz11_1:w10.cell? ⟨gb368,1,none⟩=some (.int .i64 a0_1):=(blk_cell BK368.out 1).trans rfl;have hcz11_2:w10.cell? ⟨gb368,2,none⟩=some (.int .i64 a0_2):=(blk_cell BK368.out 2).trans rfl;have hfz11_0:=blk_frozen BK368.out 0;have hfz11_1:=blk_frozen BK368.out 1;have hfz11_2:=blk_frozen BK368.out 2)|((with_reducible refine gate_callee (f:=45) rfl ?_);refine goesL_ (some 5) rfl rfl Tryd.func45 (by kernel_rfl) rfl #[.agg #[.int .i64 a0_0, .int .i64 a0_1, .int .i64 a0_2]] rfl gd_ ?_;(with_reducible refine(spec_shHole.calls a0_0 a0_1 a0_2 false _ A2.out).mono ?_);rintro e w12 ⟨rfl,hb⟩;refine⟨_,rfl,?_⟩;replace BK368:=am_ (blk_below (g:=gb368) (o:= .cells #[.int .i64 a0_0, .int .i64 a0_1, .int .i64 a0_2] 33 (0,0)) ((a5_ BK368.out)) hb);replace HB:=am_ (below_step ((a3_ GE368.out)) hb);(try clear hb);(try clear hb2);(try clear hk);(try clear hi)))
  go_ret2
  exact⟨a8_,(a3_ GE368.out)⟩

/-! ### impl_HoleOfNumber: function 16 -/
def impl_HoleOfNumber.f (a0:Int):Option (Int×Int×Int×Bool):=if a0<0 then(some (0,0,0,false)) else((impl_IsHole.f (wrap64 (Int.tdiv a0 4004001)) (wrap64 (Int.tdiv (Int.tmod a0 4004001) 2001)) (Int.tmod a0 2001)).bind fun t373=>(if t373=true then(some (wrap64 (Int.tdiv a0 4004001),wrap64 (Int.tdiv (Int.tmod a0 4004001) 2001),Int.tmod a0 2001,true)) else(some (0,0,0,false))))
set_option maxHeartbeats 8000000 in
set_option maxRecDepth 100000 in
theorem impl_HoleOfNumber.calls (a0:Int) (r1:Int) (r2:Int) (r3:Int) (r4:Bool) (w:World) (h:impl_HoleOfNumber.f a0=some (r1,r2,r3,r4)) :
 Calls Tryd.prog 16 #[.int .i64 a0] w fun e w'=>e = .returned (.tuple #[.agg #[.int .i64 r1, .int .i64 r2, .int .i64 r3], .bool r4])∧Below w.heap.size w w':=by
 have hu33:=Tryd.underlying33
 have HB:=am_ (Below.refl w.heap.size w)
 have H:(if a0<0 then(some (0,0,0,false)) else((impl_IsHole.f (wrap64 (Int.tdiv a0 4004001)) (wrap64 (Int.tdiv (Int.tmod a0 4004001) 2001)) (Int.tmod a0 2001)).bind fun t373=>(if t373=true then(some (wrap64 (Int.tdiv a0 4004001),wrap64 (Int.tdiv (Int.tmod a0 4004001) 2001),Int.tmod a0 2001,true)) else(some (0,0,0,false)))))=some (r1,r2,r3,r4):=h
 clear h
 by_cases c2:a0<0
 ·rw[if_pos c2]at H
  have c2b0:decide (a0<0)=true:=decide_eq_true c2
  clear c2
  simp only[Option.some.injEq,Prod.mk.injEq]at H
  obtain⟨rfl,rfl,rfl,rfl⟩:=H
  go_enter Tryd.func16,Tryd.ntmps16
  go_wp2_with (first|((with_reducible refine gate_dst (N:=2) rfl ?_);refine box_event ?hg (N:=2) ?hd (cs:= #[.int .i64 0, .int .i64 0, .int .i64 0]) (t:=33) ?hr ?_;(case hd=>rfl);(case hg=>rfl);(case hr=>exact hr_);intro gb371 hg w3 hbox hb;have BK371:=am_ (hbox);have GW371:=am_ ((by rw[hg];exact(below_size (a0_)):w.heap.size≤gb371));have GE371:=am_ ((by rw[hg];exact(below_size (a0_)):w.heap.size≤gb371));replace HB:=am_ (below_step (a0_) hb);clear hb hbox hg;have hcz4_0:w3.cell? ⟨gb371,0,none⟩=some (.int .i64 0):=(blk_cell BK371.out 0).trans rfl;have hcz4_1:w3.cell? ⟨gb371,1,none⟩=some (.int .i64 0):=(blk_cell BK371.out 1).trans rfl;have hcz4_2:w3.cell? ⟨gb371,2,none⟩=some (.int .i64 0):=(blk_cell BK371.out 2).trans rfl;have hfz4_0:=blk_frozen BK371.out 0;have hfz4_1:=blk_frozen BK371.out 1;have hfz4_2:=blk_frozen BK371.out 2))
  refine bodyPost_ret (results_ct rfl _ _ gb371 33 #[.int .i64 0, .int .i64 0, .int .i64 0] (0,0) _ rfl ((a22_ BK371.out)) Tryd.underlying33 rfl (by kernel_rfl)) rfl ?_
  exact⟨a8_,(a3_ GE371.out)⟩
 ·rw[if_neg c2]at H
  have c2b0:decide (a0<0)=false:=decide_eq_false c2
  clear c2
  obtain⟨t373,A5,H⟩:=bo_ H
  try dsimp only at H
  by_cases c6:t373=true
  ·subst c6
   replace H:(some (wrap64 (Int.tdiv a0 4004001),wrap64 (Int.tdiv (Int.tmod a0 4004001) 2001),Int.tmod a0 2001,true))=some (r1,r2,r3,r4):=by rw[if_pos rfl]at H;exact H
   simp only[Option.some.injEq,Prod.mk.injEq]at H
   obtain⟨rfl,rfl,rfl,rfl⟩:=H
   go_enter Tryd.func16,Tryd.ntmps16
   go_wp2_with (first|((with_reducible refine gate_dst (N:=2) rfl ?_);refine box_event ?hg (N:=2) ?hd (cs:= #[.int .i64 0, .int .i64 0, .int .i64 0]) (t:=33) ?hr ?_;(case hd=>rfl);(case hg=>rfl);(case hr=>exact hr_);intro gb371 hg w7 hbox hb;have BK371:=am_ (hbox);have GW371:=am_ ((by rw[hg];exact(below_size (a0_)):w.heap.size≤gb371));have GE371:=am_ ((by rw[hg];exact(below_size (a0_)):w.heap.size≤gb371));replace HB:=am_ (below_step (a0_) hb);clear hb hbox hg)|((with_reducible refine gate_dst (N:=4) rfl ?_);refine box_event ?hg (N:=4) ?hd (cs:= #[.int .i64 0, .int .i64 0, .int .i64 0]) (t:=33) ?hr ?_;(case hd=>rfl);(case hg=>rfl);(case hr=>exact hr_);intro gb372 hg w8 hbox hb;have BK372:=am_ (hbox);have GW372:=am_ ((by rw[hg];exact(below_size ((a3_ GE371.out))):w.heap.size≤gb372));have GE372:=am_ ((by rw[hg];exact(below_size ((a3_ GE371.out))):w.heap.size≤gb372));replace HB:=am_ (below_step ((a3_ GE371.out)) hb);have NB371_372:=am_ ((by rw[hg];exact Nat.ne_of_lt (blk_lt (g:=gb371) (o:= .cells #[.int .i64 0, .int .i64 0, .int .i64 0] 33 (0,0)) ((a5_ BK371.out))):gb371≠gb372));have NB372_371:=am_ ((by rw[hg];exact Nat.ne_of_gt (blk_lt (g:=gb371) (o:= .cells #[.int .i64 0, .int .i64 0, .int .i64 0] 33 (0,0)) ((a5_ BK371.out))):gb372≠gb371));replace BK371:=am_ (blk_below (g:=gb371) (o:= .cells #[.int .i64 0, .int .i64 0, .int .i64 0] 33 (0,0)) ((a5_ BK371.out)) hb);clear hb hbox hg;have hnb9:=NB372_371.out;have hnc9:=NB371_372.out;have hcz10_0:w8.cell? ⟨gb372,0,none⟩=some (.int .i64 0):=(blk_cell BK372.out 0).trans rfl;have hcz10_1:w8.cell? ⟨gb372,1,none⟩=some (.int .i64 0):=(blk_cell BK372.out 1).trans rfl;have hcz10_2:w8.cell? ⟨gb372,2,none⟩=some (.int .i64 0):=(blk_cell BK372.out 2).trans rfl;have hfz10_0:=blk_frozen BK372.out 0;have hfz10_1:=blk_frozen BK372.out 1;have hfz10_2:=blk_frozen BK372.out 2)|((with_reducible refine gate_callee (f:=42) rfl ?_);refine goesL_ (some 18) rfl rfl Tryd.func42 (by kernel_rfl) rfl #[.agg #[.int .i64 (wrap64 (Int.tdiv a0 4004001)), .int .i64 (wrap64 (Int.tdiv (Int.tmod a0 4004001) 2001)), .int .i64 (Int.tmod a0 2001)]] rfl gd_ ?_;(with_reducible refine(impl_IsHole.calls (wrap64 (Int.tdiv a0 4004001)) (wrap64 (Int.tdiv (Int.tmod a0 4004001) 2001)) (Int.tmod a0 2001) true _ A5.out).mono ?_);rintro e w11 ⟨rfl,hb⟩;refine⟨_,rfl,?_⟩;replace BK371:=am_ (blk_below (g:=gb371) (o:= .cells #[.int .i64 0, .int .i64 0, .int .i64 0] 33 (0,0)) ((a11_ NB371_372.out BK371.out)) hb);replace BK372:=am_ (blk_below (g:=gb372) (o:= .cells #[.int .i64 (wrap64 (Int.tdiv a0 4004001)), .int .i64 (wrap64 (Int.tdiv (Int.tmod a0 4004001) 2001)), .int .i64 (Int.tmod a0 2001)] 33 (0,0)) ((a14_ BK372.out)) hb);replace HB:=am_ (below_step ((a13_ GE371.out GE372.out)) hb);(try clear hb);(try clear hb2);(try clear hk);(try clear hi);have hcz12_0:w11.cell? ⟨gb372,0,none⟩=some (.int .i64 (wrap64 (Int.tdiv a0 4004001))):=(blk_cell BK372.out 0).trans rfl;have hcz12_1:w11.cell? ⟨gb372,1,none⟩=some (.int .i64 (wrap64 (Int.tdiv (Int.tmod a0 4004001) 2001))):=(blk_cell BK372.out 1).trans rfl;have hcz12_2:w11.cell? ⟨gb372,2,none⟩=some (.int .i64 (Int.tmod a0 2001)):=(blk_cell BK372.out 2).trans rfl;have hfz12_0:=blk_frozen BK372.out 0;have hfz12_1:=blk_frozen BK372.out 1;have hfz12_2:=blk_frozen BK372.out 2;have hcz13_0:w11.cell? ⟨gb371,0,none⟩=some (.int .i64 0):=(blk_cell BK371.out 0).trans rfl;have hcz13_1:w11.cell? ⟨gb371,1,none⟩=some (.int .i64 0):=(blk_cell BK371.out 1).trans rfl;have hcz13_2:w11.cell? ⟨gb371,2,none⟩=some (.int .i64 0):=(blk_cell BK371.out 2).trans rfl;have hfz13_0:=blk_frozen BK371.out 0;have hfz13_1:=blk_frozen BK371.out 1;have hfz13_2:=blk_frozen BK371.out 2))
   refine bodyPost_ret (results_ct rfl _ _ gb371 33 #[.int .i64 (wrap64 (Int.tdiv a0 4004001)), .int .i64 (wrap64 (Int.tdiv (Int.tmod a0 4004001) 2001)), .int .i64 (Int.tmod a0 2001)] (0,0) _ rfl ((a14_ BK371.out)) Tryd.underlying33 rfl (by kernel_rfl)) rfl ?_
   exact⟨a8_,(a13_ GE371.out GE372.out)⟩
  ·replace c6:=Bool.eq_false_iff.mpr c6
   subst c6
   replace H:(some (0,0,0,false))=some (r1,r2,r3,r4):=by rw[if_neg (show ¬(false=true) by decide)]at H;exact H
   simp only[Option.some.injEq,Prod.mk.injEq]at H
   obtain⟨rfl,rfl,rfl,rfl⟩:=H
   go_enter Tryd.func16,Tryd.ntmps16
   go_wp2_with (first|((with_reducible refine gate_dst (N:=2) rfl ?_);refine box_event ?hg (N:=2) ?hd (cs:= #[.int .i64 0, .int .i64 0, .int .i64 0]) (t:=33) ?hr ?_;(case hd=>rfl);(case hg=>rfl);(case hr=>exact hr_);intro gb371 hg w14 hbox hb;have BK371:=am_ (hbox);have GW371:=am_ ((by rw[hg];exact(below_size (a0_)):w.heap.size≤gb371));have GE371:=am_ ((by rw[hg];exact(below_size (a0_)):w.heap.size≤gb371));replace HB:=am_ (below_step (a0_) hb);clear hb hbox hg)|((with_reducible refine gate_dst (N:=4) rfl ?_);refine box_event ?hg (N:=4) ?hd (cs:= #[.int .i64 0, .int .i64 0, .int .i64 0]) (t:=33) ?hr ?_;(case hd=>rfl);(case hg=>rfl);(case hr=>exact hr_);intro gb372 hg w15 hbox hb;have BK372:=am_ (hbox);have GW372:=am_ ((by rw[hg];exact(below_size ((a3_ GE371.out))):w.heap.size≤gb372));have GE372:=am_ ((by rw[hg];exact(below_size ((a3_ GE371.out))):w.heap.size≤gb372));replace HB:=am_ (below_step ((a3_ GE371.out)) hb);have NB371_372:=am_ ((by rw[hg];exact Nat.ne_of_lt (blk_lt (g:=gb371) (o:= .cells #[.int .i64 0, .int .i64 0, .int .i64 0] 33 (0,0)) ((a5_ BK371.out))):gb371≠gb372));have NB372_371:=am_ ((by rw[hg];exact Nat.ne_of_gt (blk_lt (g:=gb371) (o:= .cells #[.int .i64 0, .int .i64 0, .int .i64 0] 33 (0,0)) ((a5_ BK371.out))):gb372≠gb371));replace BK371:=am_ (blk_below (g:=gb371) (o:= .cells #[.int .i64 0, .int .i64 0, .int .i64 0] 33 (0,0)) ((a5_ BK371.out)) hb);clear hb hbox hg;have hnb16:=NB372_371.out;have hnc16:=NB371_372.out;have hcz17_0:w15.cell? ⟨gb372,0,none⟩=some (.int .i64 0):=(blk_cell BK372.out 0).trans rfl;have hcz17_1:w15.cell? ⟨gb372,1,none⟩=some (.int .i64 0):=(blk_cell BK372.out 1).trans rfl;have hcz17_2:w15.cell? ⟨gb372,2,none⟩=some (.int .i64 0):=(blk_cell BK372.out 2).trans rfl;have hfz17_0:=blk_frozen BK372.out 0;have hfz17_1:=blk_frozen BK372.out 1;have hfz17_2:=blk_frozen BK372.out 2)|((with_reducible refine gate_callee (f:=42) rfl ?_);refine goesL_ (some 18) rfl rfl Tryd.func42 (by kernel_rfl) rfl #[.agg #[.int .i64 (wrap64 (Int.tdiv a0 4004001)), .int .i64 (wrap64 (Int.tdiv (Int.tmod a0 4004001) 2001)), .int .i64 (Int.tmod a0 2001)]] rfl gd_ ?_;(with_reducible refine(impl_IsHole.calls (wrap64 (Int.tdiv a0 4004001)) (wrap64 (Int.tdiv (Int.tmod a0 4004001) 2001)) (Int.tmod a0 2001) false _ A5.out).mono ?_);rintro e w18 ⟨rfl,hb⟩;refine⟨_,rfl,?_⟩;replace BK371:=am_ (blk_below (g:=gb371) (o:= .cells #[.int .i64 0, .int .i64 0, .int .i64 0] 33 (0,0)) ((a11_ NB371_372.out BK371.out)) hb);replace BK372:=am_ (blk_below (g:=gb372) (o:= .cells #[.int .i64 (wrap64 (Int.tdiv a0 4004001)), .int .i64 (wrap64 (Int.tdiv (Int.tmod a0 4004001) 2001)), .int .i64 (Int.tmod a0 2001)] 33 (0,0)) ((a14_ BK372.out)) hb);replace HB:=am_ (below_step ((a13_ GE371.out GE372.out)) hb);(try clear hb);(try clear hb2);(try clear hk);(try clear hi);have hcz19_0:w18.cell? ⟨gb371,0,none⟩=some (.int .i64 0):=(blk_cell BK371.out 0).trans rfl;have hcz19_1:w18.cell? ⟨gb371,1,none⟩=some (.int .i64 0):=(blk_cell BK371.out 1).trans rfl;have hcz19_2:w18.cell? ⟨gb371,2,none⟩=some (.int .i64 0):=(blk_cell BK371.out 2).trans rfl;have hfz19_0:=blk_frozen BK371.out 0;have hfz19_1:=blk_frozen BK371.out 1;have hfz19_2:=blk_frozen BK371.out 2))
   refine bodyPost_ret (results_ct rfl _ _ gb371 33 #[.int .i64 0, .int .i64 0, .int .i64 0] (0,0) _ rfl ((a22_ BK371.out)) Tryd.underlying33 rfl (by kernel_rfl)) rfl ?_
   exact⟨a8_,(a13_ GE371.out GE372.out)⟩

-- NOT PRINTED: function 109 (strconv_small)

-- NOT PRINTED: function 120 (strconv_log10Pow2)

-- NOT PRINTED: function 121 (bits_Len64)

-- NOT PRINTED: function 122 (strconv_bool2_int)

-- NOT PRINTED: function 110 (strconv_numDigits)

-- NOT PRINTED: function 111 (strconv_formatBase10)

-- NOT PRINTED: function 123 (strconv_isPowerOfTwo)

-- NOT PRINTED: function 127 (bits_TrailingZeros32)

-- NOT PRINTED: function 128 (bits_TrailingZeros64)

-- NOT PRINTED: function 124 (bits_TrailingZeros)

-- NOT PRINTED: function 112 (strconv_formatBits)

-- NOT PRINTED: function 102 (strconv_FormatInt)

-- NOT PRINTED: function 91 (strconv_Itoa_91)

-- NOT PRINTED: function 78 (strconv_Itoa_78)

-- NOT PRINTED: function 113 (abi_NoEscape)

-- NOT PRINTED: function 103 (strings_Builder_copyCheck)

-- NOT PRINTED: function 114 (bytealg_MakeNoZero)

-- NOT PRINTED: function 104 (strings_Builder_grow)

-- NOT PRINTED: function 92 (strings_Builder_Grow)

-- NOT PRINTED: function 93 (strings_Builder_WriteString)

-- NOT PRINTED: function 94 (strings_Builder_String)

-- NOT PRINTED: function 79 (strings_Join)

-- NOT PRINTED: function 49 (impl_words)

/-! ### impl_ChecksumText: function 17 (by hand: the digits of the number plus ten millions, without the first) -/
def impl_ChecksumText.f (a0:Int):Option (ByteArray×Bool):=if 0≤a0∧a0<1000003 then(some ((⟨(DoorLib.tailDigits 7 a0.toNat).toArray⟩:ByteArray),true)) else(some ((⟨#[]⟩:ByteArray),false))
set_option maxHeartbeats 4000000 in
set_option maxRecDepth 100000 in
theorem impl_ChecksumText.yes (n:Nat) (hn:n<1000003) (w:World) (htab:DoorLib.Tab w) :
 Calls Tryd.prog 17 #[.int .i64 (n:Int)] w fun e w'=>e = .returned (.tuple #[.string ⟨(DoorLib.tailDigits 7 n).toArray⟩, .bool true])∧Below w.heap.size w w':=by
 have hi:Lib.itoa (10000000+(n:Int))=49 :: DoorLib.tailDigits 7 n:=(Lib.itoa_nonneg (10000000+n)).trans (DoorLib.dec8 n (by omega))
 have hlen:=DoorLib.tailDigits_length 7 n
 obtain⟨T,hT⟩:∃T:ByteArray,(⟨(DoorLib.wordsOf [10000000+(n:Int)]).toArray⟩:ByteArray)=T:=⟨_,rfl⟩
 have hsz:T.size=8:=by rw[← hT,DoorLib.words_of_one,hi];simp[ByteArray.size,hlen]
 have hc:impl_isChecksum.f (n:Int)=some true:=by
  simp only[impl_isChecksum.f]
  rw[if_pos (by omega)]
  exact congrArg some (decide_eq_true (by omega))
 have hcell:∀(w1:World) (j:Nat) m, [10000000+(n:Int)][j]? = some m→(w1.alloc (.cells #[.int .i64 (10000000+(n:Int))] 3)).cell? ⟨w1.heap.size,0+j,none⟩=some (.int .i64 m):=by
  intro w1 j m hj
  have h:=World.cell?_alloc_new w1 #[.int .i64 (10000000+(n:Int))] 3 j
  rw[Nat.zero_add,h]
  rcases j with _ | j
  ·simp at hj;subst hj;rfl
  ·simp at hj
 have hW:∀w1:World,DoorLib.Tab w1→Calls Tryd.prog 49 #[.slice (some ⟨w1.heap.size,0,none⟩) 1 1] (w1.alloc (.cells #[.int .i64 (10000000+(n:Int))] 3)) fun e w'=>e = .returned (.string T)∧Below (w1.heap.size+1) (w1.alloc (.cells #[.int .i64 (10000000+(n:Int))] 3)) w':=by
  intro w1 ht
  have h:=DoorLib.words_any [10000000+(n:Int)] (by simp) (by simp) (by intro m hm;simp at hm;subst hm;omega) w1.heap.size 0 1 _ (hcell w1) (by rw[DoorLib.asize];omega) (DoorLib.tab_below ht (below_alloc (Below.refl _ w1) _))
  rw[hT,DoorLib.asize]at h
  exact h
 go_enter Tryd.func17,Tryd.ntmps17
 go_wp2_with (first
  |(go_at_call 41;refine(impl_isChecksum.calls _ _ _ hc).mono ?_;rintro e w' ⟨rfl,⟨nd,rfl⟩⟩)
  |(go_at_call 49;refine(hW (w.drewN nd) (DoorLib.tab_below htab (pw_below_drewN (Below.refl _ w) nd))).mono ?_;rintro e w1 ⟨rfl,hb⟩))
 go_ret2
 refine⟨?_,?_⟩
 ·rw[show T.extract 1 8=(⟨(DoorLib.tailDigits 7 n).toArray⟩:ByteArray) from by
   apply ByteArray.ext
   rw[ByteArray.data_extract, ← hT,DoorLib.words_of_one,hi,List.extract_toArray,List.extract_eq_drop_take',List.take_of_length_le (by rw[List.length_cons,hlen];exact Nat.le_refl _)]
   rfl]
  rfl
 ·exact below_then (below_alloc (pw_below_drewN (Below.refl _ w) nd) (.cells #[.int .i64 (10000000 + (n : Int))] 3)) (by rw[DoorLib.asize];exact Nat.le_succ _) (by rw[DoorLib.asize];exact hb)
set_option maxHeartbeats 4000000 in
set_option maxRecDepth 100000 in
theorem impl_ChecksumText.no (a:Int) (ha:¬(0≤a∧a<1000003)) (w:World) :
 Calls Tryd.prog 17 #[.int .i64 a] w fun e w'=>e = .returned (.tuple #[.string ⟨#[]⟩, .bool false])∧Below w.heap.size w w':=by
 have hc:impl_isChecksum.f a=some false:=by
  simp only[impl_isChecksum.f]
  by_cases h0:a≥0
  ·rw[if_pos h0]
   exact congrArg some (decide_eq_false (by omega))
  ·rw[if_neg h0]
 go_enter Tryd.func17,Tryd.ntmps17
 go_wp2_with (go_at_call 41;refine(impl_isChecksum.calls _ _ _ hc).mono ?_;rintro e w' ⟨rfl,⟨nd,rfl⟩⟩)
 go_ret2
 exact⟨rfl,pw_below_drewN (Below.refl _ w) nd⟩
theorem impl_ChecksumText.calls (a0:Int) (r1:ByteArray) (r2:Bool) (w:World) (htab:DoorLib.Tab w) (h:impl_ChecksumText.f a0=some (r1,r2)) :
 Calls Tryd.prog 17 #[.int .i64 a0] w fun e w'=>e = .returned (.tuple #[.string r1, .bool r2])∧Below w.heap.size w w':=by
 rw[impl_ChecksumText.f]at h
 by_cases ha:0≤a0∧a0<1000003
 ·rw[if_pos ha]at h
  obtain⟨rfl,rfl⟩:=Prod.mk.inj (Option.some.inj h)
  obtain⟨n,rfl⟩:∃n:Nat,a0=n:=⟨a0.toNat,by omega⟩
  exact impl_ChecksumText.yes n (by omega) w htab
 ·rw[if_neg ha]at h
  obtain⟨rfl,rfl⟩:=Prod.mk.inj (Option.some.inj h)
  exact impl_ChecksumText.no a0 ha w


end Go.Proofs.YtpbffmjjhmllbaaDoor.QFnChecksums
