/- Written by a program of this session (the kit's printer, with leaf contracts proved by hand put in): what each Go function computes, and that the call computes it. No condition but those that each theorem names. -/
import Derived.Test.YtbbiihhaljigjaaQFnExactMakeEditionx0
import Derived.Test.YtbbiihhaljigjaaQFnExactMakeEditionx1
import Derived.Test.YtbbiihhaljigjaaQFnExactMakeEditionx2
namespace Go.Proofs.Ytbbiihhaljigjaa.QFnExactMakeEdition
open Go.RowKit Go.Proofs.YtbbiihhaljigjaaW.PrintWords Go.Proofs.YtbbiihhaljigjaaW.PrintLast Go.Proofs.YtbbiihhaljigjaaW.PrintMore
attribute [local go_sem] max2_int min2_int max_two min_two max_three min_three max_four min_four   -- for this text's walks alone
set_option linter.unusedVariables false
set_option linter.unusedSimpArgs false

/-! ### spec_shSorted: function 21 -/
mutual
def spec_shSorted.l0:Nat→List (S47)→List (S47)→Int→Int→Option ((List (S47))×Bool)
 | 0,_,_,_,_=>none
 | k+1,x4,x8,x9,x10=>if x10<x9 then(if 0≤x10 then(if x10<(x8.length:Int) then(spec_shSorted.l1 k x4 (x4.length:Int) x8 x9 x10 ((rd_T47 x8 x10).f0) ((rd_T47 x8 x10).f1) ((rd_T47 x8 x10).f2)) else(none)) else(none)) else((spec_shGood.f k x4).bind fun t138=>(if t138=true then(some (x4,true)) else(some (([]:List (S47)),false))))
def spec_shSorted.l1:Nat→List (S47)→Int→List (S47)→Int→Int→Int→Int→Int→Option ((List (S47))×Bool)
 | 0,_,_,_,_,_,_,_,_=>none
 | k+1,x4,x7,x8,x9,x10,x141000,x141001,x141002=>if x7>0 then(if 0≤(wrap64 (x7-1)) then(if(wrap64 (x7-1))<(x4.length:Int) then((spec_shBefore.f x141000 x141001 x141002 ((rd_T47 x4 (wrap64 (x7-1))).f0) ((rd_T47 x4 (wrap64 (x7-1))).f1) ((rd_T47 x4 (wrap64 (x7-1))).f2)).bind fun t142=>(if t142=true then(spec_shSorted.l1 k x4 (wrap64 (x7-1)) x8 x9 x10 x141000 x141001 x141002) else((some (([]:List (S47)):List (S47))).bind fun y143=>(if 0≤x7 then(if x7≤(x4.length:Int) then((some (x4.take (x7:Int).toNat:List (S47))).bind fun y146=>(if y143.length+y146.length<5864062014805 then((some (y143 ++ y146:List (S47))).bind fun y150=>((some (([(⟨x141000,x141001,x141002⟩:S47)]:List (S47)):List (S47))).bind fun y153=>(if y150.length+y153.length<5864062014805 then((some (y150 ++ y153:List (S47))).bind fun y156=>((some (x4.drop (x7:Int).toNat:List (S47))).bind fun y159=>(if y156.length+y159.length<5864062014805 then(spec_shSorted.l0 k (y156 ++ y159) x8 x9 (wrap64 (x10+1))) else(none)))) else(none)))) else(none))) else(none)) else(none))))) else(none)) else(none)) else((some (([]:List (S47)):List (S47))).bind fun y166=>(if 0≤x7 then(if x7≤(x4.length:Int) then((some (x4.take (x7:Int).toNat:List (S47))).bind fun y169=>(if y166.length+y169.length<5864062014805 then((some (y166 ++ y169:List (S47))).bind fun y173=>((some (([(⟨x141000,x141001,x141002⟩:S47)]:List (S47)):List (S47))).bind fun y176=>(if y173.length+y176.length<5864062014805 then((some (y173 ++ y176:List (S47))).bind fun y179=>((some (x4.drop (x7:Int).toNat:List (S47))).bind fun y182=>(if y179.length+y182.length<5864062014805 then(spec_shSorted.l0 k (y179 ++ y182) x8 x9 (wrap64 (x10+1))) else(none)))) else(none)))) else(none))) else(none)) else(none)))
end
def spec_shSorted.f (k:Nat) (l0:List (S47)):Option ((List (S47))×Bool):=spec_shSorted.l0 k ([]:List (S47)) l0 (l0.length:Int) 0
theorem spec_shSorted.mono_l:∀k,(∀y0 y1 y2 y3,LeO (spec_shSorted.l0 k y0 y1 y2 y3) (spec_shSorted.l0 (k+1) y0 y1 y2 y3))∧(∀y0 y1 y2 y3 y4 y5 y6 y7,LeO (spec_shSorted.l1 k y0 y1 y2 y3 y4 y5 y6 y7) (spec_shSorted.l1 (k+1) y0 y1 y2 y3 y4 y5 y6 y7))
 | 0=>⟨fun _ _ _ _ r h=>by simp[spec_shSorted.l0]at h,fun _ _ _ _ _ _ _ _ r h=>by simp[spec_shSorted.l1]at h⟩
 | k+1=>by
  obtain⟨ih0,ih1⟩:=spec_shSorted.mono_l k
  refine⟨?_,?_⟩
  ·intro y0 y1 y2 y3
   unfold spec_shSorted.l0
   repeat' first
   | (with_reducible exact ih0 _ _ _ _)
   | (with_reducible exact ih1 _ _ _ _ _ _ _ _)
   | (with_reducible exact spec_shGood.mono _ _)
   | (with_reducible exact LeO.refl _)
   | (with_reducible exact LeO.none _)
   | (with_reducible refine LeO.ite ?_ ?_)
   | (with_reducible refine LeO.bind ?_ (fun _=>?_))
   | exact ih0 _ _ _ _
   | exact ih1 _ _ _ _ _ _ _ _
   | exact spec_shGood.mono _ _
   | exact LeO.none _
   | refine LeO.ite ?_ ?_
   | refine LeO.bind ?_ (fun _=>?_)
  ·intro y0 y1 y2 y3 y4 y5 y6 y7
   unfold spec_shSorted.l1
   repeat' first
   | (with_reducible exact ih0 _ _ _ _)
   | (with_reducible exact ih1 _ _ _ _ _ _ _ _)
   | (with_reducible exact spec_shGood.mono _ _)
   | (with_reducible exact LeO.refl _)
   | (with_reducible exact LeO.none _)
   | (with_reducible refine LeO.ite ?_ ?_)
   | (with_reducible refine LeO.bind ?_ (fun _=>?_))
   | exact ih0 _ _ _ _
   | exact ih1 _ _ _ _ _ _ _ _
   | exact spec_shGood.mono _ _
   | exact LeO.none _
   | refine LeO.ite ?_ ?_
   | refine LeO.bind ?_ (fun _=>?_)
theorem spec_shSorted.mono:∀a0 k,LeO (spec_shSorted.f k a0) (spec_shSorted.f (k+1) a0):=by
 intro a0 k
 obtain⟨ih0,ih1⟩:=spec_shSorted.mono_l k
 unfold spec_shSorted.f
 repeat' first
  | (with_reducible exact ih0 _ _ _ _)
  | (with_reducible exact ih1 _ _ _ _ _ _ _ _)
  | (with_reducible exact spec_shGood.mono _ _)
  | (with_reducible exact LeO.refl _)
  | (with_reducible exact LeO.none _)
  | (with_reducible refine LeO.ite ?_ ?_)
  | (with_reducible refine LeO.bind ?_ (fun _=>?_))
  | exact ih0 _ _ _ _
  | exact ih1 _ _ _ _ _ _ _ _
  | exact spec_shGood.mono _ _
  | exact LeO.none _
  | refine LeO.ite ?_ ?_
  | refine LeO.bind ?_ (fun _=>?_)
def spec_shSorted.T6:Bool×List (List Nat×List Nat):=(true, [([], []),([0], [0]),([1], [1]),([2], [2]),([2], [2]),([2], [2]),([5,2], [2,5]),([4,6,2], [2,4,6]),([7,2], [2,7]),([3,8,2,2], [2,3,8]),([2,9], [2,9])])
def spec_shSorted.B6:List Nat:=[0,1,3,7,7,7,39,119,247,511,1023]
theorem spec_shSorted.tab6:rtab .any (opsOf Try.f21 6)=spec_shSorted.T6:=by kernel_rfl
theorem spec_shSorted.bits6:waitsOk spec_shSorted.T6.2 spec_shSorted.B6=true:=by kernel_rfl
def spec_shSorted.T8:Bool×List (List Nat×List Nat):=(true, [([], []),([], []),([], []),([1,2], [1,2]),([0,3], [0,3]),([], []),([5], [5]),([4,6,4], [4,6]),([], []),([], []),([8,9], [8,9]),([7,10,7], [7,10]),([11,11,0,1,2,3,4,5,6,7,8,9,10,11], [1,8,11])])
def spec_shSorted.B8:List Nat:=[0,0,0,6,15,0,32,127,0,0,768,2047,4095]
theorem spec_shSorted.tab8:rtab .any (opsOf Try.f21 8)=spec_shSorted.T8:=by kernel_rfl
theorem spec_shSorted.bits8:waitsOk spec_shSorted.T8.2 spec_shSorted.B8=true:=by kernel_rfl
set_option maxHeartbeats 8000000 in
set_option maxRecDepth 100000 in
theorem spec_shSorted.calls (k:Nat) (A0:Option Addr) (c0:Nat) (l0:List (S47)) (r1:List (S47)) (r2:Bool) (w:World) (hr0:Kd.C k47 w A0 l0.length l0) (hc0:l0.length≤c0) (h:spec_shSorted.f k l0=some (r1,r2)) :
 Calls Try.prog 21 #[.slice A0 l0.length c0] w fun e w'=>∃v0_:Value,e = .returned (.tuple #[v0_, .bool r2])∧Kd.R k47 47 w' w.heap.size (fun _=>True) v0_ r1∧Below w.heap.size w w':=by
 have hu47:=Try.underlying47
 have HR0:=am_ hr0
 have HC0:=am_ hc0
 clear hr0 hc0
 have HB:=am_ (Below.refl w.heap.size w)
 have H:(spec_shSorted.l0 k ([]:List (S47)) l0 (l0.length:Int) 0)=some (r1,r2):=h
 clear h
 have H':=am_ H
 clear H
 go_enter Try.func21,Try.ntmps21
 go_wp2
 go_loopg [4,10] k (fun kq v4 v10 w'=>∃(x4_1:List (S47)) (x10_1:Int),v10 = .int .i64 x10_1∧Aside0 (spec_shSorted.l0 kq x4_1 l0 (l0.length:Int) x10_1=some (r1,r2))∧Aside0 (kq≤k)∧Aside0 (Kd.R k47 47 w' w.heap.size (fun _=>True) v4 x4_1)∧Aside0 (Below w.heap.size w w'))
 case atStart=>exact⟨(([]:List (S47))),(0),(a6_),H',⟨Nat.le_refl _⟩,⟨a34_⟩,⟨a0_⟩⟩
 case round=>
  clear H'
  obtain⟨x4_1,x10_1,rfl,HA,HK1,HO_4,HB⟩:=hrel
  cases gk with
  | zero=>exact absurd HA.out (by simp[spec_shSorted.l0])
  | succ k1=>
   have H:=HA.out
   clear HA
   simp only[spec_shSorted.l0]at H
   by_cases c2:x10_1<(l0.length:Int)
   ·rw[if_pos c2]at H
    have c2b0:decide (x10_1<(l0.length:Int))=true:=decide_eq_true c2
    clear c2
    by_cases c3:0≤x10_1
    ·rw[if_pos c3]at H
     have c3b0:decide (0≤x10_1)=true:=decide_eq_true c3
     clear c3
     by_cases c4:x10_1<(l0.length:Int)
     ·rw[if_pos c4]at H
      have c4b0:decide (x10_1<(l0.length:Int))=true:=decide_eq_true c4
      clear c4
      have H':=am_ H
      clear H
      have p139:0≤(x10_1:Int):=of_decide_eq_true (a4_)
      have q139:x10_1<(l0.length:Int):=of_decide_eq_true (a4_)
      obtain⟨ad139,e139,hx139_0,hx139_1,hx139_2⟩:=at_T47 HR0.out x10_1 p139 q139
      cases e139
      replace hx139_0:=(HB.out.cell (World.block_lt_of_cell? w _ hx139_0)).trans hx139_0
      replace hx139_1:=(HB.out.cell (World.block_lt_of_cell? w _ hx139_1)).trans hx139_1
      replace hx139_2:=(HB.out.cell (World.block_lt_of_cell? w _ hx139_2)).trans hx139_2
      replace p139:=eq_true p139
      replace q139:=eq_true q139
      go_wp2_with (first | ((with_reducible refine gate_dst (N:=6) rfl ?_);refine box_event ?hg (N:=6) ?hd (cs:= #[.int .i64 0, .int .i64 0, .int .i64 0]) (t:=47) ?hr ?_;(case hd=>rfl);(case hg=>rfl);(case hr=>exact a12_);intro gb140 hg w5 hbox hb;replace HO_4:=am_ (Kd.R_below (Kd.R_elderB ((a2_ HO_4.out)) gb140 (Nat.le_of_eq hg.symm)) hb);have BK140:=am_ (hbox);have GW140:=am_ ((by rw[hg];exact(below_size (a0_)):w.heap.size≤gb140));have GE140:=am_ ((by rw[hg];exact(below_size (a0_)):w.heap.size≤gb140));replace HB:=am_ (below_step (a0_) hb);clear hb hbox hg;have hcz6_0:w5.cell? ⟨gb140,0,none⟩=some (.int .i64 0):=(blk_cell BK140.out 0).trans rfl;have hcz6_1:w5.cell? ⟨gb140,1,none⟩=some (.int .i64 0):=(blk_cell BK140.out 1).trans rfl;have hcz6_2:w5.cell? ⟨gb140,2,none⟩=some (.int .i64 0):=(blk_cell BK140.out 2).trans rfl;have hfz6_0:=blk_frozen BK140.out 0;have hfz6_1:=blk_frozen BK140.out 1;have hfz6_2:=blk_frozen BK140.out 2;obtain⟨Ao7,co7,eo7⟩:=Kd.R_slice HO_4.out;subst eo7))
      go_loopg [7] k1 (fun kq v7 w'=>∃(x7_2:Int),v7 = .int .i64 x7_2∧Aside0 (spec_shSorted.l1 kq x4_1 x7_2 l0 (l0.length:Int) x10_1 ((rd_T47 l0 x10_1).f0) ((rd_T47 l0 x10_1).f1) ((rd_T47 l0 x10_1).f2)=some (r1,r2))∧Aside0 (kq≤k1)∧Aside0 (Kd.R k47 47 w' w.heap.size (fun k_=>k_≠gb140) (.slice Ao7 x4_1.length co7) x4_1)∧Aside0 (w'.heap[gb140]? = some (.cells #[.int .i64 ((rd_T47 l0 x10_1).f0), .int .i64 ((rd_T47 l0 x10_1).f1), .int .i64 ((rd_T47 l0 x10_1).f2)] 47 (0,0)))∧Aside0 (Below w.heap.size w w'))
      case atStart=>exact⟨((x4_1.length:Int)),(a6_),H',⟨Nat.le_refl _⟩,⟨by(with_reducible repeat (first | apply Kd.R_alloc | apply Kd.R_drewN | apply Kd.R_drew));exact Kd.R_mono (Kd.R_far (p:=⟨gb140,2,none⟩) (Kd.R_far (p:=⟨gb140,1,none⟩) (Kd.R_far (p:=⟨gb140,0,none⟩) (Kd.R_mono HO_4.out (fun k_ hk=>(⟨hk,hk.2⟩:_∧k_≠gb140))) (fun _ hk=>hk.2) (.int .i64 ((rd_T47 l0 x10_1).f0))) (fun _ hk=>hk.2) (.int .i64 ((rd_T47 l0 x10_1).f1))) (fun _ hk=>hk.2) (.int .i64 ((rd_T47 l0 x10_1).f2))) (fun _ hk=>hk.1.2)⟩,⟨by(with_reducible repeat (first | refine blk_drewN ?_ _ | refine blk_drew ?_ | refine blk_alloc ?_ _));refine blk_put (cs:= #[.int .i64 ((rd_T47 l0 x10_1).f0), .int .i64 ((rd_T47 l0 x10_1).f1), .int .i64 0]) ?_ 2 _ rfl;(with_reducible repeat (first | refine blk_drewN ?_ _ | refine blk_drew ?_ | refine blk_alloc ?_ _));refine blk_put (cs:= #[.int .i64 ((rd_T47 l0 x10_1).f0), .int .i64 0, .int .i64 0]) ?_ 1 _ rfl;(with_reducible repeat (first | refine blk_drewN ?_ _ | refine blk_drew ?_ | refine blk_alloc ?_ _));refine blk_put (cs:= #[.int .i64 0, .int .i64 0, .int .i64 0]) ?_ 0 _ rfl;(with_reducible repeat (first | refine blk_drewN ?_ _ | refine blk_drew ?_ | refine blk_alloc ?_ _));exact BK140.out⟩,⟨(a1_ GE140.out)⟩⟩
      case round=>
       clear H'
       try clear p1
       try clear q1
       try clear hx1
       try clear c2
       try clear c2b0
       try clear p2
       try clear c3
       try clear c3b0
       try clear c4
       try clear c4b0
       try clear hcz6_0
       try clear hcz6_1
       try clear hcz6_2
       try clear hfz6_0
       try clear hfz6_1
       try clear hfz6_2
       try clear hx139_0
       try clear hx139_1
       try clear hx139_2
       try clear p139
       try clear q139
       obtain⟨x7_2,rfl,HA,HK2,HO_4,BK140,HB⟩:=hrel
       cases gk with
       | zero=>exact absurd HA.out (by simp[spec_shSorted.l1])
       | succ k2=>
        have H:=HA.out
        clear HA
        simp only[spec_shSorted.l1]at H
        by_cases c8:x7_2>0
        ·rw[if_pos c8]at H
         have c8b0:decide (0<x7_2)=true:=decide_eq_true c8
         clear c8
         obtain⟨ji9,hji9⟩:∃j_:Int,(wrap64 (x7_2-1))=j_:=⟨_,rfl⟩
         replace H:(if 0≤(ji9) then(if(ji9)<(x4_1.length:Int) then((spec_shBefore.f ((rd_T47 l0 x10_1).f0) ((rd_T47 l0 x10_1).f1) ((rd_T47 l0 x10_1).f2) ((rd_T47 x4_1 (ji9)).f0) ((rd_T47 x4_1 (ji9)).f1) ((rd_T47 x4_1 (ji9)).f2)).bind fun t142=>(if t142=true then(spec_shSorted.l1 k2 x4_1 ji9 l0 (l0.length:Int) x10_1 ((rd_T47 l0 x10_1).f0) ((rd_T47 l0 x10_1).f1) ((rd_T47 l0 x10_1).f2)) else((some (([]:List (S47)):List (S47))).bind fun y143=>(if 0≤x7_2 then(if x7_2≤(x4_1.length:Int) then((some (x4_1.take (x7_2:Int).toNat:List (S47))).bind fun y146=>(if y143.length+y146.length<5864062014805 then((some (y143 ++ y146:List (S47))).bind fun y150=>((some (([(⟨((rd_T47 l0 x10_1).f0),((rd_T47 l0 x10_1).f1),((rd_T47 l0 x10_1).f2)⟩:S47)]:List (S47)):List (S47))).bind fun y153=>(if y150.length+y153.length<5864062014805 then((some (y150 ++ y153:List (S47))).bind fun y156=>((some (x4_1.drop (x7_2:Int).toNat:List (S47))).bind fun y159=>(if y156.length+y159.length<5864062014805 then(spec_shSorted.l0 k2 (y156 ++ y159) l0 (l0.length:Int) (wrap64 (x10_1+1))) else(none)))) else(none)))) else(none))) else(none)) else(none))))) else(none)) else(none))=some (r1,r2):=by first | (rw[hji9]at H;exact H) | (simp only[hji9]at H ⊢;exact H)
         have hji9w:(IntKind.i64.wrap (x7_2-1))=ji9:=(i64_w _).trans hji9
         by_cases c10:0≤(ji9)
         ·rw[if_pos c10]at H
          have c10b0:decide (0≤(ji9))=true:=decide_eq_true c10
          clear c10
          by_cases c11:(ji9)<(x4_1.length:Int)
          ·rw[if_pos c11]at H
           have c11b0:decide ((ji9)<(x4_1.length:Int))=true:=decide_eq_true c11
           clear c11
           replace H:=Option.bind_eq_some_iff.mp H
           obtain⟨t142,A120,H⟩:=H
           replace H:(if t142=true then(spec_shSorted.l1 k2 x4_1 ji9 l0 (l0.length:Int) x10_1 ((rd_T47 l0 x10_1).f0) ((rd_T47 l0 x10_1).f1) ((rd_T47 l0 x10_1).f2)) else((some (([]:List (S47)):List (S47))).bind fun y143=>(if 0≤x7_2 then(if x7_2≤(x4_1.length:Int) then((some (x4_1.take (x7_2:Int).toNat:List (S47))).bind fun y146=>(if y143.length+y146.length<5864062014805 then((some (y143 ++ y146:List (S47))).bind fun y150=>((some (([(⟨((rd_T47 l0 x10_1).f0),((rd_T47 l0 x10_1).f1),((rd_T47 l0 x10_1).f2)⟩:S47)]:List (S47)):List (S47))).bind fun y153=>(if y150.length+y153.length<5864062014805 then((some (y150 ++ y153:List (S47))).bind fun y156=>((some (x4_1.drop (x7_2:Int).toNat:List (S47))).bind fun y159=>(if y156.length+y159.length<5864062014805 then(spec_shSorted.l0 k2 (y156 ++ y159) l0 (l0.length:Int) (wrap64 (x10_1+1))) else(none)))) else(none)))) else(none))) else(none)) else(none))))=some (r1,r2):=H
           have A12:=am_ A120
           clear A120
           by_cases c13:t142=true
           ·subst c13
            replace H:(spec_shSorted.l1 k2 x4_1 ji9 l0 (l0.length:Int) x10_1 ((rd_T47 l0 x10_1).f0) ((rd_T47 l0 x10_1).f1) ((rd_T47 l0 x10_1).f2))=some (r1,r2):=by rw[if_pos rfl]at H;exact H
            have H':=am_ H
            clear H
            try go_wp2
            replace HO_4:=am_ (Kd.R_drew HO_4.out)
            replace BK140:=am_ (blk_drew BK140.out)
            replace HB:=am_ (below_drew1 HB.out)
            have p141:0≤((ji9):Int):=of_decide_eq_true (a4_)
            have q141:(ji9)<(x4_1.length:Int):=of_decide_eq_true (a4_)
            obtain⟨ad141,e141,hx141_0,hx141_1,hx141_2⟩:=at_T47 (Kd.R_reads' HO_4.out).2.2 (ji9) p141 q141
            cases e141
            replace p141:=eq_true p141
            replace q141:=eq_true q141
            refine start_ (n:=11) (S:=fun w'=>w'.cell? ⟨gb140,0,none⟩=some (.int .i64 ((rd_T47 l0 x10_1).f0))∧w'.cell? ⟨gb140,1,none⟩=some (.int .i64 ((rd_T47 l0 x10_1).f1))∧w'.cell? ⟨gb140,2,none⟩=some (.int .i64 ((rd_T47 l0 x10_1).f2))∧w'.cell? (ad141.add (((ji9)).toNat*3))=some (.int .i64 ((rd_T47 x4_1 (ji9)).f0))∧w'.cell? ⟨(ad141.add (((ji9)).toNat*3)).block,(ad141.add (((ji9)).toNat*3)).off+1,none⟩=some (.int .i64 ((rd_T47 x4_1 (ji9)).f1))∧w'.cell? ⟨(ad141.add (((ji9)).toNat*3)).block,(ad141.add (((ji9)).toNat*3)).off+2,none⟩=some (.int .i64 ((rd_T47 x4_1 (ji9)).f2))) (ds:=[]) #[false,false,false,false,false,false,false,false,false,false,false] (by kernel_rfl) rfl rfl ⟨(blk_cell BK140.out 0).trans rfl,(blk_cell BK140.out 1).trans rfl,(blk_cell BK140.out 2).trans rfl,hx141_0,hx141_1,hx141_2⟩ (fun hHeld=>?_);refine with_tabW spec_shSorted.tab6 spec_shSorted.bits6 (fun HT_ HW_=>?_)
            generalize wr.drew=w14 at HO_4 BK140 HB hx141_0 hx141_1 hx141_2 hHeld ⊢
            refine pure_ (i:=0) (N:=some 16) (v:=?_) (a':=?_) #[true,false,false,false,false,false,false,false,false,false,false] rfl rfl (any_of HT_.out (by kernel_rfl)) (fun _ _ _ h=>h) (Or.inl ⟨by rfl,?_⟩) ?_ ?_
            rotate_left
            ·intro w'
             go_simp
             with_reducible rfl
            rotate_left
            ·simp only[Act.put,pu_]
             rfl
            refine pure_ (i:=1) (N:=some 17) (v:=?_) (a':=?_) #[true,true,false,false,false,false,false,false,false,false,false] rfl rfl (any_of HT_.out (by kernel_rfl)) (fun _ _ _ h=>h) (Or.inl ⟨by rfl,?_⟩) ?_ ?_
            rotate_left
            ·intro w'
             go_simp
             with_reducible rfl
            rotate_left
            ·simp only[Act.put,pu_]
             rfl
            refine pure_ (i:=2) (N:=some 18) (v:=?_) (a':=?_) #[true,true,true,false,false,false,false,false,false,false,false] rfl rfl (any_of HT_.out (by kernel_rfl)) (fun _ _ _ h=>h) (Or.inl ⟨by rfl,?_⟩) ?_ ?_
            rotate_left
            ·intro w'
             go_simp
             with_reducible rfl
            rotate_left
            ·simp only[Act.put,pu_]
             rfl
            refine pure_ (i:=4) (N:=some 20) (v:=?_) (a':=?_) #[true,true,true,false,true,false,false,false,false,false,false] rfl rfl (any_of HT_.out (by kernel_rfl)) (fun _ _ _ h=>h) (Or.inl ⟨by rfl,?_⟩) ?_ ?_
            rotate_left
            ·intro w'
             go_simp
             with_reducible rfl
            rotate_left
            ·simp only[Act.put,pu_]
             rfl
            refine pure_ (i:=5) (N:=some 21) (v:=?_) (a':=?_) #[true,true,true,false,true,true,false,false,false,false,false] rfl rfl (any_of HT_.out (by kernel_rfl)) (fun _ _ _ h=>h) (Or.inl ⟨by rfl,?_⟩) ?_ ?_
            rotate_left
            ·intro w'
             go_simp
             with_reducible rfl
            rotate_left
            ·simp only[Act.put,pu_]
             rfl
            refine pure_ (i:=6) (N:=some 22) (v:=?_) (a':=?_) #[true,true,true,false,true,true,true,false,false,false,false] rfl rfl (any_of HT_.out (by kernel_rfl)) (fun _ _ _ h=>h) (Or.inl ⟨by rfl,?_⟩) ?_ ?_
            rotate_left
            ·intro w'
             go_simp
             with_reducible rfl
            rotate_left
            ·simp only[Act.put,pu_]
             rfl
            refine pure_ (i:=7) (N:=some 23) (v:=?_) (a':=?_) #[true,true,true,false,true,true,true,true,false,false,false] rfl rfl (any_of HT_.out (by kernel_rfl)) (fun _ _ _ h=>h) (Or.inl ⟨by rfl,?_⟩) ?_ ?_
            rotate_left
            ·intro w'
             go_simp
             with_reducible rfl
            rotate_left
            ·simp only[Act.put,pu_]
             rfl
            refine take_ (i:=3) (N:=some 19) (v:=?_) (a':=?_) #[true,true,true,true,true,true,true,true,false,false,false] rfl rfl (take_ofW HT_.out HW_.out (by kernel_rfl)) (fun _ _ _ h=>h) (Or.inl ⟨by rfl,?_⟩) hHeld ?_ ?_
            rotate_left
            ·rintro w' ⟨s0,s1,s2,s3,s4,s5⟩
             go_simp
             with_reducible rfl
            rotate_left
            ·simp only[Act.put,pu_]
             rfl
            refine take_ (i:=8) (N:=some 24) (v:=?_) (a':=?_) #[true,true,true,true,true,true,true,true,true,false,false] rfl rfl (take_ofW HT_.out HW_.out (by kernel_rfl)) (fun _ _ _ h=>h) (Or.inl ⟨by rfl,?_⟩) hHeld ?_ ?_
            rotate_left
            ·rintro w' ⟨s0,s1,s2,s3,s4,s5⟩
             go_simp
             with_reducible rfl
            rotate_left
            ·simp only[Act.put,pu_]
             rfl
            refine one_ (i:=9) (N:=some 25) #[true,true,true,true,true,true,true,true,true,true,false] rfl rfl (one_of HT_.out (by kernel_rfl)) (by decide) (fun K hK=>?_)
            refine goes_ Try.func33 (by kernel_rfl) rfl #[.agg #[.int .i64 ((rd_T47 l0 x10_1).f0), .int .i64 ((rd_T47 l0 x10_1).f1), .int .i64 ((rd_T47 l0 x10_1).f2)], .agg #[.int .i64 ((rd_T47 x4_1 (ji9)).f0), .int .i64 ((rd_T47 x4_1 (ji9)).f1), .int .i64 ((rd_T47 x4_1 (ji9)).f2)]] (by rfl) rfl rfl (by(try simp only[List.map_toArray,List.map_cons,List.map_nil]);first | done | (simp only[hji9];rfl) | rfl | (simp only[List.length_drop,List.length_take];rfl)) ?_
            with_reducible refine(spec_shBefore.calls ((rd_T47 l0 x10_1).f0) ((rd_T47 l0 x10_1).f1) ((rd_T47 l0 x10_1).f2) ((rd_T47 x4_1 (ji9)).f0) ((rd_T47 x4_1 (ji9)).f1) ((rd_T47 x4_1 (ji9)).f2) true _ A12.out).mono ?_
            rintro e w15 ⟨rfl,hb⟩
            have HS3_:=(hb.cell (World.block_lt_of_cell? _ _ (hHeld.2.2.2.1))).trans (hHeld.2.2.2.1)
            have HS4_:=(hb.cell (World.block_lt_of_cell? _ _ (hHeld.2.2.2.2.1))).trans (hHeld.2.2.2.2.1)
            have HS5_:=(hb.cell (World.block_lt_of_cell? _ _ (hHeld.2.2.2.2.2))).trans (hHeld.2.2.2.2.2)
            refine⟨_,rfl,?_⟩
            replace HO_4:=am_ (Kd.R_below ((a2_ HO_4.out)) hb)
            replace BK140:=am_ (blk_below (g:=gb140) (o:= .cells #[.int .i64 ((rd_T47 l0 x10_1).f0), .int .i64 ((rd_T47 l0 x10_1).f1), .int .i64 ((rd_T47 l0 x10_1).f2)] 47 (0,0)) ((a3_ BK140.out)) hb)
            replace HB:=am_ (below_step ((a1_ GE140.out)) hb)
            (try clear hb)
            (try clear hb2)
            (try clear hk)
            (try clear hi)
            refine hK.out _ _ ⟨(blk_cell BK140.out 0).trans rfl,(blk_cell BK140.out 1).trans rfl,(blk_cell BK140.out 2).trans rfl,HS3_,HS4_,HS5_⟩ (fun hHeld=>?_)
            clear hK K
            refine norm_ (a':=?_) ?_ ?_
            rotate_left
            ·show Act.put _ (some 25) _=_
             simp only[Act.put,pu_]
             rfl
            refine pure_ (i:=10) (N:=some 26) (v:=?_) (a':=?_) #[true,true,true,true,true,true,true,true,true,true,true] rfl rfl (any_of HT_.out (by kernel_rfl)) (fun _ _ _ h=>h) (Or.inl ⟨by rfl,?_⟩) ?_ ?_
            rotate_left
            ·intro w'
             go_simp
             with_reducible rfl
            rotate_left
            ·simp only[Act.put,pu_]
             rfl
            refine done_ (done_of HT_.out (by kernel_rfl)) ?_
            try go_wp2
            go_roundg k2
            case measure=>have:=HK1.out;have:=HK2.out;omega
            case rel=>exact⟨(ji9),(by first | rfl | (simp;done) | (simp only[← hji9]<;>(first | rfl | simp)) | (simp[*];done)),H',⟨by have:=HK1.out;have:=HK2.out;omega⟩,⟨(a2_ HO_4.out)⟩,⟨(a3_ BK140.out)⟩,⟨(a1_ GE140.out)⟩⟩
           ·replace c13:=Bool.eq_false_iff.mpr c13
            subst c13
            replace H:((some (([]:List (S47)):List (S47))).bind fun y143=>(if 0≤x7_2 then(if x7_2≤(x4_1.length:Int) then((some (x4_1.take (x7_2:Int).toNat:List (S47))).bind fun y146=>(if y143.length+y146.length<5864062014805 then((some (y143 ++ y146:List (S47))).bind fun y150=>((some (([(⟨((rd_T47 l0 x10_1).f0),((rd_T47 l0 x10_1).f1),((rd_T47 l0 x10_1).f2)⟩:S47)]:List (S47)):List (S47))).bind fun y153=>(if y150.length+y153.length<5864062014805 then((some (y150 ++ y153:List (S47))).bind fun y156=>((some (x4_1.drop (x7_2:Int).toNat:List (S47))).bind fun y159=>(if y156.length+y159.length<5864062014805 then(spec_shSorted.l0 k2 (y156 ++ y159) l0 (l0.length:Int) (wrap64 (x10_1+1))) else(none)))) else(none)))) else(none))) else(none)) else(none)))=some (r1,r2):=by rw[if_neg (show ¬(false=true) by decide)]at H;exact H
            obtain⟨y143,hy143⟩:∃y_:List (S47),y_=(([]:List (S47))):=⟨_,rfl⟩
            replace H:(if 0≤x7_2 then(if x7_2≤(x4_1.length:Int) then((some (x4_1.take (x7_2:Int).toNat:List (S47))).bind fun y146=>(if y143.length+y146.length<5864062014805 then((some (y143 ++ y146:List (S47))).bind fun y150=>((some (([(⟨((rd_T47 l0 x10_1).f0),((rd_T47 l0 x10_1).f1),((rd_T47 l0 x10_1).f2)⟩:S47)]:List (S47)):List (S47))).bind fun y153=>(if y150.length+y153.length<5864062014805 then((some (y150 ++ y153:List (S47))).bind fun y156=>((some (x4_1.drop (x7_2:Int).toNat:List (S47))).bind fun y159=>(if y156.length+y159.length<5864062014805 then(spec_shSorted.l0 k2 (y156 ++ y159) l0 (l0.length:Int) (wrap64 (x10_1+1))) else(none)))) else(none)))) else(none))) else(none)) else(none))=some (r1,r2):=by first | (rw[hy143];with_reducible exact H) | (have H2_:=(Option.bind_some _ _).symm.trans H;rw[hy143];with_reducible exact H2_) | (have H2_:=(Option.bind_some _ _).symm.trans H;with_reducible exact H2_) | with_reducible exact H | (rw[hy143];exact H) | exact H
            have Ny143:=am_ hy143
            clear hy143
            by_cases c16:0≤x7_2
            ·rw[if_pos c16]at H
             have c16b0:=eq_true c16
             have c16b1:decide (0≤x7_2)=true:=decide_eq_true c16
             clear c16
             by_cases c17:x7_2≤(x4_1.length:Int)
             ·rw[if_pos c17]at H
              have c17b0:=eq_true c17
              have c17b1:decide (x7_2≤(x4_1.length:Int))=true:=decide_eq_true c17
              clear c17
              obtain⟨y146,hy146⟩:∃y_:List (S47),y_=(x4_1.take (x7_2:Int).toNat):=⟨_,rfl⟩
              replace H:(if y143.length+y146.length<5864062014805 then((some (y143 ++ y146:List (S47))).bind fun y150=>((some (([(⟨((rd_T47 l0 x10_1).f0),((rd_T47 l0 x10_1).f1),((rd_T47 l0 x10_1).f2)⟩:S47)]:List (S47)):List (S47))).bind fun y153=>(if y150.length+y153.length<5864062014805 then((some (y150 ++ y153:List (S47))).bind fun y156=>((some (x4_1.drop (x7_2:Int).toNat:List (S47))).bind fun y159=>(if y156.length+y159.length<5864062014805 then(spec_shSorted.l0 k2 (y156 ++ y159) l0 (l0.length:Int) (wrap64 (x10_1+1))) else(none)))) else(none)))) else(none))=some (r1,r2):=by first | (rw[hy146];with_reducible exact H) | (have H2_:=(Option.bind_some _ _).symm.trans H;rw[hy146];with_reducible exact H2_) | (have H2_:=(Option.bind_some _ _).symm.trans H;with_reducible exact H2_) | with_reducible exact H | (rw[hy146];exact H) | exact H
              have Ny146:=am_ hy146
              clear hy146
              by_cases c18:y143.length+y146.length<5864062014805
              ·rw[if_pos c18]at H
               have LMc18:=am_ c18
               clear c18
               obtain⟨y150,hy150⟩:∃y_:List (S47),y_=(y143 ++ y146):=⟨_,rfl⟩
               replace H:((some (([(⟨((rd_T47 l0 x10_1).f0),((rd_T47 l0 x10_1).f1),((rd_T47 l0 x10_1).f2)⟩:S47)]:List (S47)):List (S47))).bind fun y153=>(if y150.length+y153.length<5864062014805 then((some (y150 ++ y153:List (S47))).bind fun y156=>((some (x4_1.drop (x7_2:Int).toNat:List (S47))).bind fun y159=>(if y156.length+y159.length<5864062014805 then(spec_shSorted.l0 k2 (y156 ++ y159) l0 (l0.length:Int) (wrap64 (x10_1+1))) else(none)))) else(none)))=some (r1,r2):=by first | (rw[hy150];with_reducible exact H) | (have H2_:=(Option.bind_some _ _).symm.trans H;rw[hy150];with_reducible exact H2_) | (have H2_:=(Option.bind_some _ _).symm.trans H;with_reducible exact H2_) | with_reducible exact H | (rw[hy150];exact H) | exact H
               have Ny150:=am_ hy150
               clear hy150
               obtain⟨y153,hy153⟩:∃y_:List (S47),y_=(([(⟨((rd_T47 l0 x10_1).f0),((rd_T47 l0 x10_1).f1),((rd_T47 l0 x10_1).f2)⟩:S47)]:List (S47))):=⟨_,rfl⟩
               replace H:(if y150.length+y153.length<5864062014805 then((some (y150 ++ y153:List (S47))).bind fun y156=>((some (x4_1.drop (x7_2:Int).toNat:List (S47))).bind fun y159=>(if y156.length+y159.length<5864062014805 then(spec_shSorted.l0 k2 (y156 ++ y159) l0 (l0.length:Int) (wrap64 (x10_1+1))) else(none)))) else(none))=some (r1,r2):=by first | (rw[hy153];with_reducible exact H) | (have H2_:=(Option.bind_some _ _).symm.trans H;rw[hy153];with_reducible exact H2_) | (have H2_:=(Option.bind_some _ _).symm.trans H;with_reducible exact H2_) | with_reducible exact H | (rw[hy153];exact H) | exact H
               have Ny153:=am_ hy153
               clear hy153
               by_cases c19:y150.length+y153.length<5864062014805
               ·rw[if_pos c19]at H
                have LMc19:=am_ c19
                clear c19
                obtain⟨y156,hy156⟩:∃y_:List (S47),y_=(y150 ++ y153):=⟨_,rfl⟩
                replace H:((some (x4_1.drop (x7_2:Int).toNat:List (S47))).bind fun y159=>(if y156.length+y159.length<5864062014805 then(spec_shSorted.l0 k2 (y156 ++ y159) l0 (l0.length:Int) (wrap64 (x10_1+1))) else(none)))=some (r1,r2):=by first | (rw[hy156];with_reducible exact H) | (have H2_:=(Option.bind_some _ _).symm.trans H;rw[hy156];with_reducible exact H2_) | (have H2_:=(Option.bind_some _ _).symm.trans H;with_reducible exact H2_) | with_reducible exact H | (rw[hy156];exact H) | exact H
                have Ny156:=am_ hy156
                clear hy156
                have c20b0:=eq_true (of_decide_eq_true (a4_):0≤x7_2)
                have c21b0:=eq_true (of_decide_eq_true (a4_):x7_2≤(x4_1.length:Int))
                obtain⟨y159,hy159⟩:∃y_:List (S47),y_=(x4_1.drop (x7_2:Int).toNat):=⟨_,rfl⟩
                replace H:(if y156.length+y159.length<5864062014805 then(spec_shSorted.l0 k2 (y156 ++ y159) l0 (l0.length:Int) (wrap64 (x10_1+1))) else(none))=some (r1,r2):=by first | (rw[hy159];with_reducible exact H) | (have H2_:=(Option.bind_some _ _).symm.trans H;rw[hy159];with_reducible exact H2_) | (have H2_:=(Option.bind_some _ _).symm.trans H;with_reducible exact H2_) | with_reducible exact H | (rw[hy159];exact H) | exact H
                have Ny159:=am_ hy159
                clear hy159
                by_cases c22:y156.length+y159.length<5864062014805
                ·rw[if_pos c22]at H
                 have LMc22:=am_ c22
                 clear c22
                 obtain⟨y163,hy163⟩:∃y_:List (S47),y_=(y156 ++ y159):=⟨_,rfl⟩
                 replace H:(spec_shSorted.l0 k2 y163 l0 (l0.length:Int) (wrap64 (x10_1+1)))=some (r1,r2):=by first | (rw[hy163];with_reducible exact H) | (have H2_:=(Option.bind_some _ _).symm.trans H;rw[hy163];with_reducible exact H2_) | (have H2_:=(Option.bind_some _ _).symm.trans H;with_reducible exact H2_) | with_reducible exact H | (rw[hy163];exact H) | exact H
                 have Ny163:=am_ hy163
                 clear hy163
                 have H':=am_ H
                 clear H
                 try go_wp2
                 replace HO_4:=am_ (Kd.R_drew HO_4.out)
                 replace BK140:=am_ (blk_drew BK140.out)
                 replace HB:=am_ (below_drew1 HB.out)
                 have p141:0≤((ji9):Int):=of_decide_eq_true (a4_)
                 have q141:(ji9)<(x4_1.length:Int):=of_decide_eq_true (a4_)
                 obtain⟨ad141,e141,hx141_0,hx141_1,hx141_2⟩:=at_T47 (Kd.R_reads' HO_4.out).2.2 (ji9) p141 q141
                 cases e141
                 replace p141:=eq_true p141
                 replace q141:=eq_true q141
                 refine start_ (n:=11) (S:=fun w'=>w'.cell? ⟨gb140,0,none⟩=some (.int .i64 ((rd_T47 l0 x10_1).f0))∧w'.cell? ⟨gb140,1,none⟩=some (.int .i64 ((rd_T47 l0 x10_1).f1))∧w'.cell? ⟨gb140,2,none⟩=some (.int .i64 ((rd_T47 l0 x10_1).f2))∧w'.cell? (ad141.add (((ji9)).toNat*3))=some (.int .i64 ((rd_T47 x4_1 (ji9)).f0))∧w'.cell? ⟨(ad141.add (((ji9)).toNat*3)).block,(ad141.add (((ji9)).toNat*3)).off+1,none⟩=some (.int .i64 ((rd_T47 x4_1 (ji9)).f1))∧w'.cell? ⟨(ad141.add (((ji9)).toNat*3)).block,(ad141.add (((ji9)).toNat*3)).off+2,none⟩=some (.int .i64 ((rd_T47 x4_1 (ji9)).f2))) (ds:=[]) #[false,false,false,false,false,false,false,false,false,false,false] (by kernel_rfl) rfl rfl ⟨(blk_cell BK140.out 0).trans rfl,(blk_cell BK140.out 1).trans rfl,(blk_cell BK140.out 2).trans rfl,hx141_0,hx141_1,hx141_2⟩ (fun hHeld=>?_);refine with_tabW spec_shSorted.tab6 spec_shSorted.bits6 (fun HT_ HW_=>?_)
                 generalize wr.drew=w23 at HO_4 BK140 HB hx141_0 hx141_1 hx141_2 hHeld ⊢
                 refine pure_ (i:=0) (N:=some 16) (v:=?_) (a':=?_) #[true,false,false,false,false,false,false,false,false,false,false] rfl rfl (any_of HT_.out (by kernel_rfl)) (fun _ _ _ h=>h) (Or.inl ⟨by rfl,?_⟩) ?_ ?_
                 rotate_left
                 ·intro w'
                  go_simp
                  with_reducible rfl
                 rotate_left
                 ·simp only[Act.put,pu_]
                  rfl
                 refine pure_ (i:=1) (N:=some 17) (v:=?_) (a':=?_) #[true,true,false,false,false,false,false,false,false,false,false] rfl rfl (any_of HT_.out (by kernel_rfl)) (fun _ _ _ h=>h) (Or.inl ⟨by rfl,?_⟩) ?_ ?_
                 rotate_left
                 ·intro w'
                  go_simp
                  with_reducible rfl
                 rotate_left
                 ·simp only[Act.put,pu_]
                  rfl
                 refine pure_ (i:=2) (N:=some 18) (v:=?_) (a':=?_) #[true,true,true,false,false,false,false,false,false,false,false] rfl rfl (any_of HT_.out (by kernel_rfl)) (fun _ _ _ h=>h) (Or.inl ⟨by rfl,?_⟩) ?_ ?_
                 rotate_left
                 ·intro w'
                  go_simp
                  with_reducible rfl
                 rotate_left
                 ·simp only[Act.put,pu_]
                  rfl
                 refine pure_ (i:=4) (N:=some 20) (v:=?_) (a':=?_) #[true,true,true,false,true,false,false,false,false,false,false] rfl rfl (any_of HT_.out (by kernel_rfl)) (fun _ _ _ h=>h) (Or.inl ⟨by rfl,?_⟩) ?_ ?_
                 rotate_left
                 ·intro w'
                  go_simp
                  with_reducible rfl
                 rotate_left
                 ·simp only[Act.put,pu_]
                  rfl
                 refine pure_ (i:=5) (N:=some 21) (v:=?_) (a':=?_) #[true,true,true,false,true,true,false,false,false,false,false] rfl rfl (any_of HT_.out (by kernel_rfl)) (fun _ _ _ h=>h) (Or.inl ⟨by rfl,?_⟩) ?_ ?_
                 rotate_left
                 ·intro w'
                  go_simp
                  with_reducible rfl
                 rotate_left
                 ·simp only[Act.put,pu_]
                  rfl
                 refine pure_ (i:=6) (N:=some 22) (v:=?_) (a':=?_) #[true,true,true,false,true,true,true,false,false,false,false] rfl rfl (any_of HT_.out (by kernel_rfl)) (fun _ _ _ h=>h) (Or.inl ⟨by rfl,?_⟩) ?_ ?_
                 rotate_left
                 ·intro w'
                  go_simp
                  with_reducible rfl
                 rotate_left
                 ·simp only[Act.put,pu_]
                  rfl
                 refine pure_ (i:=7) (N:=some 23) (v:=?_) (a':=?_) #[true,true,true,false,true,true,true,true,false,false,false] rfl rfl (any_of HT_.out (by kernel_rfl)) (fun _ _ _ h=>h) (Or.inl ⟨by rfl,?_⟩) ?_ ?_
                 rotate_left
                 ·intro w'
                  go_simp
                  with_reducible rfl
                 rotate_left
                 ·simp only[Act.put,pu_]
                  rfl
                 refine take_ (i:=3) (N:=some 19) (v:=?_) (a':=?_) #[true,true,true,true,true,true,true,true,false,false,false] rfl rfl (take_ofW HT_.out HW_.out (by kernel_rfl)) (fun _ _ _ h=>h) (Or.inl ⟨by rfl,?_⟩) hHeld ?_ ?_
                 rotate_left
                 ·rintro w' ⟨s0,s1,s2,s3,s4,s5⟩
                  go_simp
                  with_reducible rfl
                 rotate_left
                 ·simp only[Act.put,pu_]
                  rfl
                 refine take_ (i:=8) (N:=some 24) (v:=?_) (a':=?_) #[true,true,true,true,true,true,true,true,true,false,false] rfl rfl (take_ofW HT_.out HW_.out (by kernel_rfl)) (fun _ _ _ h=>h) (Or.inl ⟨by rfl,?_⟩) hHeld ?_ ?_
                 rotate_left
                 ·rintro w' ⟨s0,s1,s2,s3,s4,s5⟩
                  go_simp
                  with_reducible rfl
                 rotate_left
                 ·simp only[Act.put,pu_]
                  rfl
                 refine one_ (i:=9) (N:=some 25) #[true,true,true,true,true,true,true,true,true,true,false] rfl rfl (one_of HT_.out (by kernel_rfl)) (by decide) (fun K hK=>?_)
                 refine goes_ Try.func33 (by kernel_rfl) rfl #[.agg #[.int .i64 ((rd_T47 l0 x10_1).f0), .int .i64 ((rd_T47 l0 x10_1).f1), .int .i64 ((rd_T47 l0 x10_1).f2)], .agg #[.int .i64 ((rd_T47 x4_1 (ji9)).f0), .int .i64 ((rd_T47 x4_1 (ji9)).f1), .int .i64 ((rd_T47 x4_1 (ji9)).f2)]] (by rfl) rfl rfl (by(try simp only[List.map_toArray,List.map_cons,List.map_nil]);first | done | (simp only[hji9];rfl) | rfl | (simp only[List.length_drop,List.length_take];rfl)) ?_
                 with_reducible refine(spec_shBefore.calls ((rd_T47 l0 x10_1).f0) ((rd_T47 l0 x10_1).f1) ((rd_T47 l0 x10_1).f2) ((rd_T47 x4_1 (ji9)).f0) ((rd_T47 x4_1 (ji9)).f1) ((rd_T47 x4_1 (ji9)).f2) false _ A12.out).mono ?_
                 rintro e w24 ⟨rfl,hb⟩
                 have HS3_:=(hb.cell (World.block_lt_of_cell? _ _ (hHeld.2.2.2.1))).trans (hHeld.2.2.2.1)
                 have HS4_:=(hb.cell (World.block_lt_of_cell? _ _ (hHeld.2.2.2.2.1))).trans (hHeld.2.2.2.2.1)
                 have HS5_:=(hb.cell (World.block_lt_of_cell? _ _ (hHeld.2.2.2.2.2))).trans (hHeld.2.2.2.2.2)
                 refine⟨_,rfl,?_⟩
                 replace HO_4:=am_ (Kd.R_below ((a2_ HO_4.out)) hb)
                 replace BK140:=am_ (blk_below (g:=gb140) (o:= .cells #[.int .i64 ((rd_T47 l0 x10_1).f0), .int .i64 ((rd_T47 l0 x10_1).f1), .int .i64 ((rd_T47 l0 x10_1).f2)] 47 (0,0)) ((a3_ BK140.out)) hb)
                 replace HB:=am_ (below_step ((a1_ GE140.out)) hb)
                 (try clear hb)
                 (try clear hb2)
                 (try clear hk)
                 (try clear hi)
                 refine hK.out _ _ ⟨(blk_cell BK140.out 0).trans rfl,(blk_cell BK140.out 1).trans rfl,(blk_cell BK140.out 2).trans rfl,HS3_,HS4_,HS5_⟩ (fun hHeld=>?_)
                 clear hK K
                 refine norm_ (a':=?_) ?_ ?_
                 rotate_left
                 ·show Act.put _ (some 25) _=_
                  simp only[Act.put,pu_]
                  rfl
                 refine pure_ (i:=10) (N:=some 26) (v:=?_) (a':=?_) #[true,true,true,true,true,true,true,true,true,true,true] rfl rfl (any_of HT_.out (by kernel_rfl)) (fun _ _ _ h=>h) (Or.inl ⟨by rfl,?_⟩) ?_ ?_
                 rotate_left
                 ·intro w'
                  go_simp
                  with_reducible rfl
                 rotate_left
                 ·simp only[Act.put,pu_]
                  rfl
                 refine done_ (done_of HT_.out (by kernel_rfl)) ?_
                 try go_wp2
                 replace HO_4:=am_ (Kd.R_drew HO_4.out)
                 replace BK140:=am_ (blk_drew BK140.out)
                 replace HB:=am_ (below_drew1 HB.out)
                 have q26:(x7_2:Int)≤((x4_1.length:Int):Int):=of_decide_eq_true (a4_)
                 obtain⟨i026,hi026,_,hsz26,_⟩:=info_parts info47
                 have hroom26:x4_1.length≤co7:=(Kd.R_reads' HO_4.out).2.1
                 have hC26:Kd.C k47 _ (some ad141) x4_1.length x4_1:=(Kd.R_reads' HO_4.out).2.2
                 have hcut26:=cut_to (P:=Try.prog) 26 47 .i64 Try.underlying26 hi026 (some ad141) x4_1.length co7 x7_2 (of_decide_eq_true (a4_)) q26 hroom26
                 have hr26:=Kd.C_take (m:=(x7_2:Int).toNat) hC26 (by omega)
                 have hy26:y146.length=(x7_2:Int).toNat:=(by rw[Ny146.out,List.length_take];omega)
                 rw[← Ny146.out]at hr26
                 rw[← hy26]at hcut26
                 have HR149:=am_ hr26
                 have HC149:=am_ (show y146.length≤co7 from by omega)
                 clear hr26 hC26 hroom26 hi026 hsz26
                 have KY26:=am_ hy26
                 clear hy26
                 have KL26:=am_ (show(x7_2:Int).toNat≤x4_1.length from by omega)
                 replace q26:=eq_true q26
                 have q27:(x7_2:Int)≤((x4_1.length:Int):Int):=of_decide_eq_true (a4_)
                 obtain⟨i027,hi027,_,hsz27,_⟩:=info_parts info47
                 have hroom27:x4_1.length≤co7:=(Kd.R_reads' HO_4.out).2.1
                 have hC27:Kd.C k47 _ (some ad141) x4_1.length x4_1:=(Kd.R_reads' HO_4.out).2.2
                 have q027:(0:Int)≤(x7_2:Int):=of_decide_eq_true (a4_)
                 have hcut27:=cut_from (P:=Try.prog) 26 47 .i64 Try.underlying26 hi027 3 hsz27 (some ad141) x4_1.length co7 x7_2 q027 q27
                 have hr27:=Kd.C_drop (m:=(x7_2:Int).toNat) (c:=co7) hC27 (by omega) hroom27
                 obtain⟨A27,hA27⟩:∃A1,A1=(if co7=(x7_2:Int).toNat then(some ad141) else((some ad141):Option Addr).map (·.add ((x7_2:Int).toNat*3))):=⟨_,rfl⟩
                 obtain⟨c27,hc27⟩:∃c1,c1=co7-(x7_2:Int).toNat:=⟨_,rfl⟩
                 have hy27:y159.length=x4_1.length-(x7_2:Int).toNat:=(by rw[Ny159.out,List.length_drop]<;>omega)
                 rw[show(x4_1).drop (x7_2:Int).toNat=y159 from Ny159.out.symm]at hr27
                 replace hr27:Kd.C k47 _ A27 y159.length y159:=(by rw[hA27];exact hr27)
                 rw[← hy27, ← hA27, ← hc27]at hcut27
                 have HR162:=am_ hr27
                 have HC162:=am_ (show y159.length≤c27 from by rw[hy27,hc27];exact Nat.sub_le_sub_right hroom27 _)
                 clear hr27 hC27 hroom27 hi027 hsz27 hc27
                 have KY27:=am_ hy27
                 have KA27:=am_ hA27
                 clear hy27 hA27
                 have KL27:=am_ (show(x7_2:Int).toNat≤x4_1.length from by omega)
                 replace q27:=eq_true q27
                 refine start_ (n:=13) (S:=fun w'=>w'.cell? ⟨gb140,0,none⟩=some (.int .i64 ((rd_T47 l0 x10_1).f0))∧w'.cell? ⟨gb140,1,none⟩=some (.int .i64 ((rd_T47 l0 x10_1).f1))∧w'.cell? ⟨gb140,2,none⟩=some (.int .i64 ((rd_T47 l0 x10_1).f2))) (ds:=[]) #[false,false,false,false,false,false,false,false,false,false,false,false,false] (by kernel_rfl) rfl rfl ⟨(blk_cell BK140.out 0).trans rfl,(blk_cell BK140.out 1).trans rfl,(blk_cell BK140.out 2).trans rfl⟩ (fun hHeld=>?_);refine with_tabW spec_shSorted.tab8 spec_shSorted.bits8 (fun HT_ HW_=>?_)
                 generalize w24.drew=w25 at HO_4 BK140 HB HR149 HR162 hHeld ⊢
                 refine pure_ (i:=1) (N:=some 30) (v:=?_) (a':=?_) #[false,true,false,false,false,false,false,false,false,false,false,false,false] rfl rfl (any_of HT_.out (by kernel_rfl)) (fun _ _ _ h=>h) (Or.inl ⟨by rfl,?_⟩) ?_ ?_
                 rotate_left
                 ·intro w'
                  go_simp
                  with_reducible rfl
                 rotate_left
                 ·simp only[Act.put,pu_]
                  rfl
                 refine pure_ (i:=2) (N:=some 31) (v:=?_) (a':=?_) #[false,true,true,false,false,false,false,false,false,false,false,false,false] rfl rfl (any_of HT_.out (by kernel_rfl)) (fun _ _ _ h=>h) (Or.inl ⟨by rfl,?_⟩) ?_ ?_
                 rotate_left
                 ·intro w'
                  go_simp
                  with_reducible rfl
                 rotate_left
                 ·simp only[Act.put,pu_]
                  rfl
                 refine pure_ (i:=3) (N:=some 32) (v:=?_) (a':=?_) #[false,true,true,true,false,false,false,false,false,false,false,false,false] rfl rfl (any_of HT_.out (by kernel_rfl)) (fun _ _ _ h=>h) (Or.inl ⟨by rfl,?_⟩) ?_ ?_
                 rotate_left
                 ·intro w'
                  go_simp
                  with_reducible rfl
                 rotate_left
                 ·simp only[Act.put,pu_]
                  rfl
                 refine pure_ (i:=8) (N:=some 37) (v:=?_) (a':=?_) #[false,true,true,true,false,false,false,false,true,false,false,false,false] rfl rfl (any_of HT_.out (by kernel_rfl)) (fun _ _ _ h=>h) (Or.inl ⟨by rfl,?_⟩) ?_ ?_
                 rotate_left
                 ·intro w'
                  go_simp
                  with_reducible rfl
                 rotate_left
                 ·simp only[Act.put,pu_]
                  rfl
                 refine pure_ (i:=9) (N:=some 38) (v:=?_) (a':=?_) #[false,true,true,true,false,false,false,false,true,true,false,false,false] rfl rfl (any_of HT_.out (by kernel_rfl)) (fun _ _ _ h=>h) (Or.inl ⟨by rfl,?_⟩) ?_ ?_
                 rotate_left
                 ·intro w'
                  go_simp
                  with_reducible rfl
                 rotate_left
                 ·simp only[Act.put,pu_]
                  rfl
                 refine pure_ (i:=10) (N:=some 39) (v:=?_) (a':=?_) #[false,true,true,true,false,false,false,false,true,true,true,false,false] rfl rfl (any_of HT_.out (by kernel_rfl)) (fun _ _ _ h=>h) (Or.inl ⟨by rfl,?_⟩) ?_ ?_
                 rotate_left
                 ·intro w'
                  go_simp
                  with_reducible rfl
                 rotate_left
                 ·simp only[Act.put,pu_]
                  rfl
                 refine take_ (i:=5) (N:=some 34) (v:=?_) (a':=?_) #[false,true,true,true,false,true,false,false,true,true,true,false,false] rfl rfl (take_ofW HT_.out HW_.out (by kernel_rfl)) (fun _ _ _ h=>h) (Or.inl ⟨by rfl,?_⟩) hHeld ?_ ?_
                 rotate_left
                 ·rintro w' ⟨s0,s1,s2⟩
                  go_simp
                  with_reducible rfl
                 rotate_left
                 ·simp only[Act.put,pu_]
                  rfl
                 refine join_ (σ:=Value×Value×Value) 3 #[true,true,true,true,true,true,true,false,true,true,true,false,false] (fun s_=> [(29,s_.1),(33,s_.2.1),(35,s_.2.2)]) (fun s_ w'=>(w'.cell? ⟨gb140,0,none⟩=some (.int .i64 ((rd_T47 l0 x10_1).f0))∧w'.cell? ⟨gb140,1,none⟩=some (.int .i64 ((rd_T47 l0 x10_1).f1))∧w'.cell? ⟨gb140,2,none⟩=some (.int .i64 ((rd_T47 l0 x10_1).f2)))∧(Kd.R k47 47 w' w.heap.size (fun k_=>some k_≠(s_.2.2:Value).ownBlock∧some k_≠(.slice (some ad141) x4_1.length co7:Value).ownBlock∧k_≠gb140) s_.2.1 y150)∧(Kd.R k47 47 w' w.heap.size (fun k_=>some k_≠(s_.2.1:Value).ownBlock∧some k_≠(.slice (some ad141) x4_1.length co7:Value).ownBlock∧k_≠gb140) s_.2.2 y153)∧(Kd.R k47 47 w' w.heap.size (fun k_=>some k_≠(s_.2.1:Value).ownBlock∧some k_≠(s_.2.2:Value).ownBlock∧k_≠gb140) (.slice (some ad141) x4_1.length co7) x4_1)∧(w'.heap[gb140]? = some (.cells #[.int .i64 ((rd_T47 l0 x10_1).f0), .int .i64 ((rd_T47 l0 x10_1).f1), .int .i64 ((rd_T47 l0 x10_1).f2)] 47 (0,0)))∧(Below w.heap.size w w')) ?_ ?_
                 rotate_left
                 ·intro hCont
                  refine two_ (i:=0) (j:=6) (Ni:=some 29) (Nj:=some 35) #[true,true,true,true,false,true,false,false,true,true,true,false,false] #[false,true,true,true,false,true,true,false,true,true,true,false,false] rfl rfl rfl rfl (two_of HT_.out (by kernel_rfl)) (by decide) (by decide) (fun K hK=>?_) (fun K hK=>?_)
                  ·skip
                   refine Kd.R_lit_step k47 _ 47 ?hg (N:=29) ?hd (xs:=([]:List (S47))) (inner:=[]) (ok:=fun _=>True) (okp:=fun _=>True) ?hr ?hp (fun _ hk=>hk) trivial (Below.refl _ _) (Nat.le_refl _) (by simp) ?_;(case hd=>rfl);(case hg=>rfl);(case hr=>exact a12_);(case hp=>exact(Reps.none _ _))
                   intro v144 w28 ho29 hb hg_ hnew_
                   clear hg_ hnew_
                   (first | rw[← Ny143.out]at ho29 | (simp only[Int.reduceToNat]at ho29;rw[← Ny143.out]at ho29))
                   have HO145:=am_ (Kd.R_lower (Kd.R_newB (Kd.R_new' ho29 (Kd.R_lt ((a2_ HO_4.out)))) (g:=gb140) (o:= .cells #[.int .i64 ((rd_T47 l0 x10_1).f0), .int .i64 ((rd_T47 l0 x10_1).f1), .int .i64 ((rd_T47 l0 x10_1).f2)] 47 (0,0)) ((a3_ BK140.out))) (below_size ((a1_ GE140.out))))
                   replace HO_4:=am_ (Kd.R_elder' ((a2_ HO_4.out)) (Kd.R_base ho29) hb)
                   replace BK140:=am_ (blk_below (g:=gb140) (o:= .cells #[.int .i64 ((rd_T47 l0 x10_1).f0), .int .i64 ((rd_T47 l0 x10_1).f1), .int .i64 ((rd_T47 l0 x10_1).f2)] 47 (0,0)) ((a3_ BK140.out)) hb)
                   replace HR149:=am_ (Kd.C_below ((a8_ HR149.out)) hb)
                   replace HR162:=am_ (Kd.C_below ((a8_ HR162.out)) hb)
                   replace HB:=am_ (below_step ((a1_ GE140.out)) hb)
                   clear hb ho29
                   refine hK.out _ _ ⟨(blk_cell BK140.out 0).trans rfl,(blk_cell BK140.out 1).trans rfl,(blk_cell BK140.out 2).trans rfl⟩ (fun hHeld=>?_)
                   clear hK K
                   refine norm_ (a':=?_) ?_ ?_
                   rotate_left
                   ·show Act.put _ (some 29) _=_
                    simp only[Act.put,pu_]
                    rfl
                   refine two_ (i:=4) (j:=6) (Ni:=some 33) (Nj:=some 35) #[true,true,true,true,true,true,false,false,true,true,true,false,false] #[true,true,true,true,false,true,true,false,true,true,true,false,false] rfl rfl rfl rfl (two_of HT_.out (by kernel_rfl)) (by decide) (by decide) (fun K hK=>?_) (fun K hK=>?_)
                   ·skip
                    refine Kd.R_append_rows_step k47 (w0:=w) w.heap.size (by rfl) (.tmp 29) (.tmp 32) 26 47 (.agg #[(.int .i64 0),(.int .i64 0),(.int .i64 0)]) 24 rfl Try.underlying26 info47 rfl (by decide) (by omega) v144 y143 y146 _ _ _ (fun k_=>some k_≠(.slice (some ad141) x4_1.length co7:Value).ownBlock∧k_≠gb140) (fun _=>False) rfl rfl ?aO ?aR (fun _ _ h=>h) (fun _ h=>h.elim) ?aF ?aB ?aS ?aL ?_
                    (case aR=>exact(a14_ HR149.out))
                    (case aB=>exact((a1_ GE140.out)))
                    (case aF=>exact(fun k_ hk=>⟨Kd.fresh' (Kd.R_lt ((a2_ HO_4.out))) k_ hk,Kd.freshB (g:=gb140) (o:= .cells #[.int .i64 ((rd_T47 l0 x10_1).f0), .int .i64 ((rd_T47 l0 x10_1).f1), .int .i64 ((rd_T47 l0 x10_1).f2)] 47 (0,0)) ((a3_ BK140.out)) k_ hk⟩))
                    (case aO=>exact(by(with_reducible repeat (first | apply Kd.R_alloc | apply Kd.R_drewN | apply Kd.R_drew));exact Kd.R_mono HO145.out (fun _ hk=>⟨hk.1.2,hk.2⟩)))
                    (case aS=>exact(below_size ((a1_ GE140.out))))
                    (case aL=>have:=LMc18.out;omega)
                    intro v151 w30 ho hb hg hat
                    rw[← Ny150.out]at ho
                    have n0_:=am_ (Kd.R_after (ok:=(fun k_=>k_≠gb140)) ((a2_ HO_4.out)) hg hat)
                    have n1_:=am_ (blk_grown (g:=gb140) (o:= .cells #[.int .i64 ((rd_T47 l0 x10_1).f0), .int .i64 ((rd_T47 l0 x10_1).f1), .int .i64 ((rd_T47 l0 x10_1).f2)] 47 (0,0)) ((a3_ BK140.out)) hg (Kd.R_away HO145.out (fun _ hk=>hk.2)))
                    have n2_:=am_ (hb)
                    have n3_:=am_ ((show Kd.C k47 w30 (some ad141) y146.length y146 from by rw[Ny146.out];exact Kd.C_take (m:=(x7_2:Int).toNat) ((Kd.R_reads' (Kd.R_after (ok:=(fun k_=>k_≠gb140)) ((a2_ HO_4.out)) hg hat)).2.2) KL26.out))
                    have n4_:=am_ ((show Kd.C k47 w30 A27 y159.length y159 from by rw[Ny159.out,KA27.out];exact Kd.C_drop (m:=(x7_2:Int).toNat) (c:=co7) ((Kd.R_reads' (Kd.R_after (ok:=(fun k_=>k_≠gb140)) ((a2_ HO_4.out)) hg hat)).2.2) KL27.out ((Kd.R_reads' (Kd.R_after (ok:=(fun k_=>k_≠gb140)) ((a2_ HO_4.out)) hg hat)).2.1)))
                    have n5_:=am_ (ho)
                    clear HO_4 BK140 HB HR149 HR162 HO145
                    have HO_4:=n0_
                    have BK140:=n1_
                    have HB:=n2_
                    have HR149:=n3_
                    have HR162:=n4_
                    have HO152:=n5_
                    clear n0_ n1_ n2_ n3_ n4_ n5_ ho hb hg hat
                    refine hK.out _ _ ⟨(blk_cell BK140.out 0).trans rfl,(blk_cell BK140.out 1).trans rfl,(blk_cell BK140.out 2).trans rfl⟩ (fun hHeld=>?_)
                    clear hK K
                    refine norm_ (a':=?_) ?_ ?_
                    rotate_left
                    ·show Act.put _ (some 33) _=_
                     simp only[Act.put,pu_]
                     rfl
                    refine one_ (i:=6) (N:=some 35) #[true,true,true,true,true,true,true,false,true,true,true,false,false] rfl rfl (one_of HT_.out (by kernel_rfl)) (by decide) (fun K hK=>?_)
                    refine Kd.R_lit_step k47 _ 47 ?hg (N:=35) ?hd (xs:=([(⟨((rd_T47 l0 x10_1).f0),((rd_T47 l0 x10_1).f1),((rd_T47 l0 x10_1).f2)⟩:S47)]:List (S47))) (inner:=[.int .i64 ((rd_T47 l0 x10_1).f0), .int .i64 ((rd_T47 l0 x10_1).f1), .int .i64 ((rd_T47 l0 x10_1).f2)]) (ok:=fun _=>True) (okp:=fun _=>True) ?hr ?hp (fun _ hk=>hk) trivial (Below.refl _ _) (Nat.le_refl _) (by simp) ?_;(case hd=>rfl);(case hg=>rfl);(case hr=>exact a12_);(case hp=>exact(Reps.c3 (show Kd.M k47 _ _ _ (⟨((rd_T47 l0 x10_1).f0),((rd_T47 l0 x10_1).f1),((rd_T47 l0 x10_1).f2)⟩:S47) [.int .i64 ((rd_T47 l0 x10_1).f0), .int .i64 ((rd_T47 l0 x10_1).f1), .int .i64 ((rd_T47 l0 x10_1).f2)] from(k47_mkM _ _ _ (⟨((rd_T47 l0 x10_1).f0),((rd_T47 l0 x10_1).f1),((rd_T47 l0 x10_1).f2)⟩:S47) )) (Reps.none _ _)))
                    intro v154 w31 ho32 hb hg_ hnew_
                    clear hg_ hnew_
                    (first | rw[← Ny153.out]at ho32 | (simp only[Int.reduceToNat]at ho32;rw[← Ny153.out]at ho32))
                    have HO155:=am_ (Kd.R_lower (Kd.R_newB (Kd.R_new' (Kd.R_new' ho32 (Kd.R_lt ((a2_ HO_4.out)))) (Kd.R_lt ((a2_ HO152.out)))) (g:=gb140) (o:= .cells #[.int .i64 ((rd_T47 l0 x10_1).f0), .int .i64 ((rd_T47 l0 x10_1).f1), .int .i64 ((rd_T47 l0 x10_1).f2)] 47 (0,0)) ((a3_ BK140.out))) (below_size ((a1_ GE140.out))))
                    replace HO_4:=am_ (Kd.R_elder' ((a2_ HO_4.out)) (Kd.R_base ho32) hb)
                    replace HO152:=am_ (Kd.R_elder' ((a2_ HO152.out)) (Kd.R_base ho32) hb)
                    replace BK140:=am_ (blk_below (g:=gb140) (o:= .cells #[.int .i64 ((rd_T47 l0 x10_1).f0), .int .i64 ((rd_T47 l0 x10_1).f1), .int .i64 ((rd_T47 l0 x10_1).f2)] 47 (0,0)) ((a3_ BK140.out)) hb)
                    replace HR149:=am_ (Kd.C_below ((a8_ HR149.out)) hb)
                    replace HR162:=am_ (Kd.C_below ((a8_ HR162.out)) hb)
                    replace HB:=am_ (below_step ((a1_ GE140.out)) hb)
                    clear hb ho32
                    refine hK.out _ _ ⟨(blk_cell BK140.out 0).trans rfl,(blk_cell BK140.out 1).trans rfl,(blk_cell BK140.out 2).trans rfl⟩ (fun hHeld=>?_)
                    clear hK K
                    refine norm_ (a':=?_) ?_ ?_
                    rotate_left
                    ·show Act.put _ (some 35) _=_
                     simp only[Act.put,pu_]
                     rfl
                    exact norm_ (by simp only[putAll,Act.put,List.setIfInBounds_toArray,List.set_cons_zero,List.set_cons_succ]) (hCont (v144,v151,v154) _ ⟨hHeld,((a21_ HO152.out)),(by(with_reducible repeat (first | apply Kd.R_alloc | apply Kd.R_drewN | apply Kd.R_drew));exact Kd.R_mono HO155.out (fun _ hk=>⟨hk.1.2,⟨hk.1.1.2,hk.2⟩⟩)),(by(with_reducible repeat (first | apply Kd.R_alloc | apply Kd.R_drewN | apply Kd.R_drew));exact Kd.R_mono HO_4.out (fun _ hk=>⟨hk.1.2,⟨hk.2,hk.1.1⟩⟩)),((a3_ BK140.out)),((a1_ GE140.out))⟩)
                   ·skip
                    refine Kd.R_lit_step k47 _ 47 ?hg (N:=35) ?hd (xs:=([(⟨((rd_T47 l0 x10_1).f0),((rd_T47 l0 x10_1).f1),((rd_T47 l0 x10_1).f2)⟩:S47)]:List (S47))) (inner:=[.int .i64 ((rd_T47 l0 x10_1).f0), .int .i64 ((rd_T47 l0 x10_1).f1), .int .i64 ((rd_T47 l0 x10_1).f2)]) (ok:=fun _=>True) (okp:=fun _=>True) ?hr ?hp (fun _ hk=>hk) trivial (Below.refl _ _) (Nat.le_refl _) (by simp) ?_;(case hd=>rfl);(case hg=>rfl);(case hr=>exact a12_);(case hp=>exact(Reps.c3 (show Kd.M k47 _ _ _ (⟨((rd_T47 l0 x10_1).f0),((rd_T47 l0 x10_1).f1),((rd_T47 l0 x10_1).f2)⟩:S47) [.int .i64 ((rd_T47 l0 x10_1).f0), .int .i64 ((rd_T47 l0 x10_1).f1), .int .i64 ((rd_T47 l0 x10_1).f2)] from(k47_mkM _ _ _ (⟨((rd_T47 l0 x10_1).f0),((rd_T47 l0 x10_1).f1),((rd_T47 l0 x10_1).f2)⟩:S47) )) (Reps.none _ _)))
                    intro v154 w30 ho31 hb hg_ hnew_
                    clear hg_ hnew_
                    (first | rw[← Ny153.out]at ho31 | (simp only[Int.reduceToNat]at ho31;rw[← Ny153.out]at ho31))
                    have HO155:=am_ (Kd.R_lower (Kd.R_newB (Kd.R_new' (Kd.R_new' ho31 (Kd.R_lt ((a2_ HO_4.out)))) (Kd.R_lt ((a2_ HO145.out)))) (g:=gb140) (o:= .cells #[.int .i64 ((rd_T47 l0 x10_1).f0), .int .i64 ((rd_T47 l0 x10_1).f1), .int .i64 ((rd_T47 l0 x10_1).f2)] 47 (0,0)) ((a3_ BK140.out))) (below_size ((a1_ GE140.out))))
                    replace HO_4:=am_ (Kd.R_elder' ((a2_ HO_4.out)) (Kd.R_base ho31) hb)
                    replace HO145:=am_ (Kd.R_elder' ((a2_ HO145.out)) (Kd.R_base ho31) hb)
                    replace BK140:=am_ (blk_below (g:=gb140) (o:= .cells #[.int .i64 ((rd_T47 l0 x10_1).f0), .int .i64 ((rd_T47 l0 x10_1).f1), .int .i64 ((rd_T47 l0 x10_1).f2)] 47 (0,0)) ((a3_ BK140.out)) hb)
                    replace HR149:=am_ (Kd.C_below ((a8_ HR149.out)) hb)
                    replace HR162:=am_ (Kd.C_below ((a8_ HR162.out)) hb)
                    replace HB:=am_ (below_step ((a1_ GE140.out)) hb)
                    clear hb ho31
                    refine hK.out _ _ ⟨(blk_cell BK140.out 0).trans rfl,(blk_cell BK140.out 1).trans rfl,(blk_cell BK140.out 2).trans rfl⟩ (fun hHeld=>?_)
                    clear hK K
                    refine norm_ (a':=?_) ?_ ?_
                    rotate_left
                    ·show Act.put _ (some 35) _=_
                     simp only[Act.put,pu_]
                     rfl
                    refine one_ (i:=4) (N:=some 33) #[true,true,true,true,true,true,true,false,true,true,true,false,false] rfl rfl (one_of HT_.out (by kernel_rfl)) (by decide) (fun K hK=>?_)
                    refine Kd.R_append_rows_step k47 (w0:=w) w.heap.size (by rfl) (.tmp 29) (.tmp 32) 26 47 (.agg #[(.int .i64 0),(.int .i64 0),(.int .i64 0)]) 24 rfl Try.underlying26 info47 rfl (by decide) (by omega) v144 y143 y146 _ _ _ (fun k_=>some k_≠(.slice (some ad141) x4_1.length co7:Value).ownBlock∧some k_≠(v154:Value).ownBlock∧k_≠gb140) (fun _=>False) rfl rfl ?aO ?aR (fun _ _ h=>h) (fun _ h=>h.elim) ?aF ?aB ?aS ?aL ?_
                    (case aR=>exact(a14_ HR149.out))
                    (case aB=>exact((a1_ GE140.out)))
                    (case aF=>exact(fun k_ hk=>⟨Kd.fresh' (Kd.R_lt ((a2_ HO_4.out))) k_ hk,Kd.fresh' (Kd.R_lt ((a2_ HO155.out))) k_ hk,Kd.freshB (g:=gb140) (o:= .cells #[.int .i64 ((rd_T47 l0 x10_1).f0), .int .i64 ((rd_T47 l0 x10_1).f1), .int .i64 ((rd_T47 l0 x10_1).f2)] 47 (0,0)) ((a3_ BK140.out)) k_ hk⟩))
                    (case aO=>exact(by(with_reducible repeat (first | apply Kd.R_alloc | apply Kd.R_drewN | apply Kd.R_drew));exact Kd.R_mono HO145.out (fun _ hk=>⟨hk.1.1.2,⟨hk.2,hk.1.2⟩⟩)))
                    (case aS=>exact(below_size ((a1_ GE140.out))))
                    (case aL=>have:=LMc18.out;omega)
                    intro v151 w32 ho hb hg hat
                    rw[← Ny150.out]at ho
                    have n0_:=am_ (Kd.R_after (ok:=(fun k_=>some k_≠(v154:Value).ownBlock∧k_≠gb140)) ((a27_ HO_4.out)) hg hat)
                    have n1_:=am_ (blk_grown (g:=gb140) (o:= .cells #[.int .i64 ((rd_T47 l0 x10_1).f0), .int .i64 ((rd_T47 l0 x10_1).f1), .int .i64 ((rd_T47 l0 x10_1).f2)] 47 (0,0)) ((a3_ BK140.out)) hg (Kd.R_away HO145.out (fun _ hk=>hk.1.2)))
                    have n2_:=am_ (Kd.R_after (ok:=(fun k_=>some k_≠(.slice (some ad141) x4_1.length co7:Value).ownBlock∧k_≠gb140)) (by(with_reducible repeat (first | apply Kd.R_alloc | apply Kd.R_drewN | apply Kd.R_drew));exact Kd.R_mono HO155.out (fun _ hk=>⟨⟨hk.1.1.2,hk.2⟩,hk.1.2⟩)) hg hat)
                    have n3_:=am_ (hb)
                    have n4_:=am_ ((show Kd.C k47 w32 (some ad141) y146.length y146 from by rw[Ny146.out];exact Kd.C_take (m:=(x7_2:Int).toNat) ((Kd.R_reads' (Kd.R_after (ok:=(fun k_=>some k_≠(v154:Value).ownBlock∧k_≠gb140)) ((a27_ HO_4.out)) hg hat)).2.2) KL26.out))
                    have n5_:=am_ ((show Kd.C k47 w32 A27 y159.length y159 from by rw[Ny159.out,KA27.out];exact Kd.C_drop (m:=(x7_2:Int).toNat) (c:=co7) ((Kd.R_reads' (Kd.R_after (ok:=(fun k_=>some k_≠(v154:Value).ownBlock∧k_≠gb140)) ((a27_ HO_4.out)) hg hat)).2.2) KL27.out ((Kd.R_reads' (Kd.R_after (ok:=(fun k_=>some k_≠(v154:Value).ownBlock∧k_≠gb140)) ((a27_ HO_4.out)) hg hat)).2.1)))
                    have n6_:=am_ (ho)
                    clear HO_4 BK140 HO155 HB HR149 HR162 HO145
                    have HO_4:=n0_
                    have BK140:=n1_
                    have HO155:=n2_
                    have HB:=n3_
                    have HR149:=n4_
                    have HR162:=n5_
                    have HO152:=n6_
                    clear n0_ n1_ n2_ n3_ n4_ n5_ n6_ ho hb hg hat
                    refine hK.out _ _ ⟨(blk_cell BK140.out 0).trans rfl,(blk_cell BK140.out 1).trans rfl,(blk_cell BK140.out 2).trans rfl⟩ (fun hHeld=>?_)
                    clear hK K
                    refine norm_ (a':=?_) ?_ ?_
                    rotate_left
                    ·show Act.put _ (some 33) _=_
                     simp only[Act.put,pu_]
                     rfl
                    exact norm_ (by simp only[putAll,Act.put,List.setIfInBounds_toArray,List.set_cons_zero,List.set_cons_succ]) (hCont (v144,v151,v154) _ ⟨hHeld,((a33_ HO152.out)),((a21_ HO155.out)),((a21_ HO_4.out)),((a3_ BK140.out)),((a1_ GE140.out))⟩)
                  ·skip
                   refine Kd.R_lit_step k47 _ 47 ?hg (N:=35) ?hd (xs:=([(⟨((rd_T47 l0 x10_1).f0),((rd_T47 l0 x10_1).f1),((rd_T47 l0 x10_1).f2)⟩:S47)]:List (S47))) (inner:=[.int .i64 ((rd_T47 l0 x10_1).f0), .int .i64 ((rd_T47 l0 x10_1).f1), .int .i64 ((rd_T47 l0 x10_1).f2)]) (ok:=fun _=>True) (okp:=fun _=>True) ?hr ?hp (fun _ hk=>hk) trivial (Below.refl _ _) (Nat.le_refl _) (by simp) ?_;(case hd=>rfl);(case hg=>rfl);(case hr=>exact a12_);(case hp=>exact(Reps.c3 (show Kd.M k47 _ _ _ (⟨((rd_T47 l0 x10_1).f0),((rd_T47 l0 x10_1).f1),((rd_T47 l0 x10_1).f2)⟩:S47) [.int .i64 ((rd_T47 l0 x10_1).f0), .int .i64 ((rd_T47 l0 x10_1).f1), .int .i64 ((rd_T47 l0 x10_1).f2)] from(k47_mkM _ _ _ (⟨((rd_T47 l0 x10_1).f0),((rd_T47 l0 x10_1).f1),((rd_T47 l0 x10_1).f2)⟩:S47) )) (Reps.none _ _)))
                   intro v154 w28 ho29 hb hg_ hnew_
                   clear hg_ hnew_
                   (first | rw[← Ny153.out]at ho29 | (simp only[Int.reduceToNat]at ho29;rw[← Ny153.out]at ho29))
                   have HO155:=am_ (Kd.R_lower (Kd.R_newB (Kd.R_new' ho29 (Kd.R_lt ((a2_ HO_4.out)))) (g:=gb140) (o:= .cells #[.int .i64 ((rd_T47 l0 x10_1).f0), .int .i64 ((rd_T47 l0 x10_1).f1), .int .i64 ((rd_T47 l0 x10_1).f2)] 47 (0,0)) ((a3_ BK140.out))) (below_size ((a1_ GE140.out))))
                   replace HO_4:=am_ (Kd.R_elder' ((a2_ HO_4.out)) (Kd.R_base ho29) hb)
                   replace BK140:=am_ (blk_below (g:=gb140) (o:= .cells #[.int .i64 ((rd_T47 l0 x10_1).f0), .int .i64 ((rd_T47 l0 x10_1).f1), .int .i64 ((rd_T47 l0 x10_1).f2)] 47 (0,0)) ((a3_ BK140.out)) hb)
                   replace HR149:=am_ (Kd.C_below ((a8_ HR149.out)) hb)
                   replace HR162:=am_ (Kd.C_below ((a8_ HR162.out)) hb)
                   replace HB:=am_ (below_step ((a1_ GE140.out)) hb)
                   clear hb ho29
                   refine hK.out _ _ ⟨(blk_cell BK140.out 0).trans rfl,(blk_cell BK140.out 1).trans rfl,(blk_cell BK140.out 2).trans rfl⟩ (fun hHeld=>?_)
                   clear hK K
                   refine norm_ (a':=?_) ?_ ?_
                   rotate_left
                   ·show Act.put _ (some 35) _=_
                    simp only[Act.put,pu_]
                    rfl
                   refine one_ (i:=0) (N:=some 29) #[true,true,true,true,false,true,true,false,true,true,true,false,false] rfl rfl (one_of HT_.out (by kernel_rfl)) (by decide) (fun K hK=>?_)
                   refine Kd.R_lit_step k47 _ 47 ?hg (N:=29) ?hd (xs:=([]:List (S47))) (inner:=[]) (ok:=fun _=>True) (okp:=fun _=>True) ?hr ?hp (fun _ hk=>hk) trivial (Below.refl _ _) (Nat.le_refl _) (by simp) ?_;(case hd=>rfl);(case hg=>rfl);(case hr=>exact a12_);(case hp=>exact(Reps.none _ _))
                   intro v144 w30 ho31 hb hg_ hnew_
                   clear hg_ hnew_
                   (first | rw[← Ny143.out]at ho31 | (simp only[Int.reduceToNat]at ho31;rw[← Ny143.out]at ho31))
                   have HO145:=am_ (Kd.R_lower (Kd.R_newB (Kd.R_new' (Kd.R_new' ho31 (Kd.R_lt ((a2_ HO_4.out)))) (Kd.R_lt ((a2_ HO155.out)))) (g:=gb140) (o:= .cells #[.int .i64 ((rd_T47 l0 x10_1).f0), .int .i64 ((rd_T47 l0 x10_1).f1), .int .i64 ((rd_T47 l0 x10_1).f2)] 47 (0,0)) ((a3_ BK140.out))) (below_size ((a1_ GE140.out))))
                   replace HO_4:=am_ (Kd.R_elder' ((a2_ HO_4.out)) (Kd.R_base ho31) hb)
                   replace HO155:=am_ (Kd.R_elder' ((a2_ HO155.out)) (Kd.R_base ho31) hb)
                   replace BK140:=am_ (blk_below (g:=gb140) (o:= .cells #[.int .i64 ((rd_T47 l0 x10_1).f0), .int .i64 ((rd_T47 l0 x10_1).f1), .int .i64 ((rd_T47 l0 x10_1).f2)] 47 (0,0)) ((a3_ BK140.out)) hb)
                   replace HR149:=am_ (Kd.C_below ((a8_ HR149.out)) hb)
                   replace HR162:=am_ (Kd.C_below ((a8_ HR162.out)) hb)
                   replace HB:=am_ (below_step ((a1_ GE140.out)) hb)
                   clear hb ho31
                   refine hK.out _ _ ⟨(blk_cell BK140.out 0).trans rfl,(blk_cell BK140.out 1).trans rfl,(blk_cell BK140.out 2).trans rfl⟩ (fun hHeld=>?_)
                   clear hK K
                   refine norm_ (a':=?_) ?_ ?_
                   rotate_left
                   ·show Act.put _ (some 29) _=_
                    simp only[Act.put,pu_]
                    rfl
                   refine one_ (i:=4) (N:=some 33) #[true,true,true,true,true,true,true,false,true,true,true,false,false] rfl rfl (one_of HT_.out (by kernel_rfl)) (by decide) (fun K hK=>?_)
                   refine Kd.R_append_rows_step k47 (w0:=w) w.heap.size (by rfl) (.tmp 29) (.tmp 32) 26 47 (.agg #[(.int .i64 0),(.int .i64 0),(.int .i64 0)]) 24 rfl Try.underlying26 info47 rfl (by decide) (by omega) v144 y143 y146 _ _ _ (fun k_=>some k_≠(.slice (some ad141) x4_1.length co7:Value).ownBlock∧some k_≠(v154:Value).ownBlock∧k_≠gb140) (fun _=>False) rfl rfl ?aO ?aR (fun _ _ h=>h) (fun _ h=>h.elim) ?aF ?aB ?aS ?aL ?_
                   (case aR=>exact(a14_ HR149.out))
                   (case aB=>exact((a1_ GE140.out)))
                   (case aF=>exact(fun k_ hk=>⟨Kd.fresh' (Kd.R_lt ((a2_ HO_4.out))) k_ hk,Kd.fresh' (Kd.R_lt ((a2_ HO155.out))) k_ hk,Kd.freshB (g:=gb140) (o:= .cells #[.int .i64 ((rd_T47 l0 x10_1).f0), .int .i64 ((rd_T47 l0 x10_1).f1), .int .i64 ((rd_T47 l0 x10_1).f2)] 47 (0,0)) ((a3_ BK140.out)) k_ hk⟩))
                   (case aO=>exact(by(with_reducible repeat (first | apply Kd.R_alloc | apply Kd.R_drewN | apply Kd.R_drew));exact Kd.R_mono HO145.out (fun _ hk=>⟨hk.1.1.2,⟨hk.1.2,hk.2⟩⟩)))
                   (case aS=>exact(below_size ((a1_ GE140.out))))
                   (case aL=>have:=LMc18.out;omega)
                   intro v151 w32 ho hb hg hat
                   rw[← Ny150.out]at ho
                   have n0_:=am_ (Kd.R_after (ok:=(fun k_=>some k_≠(v154:Value).ownBlock∧k_≠gb140)) ((a28_ HO_4.out)) hg hat)
                   have n1_:=am_ (blk_grown (g:=gb140) (o:= .cells #[.int .i64 ((rd_T47 l0 x10_1).f0), .int .i64 ((rd_T47 l0 x10_1).f1), .int .i64 ((rd_T47 l0 x10_1).f2)] 47 (0,0)) ((a3_ BK140.out)) hg (Kd.R_away HO145.out (fun _ hk=>hk.2)))
                   have n2_:=am_ (Kd.R_after (ok:=(fun k_=>some k_≠(.slice (some ad141) x4_1.length co7:Value).ownBlock∧k_≠gb140)) (by(with_reducible repeat (first | apply Kd.R_alloc | apply Kd.R_drewN | apply Kd.R_drew));exact Kd.R_mono HO155.out (fun _ hk=>⟨⟨hk.1.1.2,hk.1.2⟩,hk.2⟩)) hg hat)
                   have n3_:=am_ (hb)
                   have n4_:=am_ ((show Kd.C k47 w32 (some ad141) y146.length y146 from by rw[Ny146.out];exact Kd.C_take (m:=(x7_2:Int).toNat) ((Kd.R_reads' (Kd.R_after (ok:=(fun k_=>some k_≠(v154:Value).ownBlock∧k_≠gb140)) ((a28_ HO_4.out)) hg hat)).2.2) KL26.out))
                   have n5_:=am_ ((show Kd.C k47 w32 A27 y159.length y159 from by rw[Ny159.out,KA27.out];exact Kd.C_drop (m:=(x7_2:Int).toNat) (c:=co7) ((Kd.R_reads' (Kd.R_after (ok:=(fun k_=>some k_≠(v154:Value).ownBlock∧k_≠gb140)) ((a28_ HO_4.out)) hg hat)).2.2) KL27.out ((Kd.R_reads' (Kd.R_after (ok:=(fun k_=>some k_≠(v154:Value).ownBlock∧k_≠gb140)) ((a28_ HO_4.out)) hg hat)).2.1)))
                   have n6_:=am_ (ho)
                   clear HO_4 BK140 HO155 HB HR149 HR162 HO145
                   have HO_4:=n0_
                   have BK140:=n1_
                   have HO155:=n2_
                   have HB:=n3_
                   have HR149:=n4_
                   have HR162:=n5_
                   have HO152:=n6_
                   clear n0_ n1_ n2_ n3_ n4_ n5_ n6_ ho hb hg hat
                   refine hK.out _ _ ⟨(blk_cell BK140.out 0).trans rfl,(blk_cell BK140.out 1).trans rfl,(blk_cell BK140.out 2).trans rfl⟩ (fun hHeld=>?_)
                   clear hK K
                   refine norm_ (a':=?_) ?_ ?_
                   rotate_left
                   ·show Act.put _ (some 33) _=_
                    simp only[Act.put,pu_]
                    rfl
                   exact norm_ (by simp only[putAll,Act.put,List.setIfInBounds_toArray,List.set_cons_zero,List.set_cons_succ]) (hCont (v144,v151,v154) _ ⟨hHeld,((a33_ HO152.out)),((a21_ HO155.out)),((a21_ HO_4.out)),((a3_ BK140.out)),((a1_ GE140.out))⟩)
                 rintro⟨v144,v151,v154⟩ w33 ⟨hS_,h0_,h1_,h2_,h3_,h4_⟩
                 have n0_:Aside0 (Kd.R k47 47 w33 w.heap.size (fun k_=>some k_≠(v154:Value).ownBlock∧some k_≠(.slice (some ad141) x4_1.length co7:Value).ownBlock∧k_≠gb140) v151 y150):=⟨h0_⟩
                 have n1_:Aside0 (Kd.R k47 47 w33 w.heap.size (fun k_=>some k_≠(v151:Value).ownBlock∧some k_≠(.slice (some ad141) x4_1.length co7:Value).ownBlock∧k_≠gb140) v154 y153):=⟨h1_⟩
                 have n2_:Aside0 (Kd.R k47 47 w33 w.heap.size (fun k_=>some k_≠(v151:Value).ownBlock∧some k_≠(v154:Value).ownBlock∧k_≠gb140) (.slice (some ad141) x4_1.length co7) x4_1):=⟨h2_⟩
                 have n3_:Aside0 (w33.heap[gb140]? = some (.cells #[.int .i64 ((rd_T47 l0 x10_1).f0), .int .i64 ((rd_T47 l0 x10_1).f1), .int .i64 ((rd_T47 l0 x10_1).f2)] 47 (0,0))):=⟨h3_⟩
                 have n4_:Aside0 (Below w.heap.size w w33):=⟨h4_⟩
                 clear HO_4 BK140 HB h0_ h1_ h2_ h3_ h4_
                 have HO152:=n0_
                 have HO155:=n1_
                 have HO_4:=n2_
                 have BK140:=n3_
                 have HB:=n4_
                 clear n0_ n1_ n2_ n3_ n4_
                 have hHeld:w33.cell? ⟨gb140,0,none⟩=some (.int .i64 ((rd_T47 l0 x10_1).f0))∧w33.cell? ⟨gb140,1,none⟩=some (.int .i64 ((rd_T47 l0 x10_1).f1))∧w33.cell? ⟨gb140,2,none⟩=some (.int .i64 ((rd_T47 l0 x10_1).f2)):=hS_
                 have HR149:=am_ (show Kd.C k47 w33 (some ad141) y146.length y146 from by rw[Ny146.out];exact Kd.C_take (m:=(x7_2:Int).toNat) ((Kd.R_reads' HO_4.out).2.2) KL26.out)
                 have HR162:=am_ (show Kd.C k47 w33 A27 y159.length y159 from by rw[Ny159.out,KA27.out];exact Kd.C_drop (m:=(x7_2:Int).toNat) (c:=co7) ((Kd.R_reads' HO_4.out).2.2) KL27.out ((Kd.R_reads' HO_4.out).2.1))
                 obtain⟨Ao35,co35,eo35⟩:=Kd.R_slice HO155.out
                 (first | subst eo35 | (injection eo35 with f1_ f2_ f3_;have f4_:=f1_.symm;have f5_:=f3_.symm;clear f1_ f2_ f3_;subst f4_;subst f5_))
                 refine norm_ (a':=?_) ?_ ?_
                 rotate_left
                 ·simp only[putAll,Act.put,List.setIfInBounds_toArray,List.set_cons_zero,List.set_cons_succ]
                  rfl
                 refine one_ (i:=7) (N:=some 36) #[true,true,true,true,true,true,true,true,true,true,true,false,false] rfl rfl (one_of HT_.out (by kernel_rfl)) (by decide) (fun K hK=>?_)
                 refine Kd.R_append_rows_step k47 (w0:=w) w.heap.size (by rfl) (.tmp 33) (.tmp 35) 26 47 (.agg #[(.int .i64 0),(.int .i64 0),(.int .i64 0)]) 24 rfl Try.underlying26 info47 rfl (by decide) (by omega) v151 y150 y153 _ _ _ (fun k_=>some k_≠(.slice (some ad141) x4_1.length co7:Value).ownBlock∧some k_≠(.slice Ao35 y153.length co35:Value).ownBlock∧k_≠gb140) (fun _=>False) rfl rfl ?aO ?aR (fun _ _ h=>h) (fun _ h=>h.elim) ?aF ?aB ?aS ?aL ?_
                 (case aR=>exact(a9_ HO155.out))
                 (case aB=>exact((a1_ GE140.out)))
                 (case aF=>exact(fun k_ hk=>⟨Kd.fresh' (Kd.R_lt ((a2_ HO_4.out))) k_ hk,Kd.fresh' (Kd.R_lt ((a2_ HO155.out))) k_ hk,Kd.freshB (g:=gb140) (o:= .cells #[.int .i64 ((rd_T47 l0 x10_1).f0), .int .i64 ((rd_T47 l0 x10_1).f1), .int .i64 ((rd_T47 l0 x10_1).f2)] 47 (0,0)) ((a3_ BK140.out)) k_ hk⟩))
                 (case aO=>exact((a33_ HO152.out)))
                 (case aS=>exact(below_size ((a1_ GE140.out))))
                 (case aL=>have:=LMc19.out;omega)
                 intro v157 w34 ho hb hg hat
                 rw[← Ny156.out]at ho
                 have n0_:=am_ (Kd.R_after (ok:=(fun k_=>some k_≠(.slice Ao35 y153.length co35:Value).ownBlock∧k_≠gb140)) ((a22_ HO_4.out)) hg hat)
                 have n1_:=am_ (blk_grown (g:=gb140) (o:= .cells #[.int .i64 ((rd_T47 l0 x10_1).f0), .int .i64 ((rd_T47 l0 x10_1).f1), .int .i64 ((rd_T47 l0 x10_1).f2)] 47 (0,0)) ((a3_ BK140.out)) hg (Kd.R_away HO152.out (fun _ hk=>hk.2.2)))
                 have n2_:=am_ (Kd.R_after (ok:=(fun k_=>some k_≠(.slice (some ad141) x4_1.length co7:Value).ownBlock∧k_≠gb140)) ((a22_ HO155.out)) hg hat)
                 have n3_:=am_ (hb)
                 have n4_:=am_ ((show Kd.C k47 w34 (some ad141) y146.length y146 from by rw[Ny146.out];exact Kd.C_take (m:=(x7_2:Int).toNat) ((Kd.R_reads' (Kd.R_after (ok:=(fun k_=>some k_≠(.slice Ao35 y153.length co35:Value).ownBlock∧k_≠gb140)) ((a22_ HO_4.out)) hg hat)).2.2) KL26.out))
                 have n5_:=am_ ((show Kd.C k47 w34 A27 y159.length y159 from by rw[Ny159.out,KA27.out];exact Kd.C_drop (m:=(x7_2:Int).toNat) (c:=co7) ((Kd.R_reads' (Kd.R_after (ok:=(fun k_=>some k_≠(.slice Ao35 y153.length co35:Value).ownBlock∧k_≠gb140)) ((a22_ HO_4.out)) hg hat)).2.2) KL27.out ((Kd.R_reads' (Kd.R_after (ok:=(fun k_=>some k_≠(.slice Ao35 y153.length co35:Value).ownBlock∧k_≠gb140)) ((a22_ HO_4.out)) hg hat)).2.1)))
                 have n6_:=am_ (ho)
                 clear HO_4 BK140 HO155 HB HR149 HR162 HO152
                 have HO_4:=n0_
                 have BK140:=n1_
                 have HO155:=n2_
                 have HB:=n3_
                 have HR149:=n4_
                 have HR162:=n5_
                 have HO158:=n6_
                 clear n0_ n1_ n2_ n3_ n4_ n5_ n6_ ho hb hg hat
                 refine hK.out _ _ ⟨(blk_cell BK140.out 0).trans rfl,(blk_cell BK140.out 1).trans rfl,(blk_cell BK140.out 2).trans rfl⟩ (fun hHeld=>?_)
                 clear hK K
                 refine norm_ (a':=?_) ?_ ?_
                 rotate_left
                 ·show Act.put _ (some 36) _=_
                  simp only[Act.put,pu_]
                  rfl
                 refine one_ (i:=11) (N:=some 40) #[true,true,true,true,true,true,true,true,true,true,true,true,false] rfl rfl (one_of HT_.out (by kernel_rfl)) (by decide) (fun K hK=>?_)
                 refine Kd.R_append_rows_step k47 (w0:=w) w.heap.size (by rfl) (.tmp 36) (.tmp 39) 26 47 (.agg #[(.int .i64 0),(.int .i64 0),(.int .i64 0)]) 24 rfl Try.underlying26 info47 rfl (by decide) (by omega) v157 y156 y159 _ _ _ (fun k_=>some k_≠(.slice (some ad141) x4_1.length co7:Value).ownBlock∧some k_≠(.slice Ao35 y153.length co35:Value).ownBlock∧k_≠gb140) (fun _=>False) rfl rfl ?aO ?aR (fun _ _ h=>h) (fun _ h=>h.elim) ?aF ?aB ?aS ?aL ?_
                 (case aR=>exact(a14_ HR162.out))
                 (case aB=>exact((a1_ GE140.out)))
                 (case aF=>exact(fun k_ hk=>⟨Kd.fresh' (Kd.R_lt ((a2_ HO_4.out))) k_ hk,Kd.fresh' (Kd.R_lt ((a2_ HO155.out))) k_ hk,Kd.freshB (g:=gb140) (o:= .cells #[.int .i64 ((rd_T47 l0 x10_1).f0), .int .i64 ((rd_T47 l0 x10_1).f1), .int .i64 ((rd_T47 l0 x10_1).f2)] 47 (0,0)) ((a3_ BK140.out)) k_ hk⟩))
                 (case aO=>exact((a2_ HO158.out)))
                 (case aS=>exact(below_size ((a1_ GE140.out))))
                 (case aL=>have:=LMc22.out;omega)
                 intro v164 w36 ho hb hg hat
                 rw[← Ny163.out]at ho
                 have n0_:=am_ (Kd.R_after (ok:=(fun k_=>some k_≠(.slice Ao35 y153.length co35:Value).ownBlock∧k_≠gb140)) ((a2_ HO_4.out)) hg hat)
                 have n1_:=am_ (blk_grown (g:=gb140) (o:= .cells #[.int .i64 ((rd_T47 l0 x10_1).f0), .int .i64 ((rd_T47 l0 x10_1).f1), .int .i64 ((rd_T47 l0 x10_1).f2)] 47 (0,0)) ((a3_ BK140.out)) hg (Kd.R_away HO158.out (fun _ hk=>hk.2.2)))
                 have n2_:=am_ (Kd.R_after (ok:=(fun k_=>some k_≠(.slice (some ad141) x4_1.length co7:Value).ownBlock∧k_≠gb140)) ((a2_ HO155.out)) hg hat)
                 have n3_:=am_ (hb)
                 have n4_:=am_ ((show Kd.C k47 w36 (some ad141) y146.length y146 from by rw[Ny146.out];exact Kd.C_take (m:=(x7_2:Int).toNat) ((Kd.R_reads' (Kd.R_after (ok:=(fun k_=>some k_≠(.slice Ao35 y153.length co35:Value).ownBlock∧k_≠gb140)) ((a2_ HO_4.out)) hg hat)).2.2) KL26.out))
                 have n5_:=am_ ((show Kd.C k47 w36 A27 y159.length y159 from by rw[Ny159.out,KA27.out];exact Kd.C_drop (m:=(x7_2:Int).toNat) (c:=co7) ((Kd.R_reads' (Kd.R_after (ok:=(fun k_=>some k_≠(.slice Ao35 y153.length co35:Value).ownBlock∧k_≠gb140)) ((a2_ HO_4.out)) hg hat)).2.2) KL27.out ((Kd.R_reads' (Kd.R_after (ok:=(fun k_=>some k_≠(.slice Ao35 y153.length co35:Value).ownBlock∧k_≠gb140)) ((a2_ HO_4.out)) hg hat)).2.1)))
                 have n6_:=am_ (ho)
                 clear HO_4 BK140 HO155 HB HR149 HR162 HO158
                 have HO_4:=n0_
                 have BK140:=n1_
                 have HO155:=n2_
                 have HB:=n3_
                 have HR149:=n4_
                 have HR162:=n5_
                 have HO165:=n6_
                 clear n0_ n1_ n2_ n3_ n4_ n5_ n6_ ho hb hg hat
                 refine hK.out _ _ ⟨(blk_cell BK140.out 0).trans rfl,(blk_cell BK140.out 1).trans rfl,(blk_cell BK140.out 2).trans rfl⟩ (fun hHeld=>?_)
                 clear hK K
                 refine norm_ (a':=?_) ?_ ?_
                 rotate_left
                 ·show Act.put _ (some 40) _=_
                  simp only[Act.put,pu_]
                  rfl
                 refine pure_ (i:=12) (N:=some 4) (v:=?_) (a':=?_) #[true,true,true,true,true,true,true,true,true,true,true,true,true] rfl rfl (any_of HT_.out (by kernel_rfl)) (fun _ _ _ h=>h) (Or.inl ⟨by rfl,?_⟩) ?_ ?_
                 rotate_left
                 ·intro w'
                  go_simp
                  with_reducible rfl
                 rotate_left
                 ·simp only[Act.put,pu_]
                  rfl
                 refine done_ (done_of HT_.out (by kernel_rfl)) ?_
                 try go_wp2
                 go_roundg k2
                 case measure=>have:=HK1.out;have:=HK2.out;omega
                 case rel=>exact⟨(y163),(wrap64 (x10_1+1)),(a6_),H',⟨by have:=HK1.out;have:=HK2.out;omega⟩,⟨(a26_ HO165.out)⟩,⟨(a1_ GE140.out)⟩⟩
                ·rw[if_neg c22]at H
                 exact absurd H (by simp)
               ·rw[if_neg c19]at H
                exact absurd H (by simp)
              ·rw[if_neg c18]at H
               exact absurd H (by simp)
             ·rw[if_neg c17]at H
              exact absurd H (by simp)
            ·rw[if_neg c16]at H
             exact absurd H (by simp)
          ·rw[if_neg c11]at H
           exact absurd H (by simp)
         ·rw[if_neg c10]at H
          exact absurd H (by simp)
        ·rw[if_neg c8]at H
         have c8b0:decide (0<x7_2)=false:=decide_eq_false c8
         clear c8
         obtain⟨y166,hy166⟩:∃y_:List (S47),y_=(([]:List (S47))):=⟨_,rfl⟩
         replace H:(if 0≤x7_2 then(if x7_2≤(x4_1.length:Int) then((some (x4_1.take (x7_2:Int).toNat:List (S47))).bind fun y169=>(if y166.length+y169.length<5864062014805 then((some (y166 ++ y169:List (S47))).bind fun y173=>((some (([(⟨((rd_T47 l0 x10_1).f0),((rd_T47 l0 x10_1).f1),((rd_T47 l0 x10_1).f2)⟩:S47)]:List (S47)):List (S47))).bind fun y176=>(if y173.length+y176.length<5864062014805 then((some (y173 ++ y176:List (S47))).bind fun y179=>((some (x4_1.drop (x7_2:Int).toNat:List (S47))).bind fun y182=>(if y179.length+y182.length<5864062014805 then(spec_shSorted.l0 k2 (y179 ++ y182) l0 (l0.length:Int) (wrap64 (x10_1+1))) else(none)))) else(none)))) else(none))) else(none)) else(none))=some (r1,r2):=by first | (rw[hy166];with_reducible exact H) | (have H2_:=(Option.bind_some _ _).symm.trans H;rw[hy166];with_reducible exact H2_) | (have H2_:=(Option.bind_some _ _).symm.trans H;with_reducible exact H2_) | with_reducible exact H | (rw[hy166];exact H) | exact H
         have Ny166:=am_ hy166
         clear hy166
         by_cases c37:0≤x7_2
         ·rw[if_pos c37]at H
          have c37b0:=eq_true c37
          have c37b1:decide (0≤x7_2)=true:=decide_eq_true c37
          clear c37
          by_cases c38:x7_2≤(x4_1.length:Int)
          ·rw[if_pos c38]at H
           have c38b0:=eq_true c38
           have c38b1:decide (x7_2≤(x4_1.length:Int))=true:=decide_eq_true c38
           clear c38
           obtain⟨y169,hy169⟩:∃y_:List (S47),y_=(x4_1.take (x7_2:Int).toNat):=⟨_,rfl⟩
           replace H:(if y166.length+y169.length<5864062014805 then((some (y166 ++ y169:List (S47))).bind fun y173=>((some (([(⟨((rd_T47 l0 x10_1).f0),((rd_T47 l0 x10_1).f1),((rd_T47 l0 x10_1).f2)⟩:S47)]:List (S47)):List (S47))).bind fun y176=>(if y173.length+y176.length<5864062014805 then((some (y173 ++ y176:List (S47))).bind fun y179=>((some (x4_1.drop (x7_2:Int).toNat:List (S47))).bind fun y182=>(if y179.length+y182.length<5864062014805 then(spec_shSorted.l0 k2 (y179 ++ y182) l0 (l0.length:Int) (wrap64 (x10_1+1))) else(none)))) else(none)))) else(none))=some (r1,r2):=by first | (rw[hy169];with_reducible exact H) | (have H2_:=(Option.bind_some _ _).symm.trans H;rw[hy169];with_reducible exact H2_) | (have H2_:=(Option.bind_some _ _).symm.trans H;with_reducible exact H2_) | with_reducible exact H | (rw[hy169];exact H) | exact H
           have Ny169:=am_ hy169
           clear hy169
           by_cases c39:y166.length+y169.length<5864062014805
           ·rw[if_pos c39]at H
            have LMc39:=am_ c39
            clear c39
            obtain⟨y173,hy173⟩:∃y_:List (S47),y_=(y166 ++ y169):=⟨_,rfl⟩
            replace H:((some (([(⟨((rd_T47 l0 x10_1).f0),((rd_T47 l0 x10_1).f1),((rd_T47 l0 x10_1).f2)⟩:S47)]:List (S47)):List (S47))).bind fun y176=>(if y173.length+y176.length<5864062014805 then((some (y173 ++ y176:List (S47))).bind fun y179=>((some (x4_1.drop (x7_2:Int).toNat:List (S47))).bind fun y182=>(if y179.length+y182.length<5864062014805 then(spec_shSorted.l0 k2 (y179 ++ y182) l0 (l0.length:Int) (wrap64 (x10_1+1))) else(none)))) else(none)))=some (r1,r2):=by first | (rw[hy173];with_reducible exact H) | (have H2_:=(Option.bind_some _ _).symm.trans H;rw[hy173];with_reducible exact H2_) | (have H2_:=(Option.bind_some _ _).symm.trans H;with_reducible exact H2_) | with_reducible exact H | (rw[hy173];exact H) | exact H
            have Ny173:=am_ hy173
            clear hy173
            obtain⟨y176,hy176⟩:∃y_:List (S47),y_=(([(⟨((rd_T47 l0 x10_1).f0),((rd_T47 l0 x10_1).f1),((rd_T47 l0 x10_1).f2)⟩:S47)]:List (S47))):=⟨_,rfl⟩
            replace H:(if y173.length+y176.length<5864062014805 then((some (y173 ++ y176:List (S47))).bind fun y179=>((some (x4_1.drop (x7_2:Int).toNat:List (S47))).bind fun y182=>(if y179.length+y182.length<5864062014805 then(spec_shSorted.l0 k2 (y179 ++ y182) l0 (l0.length:Int) (wrap64 (x10_1+1))) else(none)))) else(none))=some (r1,r2):=by first | (rw[hy176];with_reducible exact H) | (have H2_:=(Option.bind_some _ _).symm.trans H;rw[hy176];with_reducible exact H2_) | (have H2_:=(Option.bind_some _ _).symm.trans H;with_reducible exact H2_) | with_reducible exact H | (rw[hy176];exact H) | exact H
            have Ny176:=am_ hy176
            clear hy176
            by_cases c40:y173.length+y176.length<5864062014805
            ·rw[if_pos c40]at H
             have LMc40:=am_ c40
             clear c40
             obtain⟨y179,hy179⟩:∃y_:List (S47),y_=(y173 ++ y176):=⟨_,rfl⟩
             replace H:((some (x4_1.drop (x7_2:Int).toNat:List (S47))).bind fun y182=>(if y179.length+y182.length<5864062014805 then(spec_shSorted.l0 k2 (y179 ++ y182) l0 (l0.length:Int) (wrap64 (x10_1+1))) else(none)))=some (r1,r2):=by first | (rw[hy179];with_reducible exact H) | (have H2_:=(Option.bind_some _ _).symm.trans H;rw[hy179];with_reducible exact H2_) | (have H2_:=(Option.bind_some _ _).symm.trans H;with_reducible exact H2_) | with_reducible exact H | (rw[hy179];exact H) | exact H
             have Ny179:=am_ hy179
             clear hy179
             have c41b0:=eq_true (of_decide_eq_true (a4_):0≤x7_2)
             have c42b0:=eq_true (of_decide_eq_true (a4_):x7_2≤(x4_1.length:Int))
             obtain⟨y182,hy182⟩:∃y_:List (S47),y_=(x4_1.drop (x7_2:Int).toNat):=⟨_,rfl⟩
             replace H:(if y179.length+y182.length<5864062014805 then(spec_shSorted.l0 k2 (y179 ++ y182) l0 (l0.length:Int) (wrap64 (x10_1+1))) else(none))=some (r1,r2):=by first | (rw[hy182];with_reducible exact H) | (have H2_:=(Option.bind_some _ _).symm.trans H;rw[hy182];with_reducible exact H2_) | (have H2_:=(Option.bind_some _ _).symm.trans H;with_reducible exact H2_) | with_reducible exact H | (rw[hy182];exact H) | exact H
             have Ny182:=am_ hy182
             clear hy182
             by_cases c43:y179.length+y182.length<5864062014805
             ·rw[if_pos c43]at H
              have LMc43:=am_ c43
              clear c43
              obtain⟨y186,hy186⟩:∃y_:List (S47),y_=(y179 ++ y182):=⟨_,rfl⟩
              replace H:(spec_shSorted.l0 k2 y186 l0 (l0.length:Int) (wrap64 (x10_1+1)))=some (r1,r2):=by first | (rw[hy186];with_reducible exact H) | (have H2_:=(Option.bind_some _ _).symm.trans H;rw[hy186];with_reducible exact H2_) | (have H2_:=(Option.bind_some _ _).symm.trans H;with_reducible exact H2_) | with_reducible exact H | (rw[hy186];exact H) | exact H
              have Ny186:=am_ hy186
              clear hy186
              have H':=am_ H
              clear H
              try go_wp2
              replace HO_4:=am_ (Kd.R_drew HO_4.out)
              replace BK140:=am_ (blk_drew BK140.out)
              replace HB:=am_ (below_drew1 HB.out)
              refine start_ (n:=11) (S:=fun w'=>True) (ds:=[]) #[false,false,false,false,false,false,false,false,false,false,false] (by kernel_rfl) rfl rfl trivial (fun hHeld=>?_);refine with_tabW spec_shSorted.tab6 spec_shSorted.bits6 (fun HT_ HW_=>?_)
              generalize wr.drew=w44 at HO_4 BK140 HB hHeld ⊢
              refine pure_ (i:=0) (N:=some 16) (v:=?_) (a':=?_) #[true,false,false,false,false,false,false,false,false,false,false] rfl rfl (any_of HT_.out (by kernel_rfl)) (fun _ _ _ h=>h) (Or.inl ⟨by rfl,?_⟩) ?_ ?_
              rotate_left
              ·intro w'
               go_simp
               with_reducible rfl
              rotate_left
              ·simp only[Act.put,pu_]
               rfl
              refine pure_ (i:=1) (N:=some 17) (v:=?_) (a':=?_) #[true,true,false,false,false,false,false,false,false,false,false] rfl rfl (any_of HT_.out (by kernel_rfl)) (fun _ _ _ h=>h) (Or.inl ⟨by rfl,?_⟩) ?_ ?_
              rotate_left
              ·intro w'
               go_simp
               with_reducible rfl
              rotate_left
              ·simp only[Act.put,pu_]
               rfl
              refine pure_ (i:=2) (N:=some 18) (v:=?_) (a':=?_) #[true,true,true,false,false,false,false,false,false,false,false] rfl rfl (any_of HT_.out (by kernel_rfl)) (fun _ _ _ h=>h) (Or.inl ⟨by rfl,?_⟩) ?_ ?_
              rotate_left
              ·intro w'
               go_simp
               with_reducible rfl
              rotate_left
              ·simp only[Act.put,pu_]
               rfl
              refine pure_ (i:=3) (N:=some 19) (v:=undef) (a':=?_) #[true,true,true,true,false,false,false,false,false,false,false] rfl rfl (any_of HT_.out (by kernel_rfl)) (fun _ _ _ h=>h) (Or.inr ⟨by rfl,rfl⟩) ?_ ?_
              rotate_left
              ·simp only[Act.put,pu_]
               rfl
              refine pure_ (i:=4) (N:=some 20) (v:=undef) (a':=?_) #[true,true,true,true,true,false,false,false,false,false,false] rfl rfl (any_of HT_.out (by kernel_rfl)) (fun _ _ _ h=>h) (Or.inr ⟨by rfl,rfl⟩) ?_ ?_
              rotate_left
              ·simp only[Act.put,pu_]
               rfl
              refine pure_ (i:=5) (N:=some 21) (v:=undef) (a':=?_) #[true,true,true,true,true,true,false,false,false,false,false] rfl rfl (any_of HT_.out (by kernel_rfl)) (fun _ _ _ h=>h) (Or.inr ⟨by rfl,rfl⟩) ?_ ?_
              rotate_left
              ·simp only[Act.put,pu_]
               rfl
              refine pure_ (i:=6) (N:=some 22) (v:=undef) (a':=?_) #[true,true,true,true,true,true,true,false,false,false,false] rfl rfl (any_of HT_.out (by kernel_rfl)) (fun _ _ _ h=>h) (Or.inr ⟨by rfl,rfl⟩) ?_ ?_
              rotate_left
              ·simp only[Act.put,pu_]
               rfl
              refine pure_ (i:=7) (N:=some 23) (v:=undef) (a':=?_) #[true,true,true,true,true,true,true,true,false,false,false] rfl rfl (any_of HT_.out (by kernel_rfl)) (fun _ _ _ h=>h) (Or.inr ⟨by rfl,rfl⟩) ?_ ?_
              rotate_left
              ·simp only[Act.put,pu_]
               rfl
              refine pure_ (i:=8) (N:=some 24) (v:=undef) (a':=?_) #[true,true,true,true,true,true,true,true,true,false,false] rfl rfl (any_of HT_.out (by kernel_rfl)) (fun _ _ _ h=>h) (Or.inr ⟨by rfl,rfl⟩) ?_ ?_
              rotate_left
              ·simp only[Act.put,pu_]
               rfl
              refine pure_ (i:=9) (N:=some 25) (v:=undef) (a':=?_) #[true,true,true,true,true,true,true,true,true,true,false] rfl rfl (any_of HT_.out (by kernel_rfl)) (fun _ _ _ h=>h) (Or.inr ⟨by rfl,rfl⟩) ?_ ?_
              rotate_left
              ·simp only[Act.put,pu_]
               rfl
              refine pure_ (i:=10) (N:=some 26) (v:=?_) (a':=?_) #[true,true,true,true,true,true,true,true,true,true,true] rfl rfl (any_of HT_.out (by kernel_rfl)) (fun _ _ _ h=>h) (Or.inl ⟨by rfl,?_⟩) ?_ ?_
              rotate_left
              ·intro w'
               go_simp
               with_reducible rfl
              rotate_left
              ·simp only[Act.put,pu_]
               rfl
              refine done_ (done_of HT_.out (by kernel_rfl)) ?_
              try go_wp2
              replace HO_4:=am_ (Kd.R_drew HO_4.out)
              replace BK140:=am_ (blk_drew BK140.out)
              replace HB:=am_ (below_drew1 HB.out)
              have q46:(x7_2:Int)≤((x4_1.length:Int):Int):=of_decide_eq_true (a4_)
              obtain⟨i046,hi046,_,hsz46,_⟩:=info_parts info47
              have hroom46:x4_1.length≤co7:=(Kd.R_reads' HO_4.out).2.1
              have hC46:Kd.C k47 _ Ao7 x4_1.length x4_1:=(Kd.R_reads' HO_4.out).2.2
              have hcut46:=cut_to (P:=Try.prog) 26 47 .i64 Try.underlying26 hi046 Ao7 x4_1.length co7 x7_2 (of_decide_eq_true (a4_)) q46 hroom46
              have hr46:=Kd.C_take (m:=(x7_2:Int).toNat) hC46 (by omega)
              have hy46:y169.length=(x7_2:Int).toNat:=(by rw[Ny169.out,List.length_take];omega)
              rw[← Ny169.out]at hr46
              rw[← hy46]at hcut46
              have HR172:=am_ hr46
              have HC172:=am_ (show y169.length≤co7 from by omega)
              clear hr46 hC46 hroom46 hi046 hsz46
              have KY46:=am_ hy46
              clear hy46
              have KL46:=am_ (show(x7_2:Int).toNat≤x4_1.length from by omega)
              replace q46:=eq_true q46
              have q47:(x7_2:Int)≤((x4_1.length:Int):Int):=of_decide_eq_true (a4_)
              obtain⟨i047,hi047,_,hsz47,_⟩:=info_parts info47
              have hroom47:x4_1.length≤co7:=(Kd.R_reads' HO_4.out).2.1
              have hC47:Kd.C k47 _ Ao7 x4_1.length x4_1:=(Kd.R_reads' HO_4.out).2.2
              have q047:(0:Int)≤(x7_2:Int):=of_decide_eq_true (a4_)
              have hcut47:=cut_from (P:=Try.prog) 26 47 .i64 Try.underlying26 hi047 3 hsz47 Ao7 x4_1.length co7 x7_2 q047 q47
              have hr47:=Kd.C_drop (m:=(x7_2:Int).toNat) (c:=co7) hC47 (by omega) hroom47
              obtain⟨A47,hA47⟩:∃A1,A1=(if co7=(x7_2:Int).toNat then Ao7 else(Ao7:Option Addr).map (·.add ((x7_2:Int).toNat*3))):=⟨_,rfl⟩
              obtain⟨c47,hc47⟩:∃c1,c1=co7-(x7_2:Int).toNat:=⟨_,rfl⟩
              have hy47:y182.length=x4_1.length-(x7_2:Int).toNat:=(by rw[Ny182.out,List.length_drop]<;>omega)
              rw[show(x4_1).drop (x7_2:Int).toNat=y182 from Ny182.out.symm]at hr47
              replace hr47:Kd.C k47 _ A47 y182.length y182:=(by rw[hA47];exact hr47)
              rw[← hy47, ← hA47, ← hc47]at hcut47
              have HR185:=am_ hr47
              have HC185:=am_ (show y182.length≤c47 from by rw[hy47,hc47];exact Nat.sub_le_sub_right hroom47 _)
              clear hr47 hC47 hroom47 hi047 hsz47 hc47
              have KY47:=am_ hy47
              have KA47:=am_ hA47
              clear hy47 hA47
              have KL47:=am_ (show(x7_2:Int).toNat≤x4_1.length from by omega)
              replace q47:=eq_true q47
              refine start_ (n:=13) (S:=fun w'=>w'.cell? ⟨gb140,0,none⟩=some (.int .i64 ((rd_T47 l0 x10_1).f0))∧w'.cell? ⟨gb140,1,none⟩=some (.int .i64 ((rd_T47 l0 x10_1).f1))∧w'.cell? ⟨gb140,2,none⟩=some (.int .i64 ((rd_T47 l0 x10_1).f2))) (ds:=[]) #[false,false,false,false,false,false,false,false,false,false,false,false,false] (by kernel_rfl) rfl rfl ⟨(blk_cell BK140.out 0).trans rfl,(blk_cell BK140.out 1).trans rfl,(blk_cell BK140.out 2).trans rfl⟩ (fun hHeld=>?_);refine with_tabW spec_shSorted.tab8 spec_shSorted.bits8 (fun HT_ HW_=>?_)
              generalize w44.drew=w45 at HO_4 BK140 HB HR172 HR185 hHeld ⊢
              refine pure_ (i:=1) (N:=some 30) (v:=?_) (a':=?_) #[false,true,false,false,false,false,false,false,false,false,false,false,false] rfl rfl (any_of HT_.out (by kernel_rfl)) (fun _ _ _ h=>h) (Or.inl ⟨by rfl,?_⟩) ?_ ?_
              rotate_left
              ·intro w'
               go_simp
               with_reducible rfl
              rotate_left
              ·simp only[Act.put,pu_]
               rfl
              refine pure_ (i:=2) (N:=some 31) (v:=?_) (a':=?_) #[false,true,true,false,false,false,false,false,false,false,false,false,false] rfl rfl (any_of HT_.out (by kernel_rfl)) (fun _ _ _ h=>h) (Or.inl ⟨by rfl,?_⟩) ?_ ?_
              rotate_left
              ·intro w'
               go_simp
               with_reducible rfl
              rotate_left
              ·simp only[Act.put,pu_]
               rfl
              refine pure_ (i:=3) (N:=some 32) (v:=?_) (a':=?_) #[false,true,true,true,false,false,false,false,false,false,false,false,false] rfl rfl (any_of HT_.out (by kernel_rfl)) (fun _ _ _ h=>h) (Or.inl ⟨by rfl,?_⟩) ?_ ?_
              rotate_left
              ·intro w'
               go_simp
               with_reducible rfl
              rotate_left
              ·simp only[Act.put,pu_]
               rfl
              refine pure_ (i:=8) (N:=some 37) (v:=?_) (a':=?_) #[false,true,true,true,false,false,false,false,true,false,false,false,false] rfl rfl (any_of HT_.out (by kernel_rfl)) (fun _ _ _ h=>h) (Or.inl ⟨by rfl,?_⟩) ?_ ?_
              rotate_left
              ·intro w'
               go_simp
               with_reducible rfl
              rotate_left
              ·simp only[Act.put,pu_]
               rfl
              refine pure_ (i:=9) (N:=some 38) (v:=?_) (a':=?_) #[false,true,true,true,false,false,false,false,true,true,false,false,false] rfl rfl (any_of HT_.out (by kernel_rfl)) (fun _ _ _ h=>h) (Or.inl ⟨by rfl,?_⟩) ?_ ?_
              rotate_left
              ·intro w'
               go_simp
               with_reducible rfl
              rotate_left
              ·simp only[Act.put,pu_]
               rfl
              refine pure_ (i:=10) (N:=some 39) (v:=?_) (a':=?_) #[false,true,true,true,false,false,false,false,true,true,true,false,false] rfl rfl (any_of HT_.out (by kernel_rfl)) (fun _ _ _ h=>h) (Or.inl ⟨by rfl,?_⟩) ?_ ?_
              rotate_left
              ·intro w'
               go_simp
               with_reducible rfl
              rotate_left
              ·simp only[Act.put,pu_]
               rfl
              refine take_ (i:=5) (N:=some 34) (v:=?_) (a':=?_) #[false,true,true,true,false,true,false,false,true,true,true,false,false] rfl rfl (take_ofW HT_.out HW_.out (by kernel_rfl)) (fun _ _ _ h=>h) (Or.inl ⟨by rfl,?_⟩) hHeld ?_ ?_
              rotate_left
              ·rintro w' ⟨s0,s1,s2⟩
               go_simp
               with_reducible rfl
              rotate_left
              ·simp only[Act.put,pu_]
               rfl
              refine join_ (σ:=Value×Value×Value) 3 #[true,true,true,true,true,true,true,false,true,true,true,false,false] (fun s_=> [(29,s_.1),(33,s_.2.1),(35,s_.2.2)]) (fun s_ w'=>(w'.cell? ⟨gb140,0,none⟩=some (.int .i64 ((rd_T47 l0 x10_1).f0))∧w'.cell? ⟨gb140,1,none⟩=some (.int .i64 ((rd_T47 l0 x10_1).f1))∧w'.cell? ⟨gb140,2,none⟩=some (.int .i64 ((rd_T47 l0 x10_1).f2)))∧(Kd.R k47 47 w' w.heap.size (fun k_=>some k_≠(s_.2.2:Value).ownBlock∧some k_≠(.slice Ao7 x4_1.length co7:Value).ownBlock∧k_≠gb140) s_.2.1 y173)∧(Kd.R k47 47 w' w.heap.size (fun k_=>some k_≠(s_.2.1:Value).ownBlock∧some k_≠(.slice Ao7 x4_1.length co7:Value).ownBlock∧k_≠gb140) s_.2.2 y176)∧(Kd.R k47 47 w' w.heap.size (fun k_=>some k_≠(s_.2.1:Value).ownBlock∧some k_≠(s_.2.2:Value).ownBlock∧k_≠gb140) (.slice Ao7 x4_1.length co7) x4_1)∧(w'.heap[gb140]? = some (.cells #[.int .i64 ((rd_T47 l0 x10_1).f0), .int .i64 ((rd_T47 l0 x10_1).f1), .int .i64 ((rd_T47 l0 x10_1).f2)] 47 (0,0)))∧(Below w.heap.size w w')) ?_ ?_
              rotate_left
              ·intro hCont
               refine two_ (i:=0) (j:=6) (Ni:=some 29) (Nj:=some 35) #[true,true,true,true,false,true,false,false,true,true,true,false,false] #[false,true,true,true,false,true,true,false,true,true,true,false,false] rfl rfl rfl rfl (two_of HT_.out (by kernel_rfl)) (by decide) (by decide) (fun K hK=>?_) (fun K hK=>?_)
               ·skip
                refine Kd.R_lit_step k47 _ 47 ?hg (N:=29) ?hd (xs:=([]:List (S47))) (inner:=[]) (ok:=fun _=>True) (okp:=fun _=>True) ?hr ?hp (fun _ hk=>hk) trivial (Below.refl _ _) (Nat.le_refl _) (by simp) ?_;(case hd=>rfl);(case hg=>rfl);(case hr=>exact a12_);(case hp=>exact(Reps.none _ _))
                intro v167 w48 ho49 hb hg_ hnew_
                clear hg_ hnew_
                (first | rw[← Ny166.out]at ho49 | (simp only[Int.reduceToNat]at ho49;rw[← Ny166.out]at ho49))
                have HO168:=am_ (Kd.R_lower (Kd.R_newB (Kd.R_new' ho49 (Kd.R_lt ((a2_ HO_4.out)))) (g:=gb140) (o:= .cells #[.int .i64 ((rd_T47 l0 x10_1).f0), .int .i64 ((rd_T47 l0 x10_1).f1), .int .i64 ((rd_T47 l0 x10_1).f2)] 47 (0,0)) ((a3_ BK140.out))) (below_size ((a1_ GE140.out))))
                replace HO_4:=am_ (Kd.R_elder' ((a2_ HO_4.out)) (Kd.R_base ho49) hb)
                replace BK140:=am_ (blk_below (g:=gb140) (o:= .cells #[.int .i64 ((rd_T47 l0 x10_1).f0), .int .i64 ((rd_T47 l0 x10_1).f1), .int .i64 ((rd_T47 l0 x10_1).f2)] 47 (0,0)) ((a3_ BK140.out)) hb)
                replace HR172:=am_ (Kd.C_below ((a8_ HR172.out)) hb)
                replace HR185:=am_ (Kd.C_below ((a8_ HR185.out)) hb)
                replace HB:=am_ (below_step ((a1_ GE140.out)) hb)
                clear hb ho49
                refine hK.out _ _ ⟨(blk_cell BK140.out 0).trans rfl,(blk_cell BK140.out 1).trans rfl,(blk_cell BK140.out 2).trans rfl⟩ (fun hHeld=>?_)
                clear hK K
                refine norm_ (a':=?_) ?_ ?_
                rotate_left
                ·show Act.put _ (some 29) _=_
                 simp only[Act.put,pu_]
                 rfl
                refine two_ (i:=4) (j:=6) (Ni:=some 33) (Nj:=some 35) #[true,true,true,true,true,true,false,false,true,true,true,false,false] #[true,true,true,true,false,true,true,false,true,true,true,false,false] rfl rfl rfl rfl (two_of HT_.out (by kernel_rfl)) (by decide) (by decide) (fun K hK=>?_) (fun K hK=>?_)
                ·skip
                 refine Kd.R_append_rows_step k47 (w0:=w) w.heap.size (by rfl) (.tmp 29) (.tmp 32) 26 47 (.agg #[(.int .i64 0),(.int .i64 0),(.int .i64 0)]) 24 rfl Try.underlying26 info47 rfl (by decide) (by omega) v167 y166 y169 _ _ _ (fun k_=>some k_≠(.slice Ao7 x4_1.length co7:Value).ownBlock∧k_≠gb140) (fun _=>False) rfl rfl ?aO ?aR (fun _ _ h=>h) (fun _ h=>h.elim) ?aF ?aB ?aS ?aL ?_
                 (case aR=>exact(a14_ HR172.out))
                 (case aB=>exact((a1_ GE140.out)))
                 (case aF=>exact(fun k_ hk=>⟨Kd.fresh' (Kd.R_lt ((a2_ HO_4.out))) k_ hk,Kd.freshB (g:=gb140) (o:= .cells #[.int .i64 ((rd_T47 l0 x10_1).f0), .int .i64 ((rd_T47 l0 x10_1).f1), .int .i64 ((rd_T47 l0 x10_1).f2)] 47 (0,0)) ((a3_ BK140.out)) k_ hk⟩))
                 (case aO=>exact(by(with_reducible repeat (first | apply Kd.R_alloc | apply Kd.R_drewN | apply Kd.R_drew));exact Kd.R_mono HO168.out (fun _ hk=>⟨hk.1.2,hk.2⟩)))
                 (case aS=>exact(below_size ((a1_ GE140.out))))
                 (case aL=>have:=LMc39.out;omega)
                 intro v174 w50 ho hb hg hat
                 rw[← Ny173.out]at ho
                 have n0_:=am_ (Kd.R_after (ok:=(fun k_=>k_≠gb140)) ((a2_ HO_4.out)) hg hat)
                 have n1_:=am_ (blk_grown (g:=gb140) (o:= .cells #[.int .i64 ((rd_T47 l0 x10_1).f0), .int .i64 ((rd_T47 l0 x10_1).f1), .int .i64 ((rd_T47 l0 x10_1).f2)] 47 (0,0)) ((a3_ BK140.out)) hg (Kd.R_away HO168.out (fun _ hk=>hk.2)))
                 have n2_:=am_ (hb)
                 have n3_:=am_ ((show Kd.C k47 w50 Ao7 y169.length y169 from by rw[Ny169.out];exact Kd.C_take (m:=(x7_2:Int).toNat) ((Kd.R_reads' (Kd.R_after (ok:=(fun k_=>k_≠gb140)) ((a2_ HO_4.out)) hg hat)).2.2) KL46.out))
                 have n4_:=am_ ((show Kd.C k47 w50 A47 y182.length y182 from by rw[Ny182.out,KA47.out];exact Kd.C_drop (m:=(x7_2:Int).toNat) (c:=co7) ((Kd.R_reads' (Kd.R_after (ok:=(fun k_=>k_≠gb140)) ((a2_ HO_4.out)) hg hat)).2.2) KL47.out ((Kd.R_reads' (Kd.R_after (ok:=(fun k_=>k_≠gb140)) ((a2_ HO_4.out)) hg hat)).2.1)))
                 have n5_:=am_ (ho)
                 clear HO_4 BK140 HB HR172 HR185 HO168
                 have HO_4:=n0_
                 have BK140:=n1_
                 have HB:=n2_
                 have HR172:=n3_
                 have HR185:=n4_
                 have HO175:=n5_
                 clear n0_ n1_ n2_ n3_ n4_ n5_ ho hb hg hat
                 refine hK.out _ _ ⟨(blk_cell BK140.out 0).trans rfl,(blk_cell BK140.out 1).trans rfl,(blk_cell BK140.out 2).trans rfl⟩ (fun hHeld=>?_)
                 clear hK K
                 refine norm_ (a':=?_) ?_ ?_
                 rotate_left
                 ·show Act.put _ (some 33) _=_
                  simp only[Act.put,pu_]
                  rfl
                 refine one_ (i:=6) (N:=some 35) #[true,true,true,true,true,true,true,false,true,true,true,false,false] rfl rfl (one_of HT_.out (by kernel_rfl)) (by decide) (fun K hK=>?_)
                 refine Kd.R_lit_step k47 _ 47 ?hg (N:=35) ?hd (xs:=([(⟨((rd_T47 l0 x10_1).f0),((rd_T47 l0 x10_1).f1),((rd_T47 l0 x10_1).f2)⟩:S47)]:List (S47))) (inner:=[.int .i64 ((rd_T47 l0 x10_1).f0), .int .i64 ((rd_T47 l0 x10_1).f1), .int .i64 ((rd_T47 l0 x10_1).f2)]) (ok:=fun _=>True) (okp:=fun _=>True) ?hr ?hp (fun _ hk=>hk) trivial (Below.refl _ _) (Nat.le_refl _) (by simp) ?_;(case hd=>rfl);(case hg=>rfl);(case hr=>exact a12_);(case hp=>exact(Reps.c3 (show Kd.M k47 _ _ _ (⟨((rd_T47 l0 x10_1).f0),((rd_T47 l0 x10_1).f1),((rd_T47 l0 x10_1).f2)⟩:S47) [.int .i64 ((rd_T47 l0 x10_1).f0), .int .i64 ((rd_T47 l0 x10_1).f1), .int .i64 ((rd_T47 l0 x10_1).f2)] from(k47_mkM _ _ _ (⟨((rd_T47 l0 x10_1).f0),((rd_T47 l0 x10_1).f1),((rd_T47 l0 x10_1).f2)⟩:S47) )) (Reps.none _ _)))
                 intro v177 w51 ho52 hb hg_ hnew_
                 clear hg_ hnew_
                 (first | rw[← Ny176.out]at ho52 | (simp only[Int.reduceToNat]at ho52;rw[← Ny176.out]at ho52))
                 have HO178:=am_ (Kd.R_lower (Kd.R_newB (Kd.R_new' (Kd.R_new' ho52 (Kd.R_lt ((a2_ HO_4.out)))) (Kd.R_lt ((a2_ HO175.out)))) (g:=gb140) (o:= .cells #[.int .i64 ((rd_T47 l0 x10_1).f0), .int .i64 ((rd_T47 l0 x10_1).f1), .int .i64 ((rd_T47 l0 x10_1).f2)] 47 (0,0)) ((a3_ BK140.out))) (below_size ((a1_ GE140.out))))
                 replace HO_4:=am_ (Kd.R_elder' ((a2_ HO_4.out)) (Kd.R_base ho52) hb)
                 replace HO175:=am_ (Kd.R_elder' ((a2_ HO175.out)) (Kd.R_base ho52) hb)
                 replace BK140:=am_ (blk_below (g:=gb140) (o:= .cells #[.int .i64 ((rd_T47 l0 x10_1).f0), .int .i64 ((rd_T47 l0 x10_1).f1), .int .i64 ((rd_T47 l0 x10_1).f2)] 47 (0,0)) ((a3_ BK140.out)) hb)
                 replace HR172:=am_ (Kd.C_below ((a8_ HR172.out)) hb)
                 replace HR185:=am_ (Kd.C_below ((a8_ HR185.out)) hb)
                 replace HB:=am_ (below_step ((a1_ GE140.out)) hb)
                 clear hb ho52
                 refine hK.out _ _ ⟨(blk_cell BK140.out 0).trans rfl,(blk_cell BK140.out 1).trans rfl,(blk_cell BK140.out 2).trans rfl⟩ (fun hHeld=>?_)
                 clear hK K
                 refine norm_ (a':=?_) ?_ ?_
                 rotate_left
                 ·show Act.put _ (some 35) _=_
                  simp only[Act.put,pu_]
                  rfl
                 exact norm_ (by simp only[putAll,Act.put,List.setIfInBounds_toArray,List.set_cons_zero,List.set_cons_succ]) (hCont (v167,v174,v177) _ ⟨hHeld,((a21_ HO175.out)),(by(with_reducible repeat (first | apply Kd.R_alloc | apply Kd.R_drewN | apply Kd.R_drew));exact Kd.R_mono HO178.out (fun _ hk=>⟨hk.1.2,⟨hk.1.1.2,hk.2⟩⟩)),(by(with_reducible repeat (first | apply Kd.R_alloc | apply Kd.R_drewN | apply Kd.R_drew));exact Kd.R_mono HO_4.out (fun _ hk=>⟨hk.1.2,⟨hk.2,hk.1.1⟩⟩)),((a3_ BK140.out)),((a1_ GE140.out))⟩)
                ·skip
                 refine Kd.R_lit_step k47 _ 47 ?hg (N:=35) ?hd (xs:=([(⟨((rd_T47 l0 x10_1).f0),((rd_T47 l0 x10_1).f1),((rd_T47 l0 x10_1).f2)⟩:S47)]:List (S47))) (inner:=[.int .i64 ((rd_T47 l0 x10_1).f0), .int .i64 ((rd_T47 l0 x10_1).f1), .int .i64 ((rd_T47 l0 x10_1).f2)]) (ok:=fun _=>True) (okp:=fun _=>True) ?hr ?hp (fun _ hk=>hk) trivial (Below.refl _ _) (Nat.le_refl _) (by simp) ?_;(case hd=>rfl);(case hg=>rfl);(case hr=>exact a12_);(case hp=>exact(Reps.c3 (show Kd.M k47 _ _ _ (⟨((rd_T47 l0 x10_1).f0),((rd_T47 l0 x10_1).f1),((rd_T47 l0 x10_1).f2)⟩:S47) [.int .i64 ((rd_T47 l0 x10_1).f0), .int .i64 ((rd_T47 l0 x10_1).f1), .int .i64 ((rd_T47 l0 x10_1).f2)] from(k47_mkM _ _ _ (⟨((rd_T47 l0 x10_1).f0),((rd_T47 l0 x10_1).f1),((rd_T47 l0 x10_1).f2)⟩:S47) )) (Reps.none _ _)))
                 intro v177 w50 ho51 hb hg_ hnew_
                 clear hg_ hnew_
                 (first | rw[← Ny176.out]at ho51 | (simp only[Int.reduceToNat]at ho51;rw[← Ny176.out]at ho51))
                 have HO178:=am_ (Kd.R_lower (Kd.R_newB (Kd.R_new' (Kd.R_new' ho51 (Kd.R_lt ((a2_ HO_4.out)))) (Kd.R_lt ((a2_ HO168.out)))) (g:=gb140) (o:= .cells #[.int .i64 ((rd_T47 l0 x10_1).f0), .int .i64 ((rd_T47 l0 x10_1).f1), .int .i64 ((rd_T47 l0 x10_1).f2)] 47 (0,0)) ((a3_ BK140.out))) (below_size ((a1_ GE140.out))))
                 replace HO_4:=am_ (Kd.R_elder' ((a2_ HO_4.out)) (Kd.R_base ho51) hb)
                 replace HO168:=am_ (Kd.R_elder' ((a2_ HO168.out)) (Kd.R_base ho51) hb)
                 replace BK140:=am_ (blk_below (g:=gb140) (o:= .cells #[.int .i64 ((rd_T47 l0 x10_1).f0), .int .i64 ((rd_T47 l0 x10_1).f1), .int .i64 ((rd_T47 l0 x10_1).f2)] 47 (0,0)) ((a3_ BK140.out)) hb)
                 replace HR172:=am_ (Kd.C_below ((a8_ HR172.out)) hb)
                 replace HR185:=am_ (Kd.C_below ((a8_ HR185.out)) hb)
                 replace HB:=am_ (below_step ((a1_ GE140.out)) hb)
                 clear hb ho51
                 refine hK.out _ _ ⟨(blk_cell BK140.out 0).trans rfl,(blk_cell BK140.out 1).trans rfl,(blk_cell BK140.out 2).trans rfl⟩ (fun hHeld=>?_)
                 clear hK K
                 refine norm_ (a':=?_) ?_ ?_
                 rotate_left
                 ·show Act.put _ (some 35) _=_
                  simp only[Act.put,pu_]
                  rfl
                 refine one_ (i:=4) (N:=some 33) #[true,true,true,true,true,true,true,false,true,true,true,false,false] rfl rfl (one_of HT_.out (by kernel_rfl)) (by decide) (fun K hK=>?_)
                 refine Kd.R_append_rows_step k47 (w0:=w) w.heap.size (by rfl) (.tmp 29) (.tmp 32) 26 47 (.agg #[(.int .i64 0),(.int .i64 0),(.int .i64 0)]) 24 rfl Try.underlying26 info47 rfl (by decide) (by omega) v167 y166 y169 _ _ _ (fun k_=>some k_≠(.slice Ao7 x4_1.length co7:Value).ownBlock∧some k_≠(v177:Value).ownBlock∧k_≠gb140) (fun _=>False) rfl rfl ?aO ?aR (fun _ _ h=>h) (fun _ h=>h.elim) ?aF ?aB ?aS ?aL ?_
                 (case aR=>exact(a14_ HR172.out))
                 (case aB=>exact((a1_ GE140.out)))
                 (case aF=>exact(fun k_ hk=>⟨Kd.fresh' (Kd.R_lt ((a2_ HO_4.out))) k_ hk,Kd.fresh' (Kd.R_lt ((a2_ HO178.out))) k_ hk,Kd.freshB (g:=gb140) (o:= .cells #[.int .i64 ((rd_T47 l0 x10_1).f0), .int .i64 ((rd_T47 l0 x10_1).f1), .int .i64 ((rd_T47 l0 x10_1).f2)] 47 (0,0)) ((a3_ BK140.out)) k_ hk⟩))
                 (case aO=>exact(by(with_reducible repeat (first | apply Kd.R_alloc | apply Kd.R_drewN | apply Kd.R_drew));exact Kd.R_mono HO168.out (fun _ hk=>⟨hk.1.1.2,⟨hk.2,hk.1.2⟩⟩)))
                 (case aS=>exact(below_size ((a1_ GE140.out))))
                 (case aL=>have:=LMc39.out;omega)
                 intro v174 w52 ho hb hg hat
                 rw[← Ny173.out]at ho
                 have n0_:=am_ (Kd.R_after (ok:=(fun k_=>some k_≠(v177:Value).ownBlock∧k_≠gb140)) ((a27_ HO_4.out)) hg hat)
                 have n1_:=am_ (blk_grown (g:=gb140) (o:= .cells #[.int .i64 ((rd_T47 l0 x10_1).f0), .int .i64 ((rd_T47 l0 x10_1).f1), .int .i64 ((rd_T47 l0 x10_1).f2)] 47 (0,0)) ((a3_ BK140.out)) hg (Kd.R_away HO168.out (fun _ hk=>hk.1.2)))
                 have n2_:=am_ (Kd.R_after (ok:=(fun k_=>some k_≠(.slice Ao7 x4_1.length co7:Value).ownBlock∧k_≠gb140)) (by(with_reducible repeat (first | apply Kd.R_alloc | apply Kd.R_drewN | apply Kd.R_drew));exact Kd.R_mono HO178.out (fun _ hk=>⟨⟨hk.1.1.2,hk.2⟩,hk.1.2⟩)) hg hat)
                 have n3_:=am_ (hb)
                 have n4_:=am_ ((show Kd.C k47 w52 Ao7 y169.length y169 from by rw[Ny169.out];exact Kd.C_take (m:=(x7_2:Int).toNat) ((Kd.R_reads' (Kd.R_after (ok:=(fun k_=>some k_≠(v177:Value).ownBlock∧k_≠gb140)) ((a27_ HO_4.out)) hg hat)).2.2) KL46.out))
                 have n5_:=am_ ((show Kd.C k47 w52 A47 y182.length y182 from by rw[Ny182.out,KA47.out];exact Kd.C_drop (m:=(x7_2:Int).toNat) (c:=co7) ((Kd.R_reads' (Kd.R_after (ok:=(fun k_=>some k_≠(v177:Value).ownBlock∧k_≠gb140)) ((a27_ HO_4.out)) hg hat)).2.2) KL47.out ((Kd.R_reads' (Kd.R_after (ok:=(fun k_=>some k_≠(v177:Value).ownBlock∧k_≠gb140)) ((a27_ HO_4.out)) hg hat)).2.1)))
                 have n6_:=am_ (ho)
                 clear HO_4 BK140 HO178 HB HR172 HR185 HO168
                 have HO_4:=n0_
                 have BK140:=n1_
                 have HO178:=n2_
                 have HB:=n3_
                 have HR172:=n4_
                 have HR185:=n5_
                 have HO175:=n6_
                 clear n0_ n1_ n2_ n3_ n4_ n5_ n6_ ho hb hg hat
                 refine hK.out _ _ ⟨(blk_cell BK140.out 0).trans rfl,(blk_cell BK140.out 1).trans rfl,(blk_cell BK140.out 2).trans rfl⟩ (fun hHeld=>?_)
                 clear hK K
                 refine norm_ (a':=?_) ?_ ?_
                 rotate_left
                 ·show Act.put _ (some 33) _=_
                  simp only[Act.put,pu_]
                  rfl
                 exact norm_ (by simp only[putAll,Act.put,List.setIfInBounds_toArray,List.set_cons_zero,List.set_cons_succ]) (hCont (v167,v174,v177) _ ⟨hHeld,((a33_ HO175.out)),((a21_ HO178.out)),((a21_ HO_4.out)),((a3_ BK140.out)),((a1_ GE140.out))⟩)
               ·skip
                refine Kd.R_lit_step k47 _ 47 ?hg (N:=35) ?hd (xs:=([(⟨((rd_T47 l0 x10_1).f0),((rd_T47 l0 x10_1).f1),((rd_T47 l0 x10_1).f2)⟩:S47)]:List (S47))) (inner:=[.int .i64 ((rd_T47 l0 x10_1).f0), .int .i64 ((rd_T47 l0 x10_1).f1), .int .i64 ((rd_T47 l0 x10_1).f2)]) (ok:=fun _=>True) (okp:=fun _=>True) ?hr ?hp (fun _ hk=>hk) trivial (Below.refl _ _) (Nat.le_refl _) (by simp) ?_;(case hd=>rfl);(case hg=>rfl);(case hr=>exact a12_);(case hp=>exact(Reps.c3 (show Kd.M k47 _ _ _ (⟨((rd_T47 l0 x10_1).f0),((rd_T47 l0 x10_1).f1),((rd_T47 l0 x10_1).f2)⟩:S47) [.int .i64 ((rd_T47 l0 x10_1).f0), .int .i64 ((rd_T47 l0 x10_1).f1), .int .i64 ((rd_T47 l0 x10_1).f2)] from(k47_mkM _ _ _ (⟨((rd_T47 l0 x10_1).f0),((rd_T47 l0 x10_1).f1),((rd_T47 l0 x10_1).f2)⟩:S47) )) (Reps.none _ _)))
                intro v177 w48 ho49 hb hg_ hnew_
                clear hg_ hnew_
                (first | rw[← Ny176.out]at ho49 | (simp only[Int.reduceToNat]at ho49;rw[← Ny176.out]at ho49))
                have HO178:=am_ (Kd.R_lower (Kd.R_newB (Kd.R_new' ho49 (Kd.R_lt ((a2_ HO_4.out)))) (g:=gb140) (o:= .cells #[.int .i64 ((rd_T47 l0 x10_1).f0), .int .i64 ((rd_T47 l0 x10_1).f1), .int .i64 ((rd_T47 l0 x10_1).f2)] 47 (0,0)) ((a3_ BK140.out))) (below_size ((a1_ GE140.out))))
                replace HO_4:=am_ (Kd.R_elder' ((a2_ HO_4.out)) (Kd.R_base ho49) hb)
                replace BK140:=am_ (blk_below (g:=gb140) (o:= .cells #[.int .i64 ((rd_T47 l0 x10_1).f0), .int .i64 ((rd_T47 l0 x10_1).f1), .int .i64 ((rd_T47 l0 x10_1).f2)] 47 (0,0)) ((a3_ BK140.out)) hb)
                replace HR172:=am_ (Kd.C_below ((a8_ HR172.out)) hb)
                replace HR185:=am_ (Kd.C_below ((a8_ HR185.out)) hb)
                replace HB:=am_ (below_step ((a1_ GE140.out)) hb)
                clear hb ho49
                refine hK.out _ _ ⟨(blk_cell BK140.out 0).trans rfl,(blk_cell BK140.out 1).trans rfl,(blk_cell BK140.out 2).trans rfl⟩ (fun hHeld=>?_)
                clear hK K
                refine norm_ (a':=?_) ?_ ?_
                rotate_left
                ·show Act.put _ (some 35) _=_
                 simp only[Act.put,pu_]
                 rfl
                refine one_ (i:=0) (N:=some 29) #[true,true,true,true,false,true,true,false,true,true,true,false,false] rfl rfl (one_of HT_.out (by kernel_rfl)) (by decide) (fun K hK=>?_)
                refine Kd.R_lit_step k47 _ 47 ?hg (N:=29) ?hd (xs:=([]:List (S47))) (inner:=[]) (ok:=fun _=>True) (okp:=fun _=>True) ?hr ?hp (fun _ hk=>hk) trivial (Below.refl _ _) (Nat.le_refl _) (by simp) ?_;(case hd=>rfl);(case hg=>rfl);(case hr=>exact a12_);(case hp=>exact(Reps.none _ _))
                intro v167 w50 ho51 hb hg_ hnew_
                clear hg_ hnew_
                (first | rw[← Ny166.out]at ho51 | (simp only[Int.reduceToNat]at ho51;rw[← Ny166.out]at ho51))
                have HO168:=am_ (Kd.R_lower (Kd.R_newB (Kd.R_new' (Kd.R_new' ho51 (Kd.R_lt ((a2_ HO_4.out)))) (Kd.R_lt ((a2_ HO178.out)))) (g:=gb140) (o:= .cells #[.int .i64 ((rd_T47 l0 x10_1).f0), .int .i64 ((rd_T47 l0 x10_1).f1), .int .i64 ((rd_T47 l0 x10_1).f2)] 47 (0,0)) ((a3_ BK140.out))) (below_size ((a1_ GE140.out))))
                replace HO_4:=am_ (Kd.R_elder' ((a2_ HO_4.out)) (Kd.R_base ho51) hb)
                replace HO178:=am_ (Kd.R_elder' ((a2_ HO178.out)) (Kd.R_base ho51) hb)
                replace BK140:=am_ (blk_below (g:=gb140) (o:= .cells #[.int .i64 ((rd_T47 l0 x10_1).f0), .int .i64 ((rd_T47 l0 x10_1).f1), .int .i64 ((rd_T47 l0 x10_1).f2)] 47 (0,0)) ((a3_ BK140.out)) hb)
                replace HR172:=am_ (Kd.C_below ((a8_ HR172.out)) hb)
                replace HR185:=am_ (Kd.C_below ((a8_ HR185.out)) hb)
                replace HB:=am_ (below_step ((a1_ GE140.out)) hb)
                clear hb ho51
                refine hK.out _ _ ⟨(blk_cell BK140.out 0).trans rfl,(blk_cell BK140.out 1).trans rfl,(blk_cell BK140.out 2).trans rfl⟩ (fun hHeld=>?_)
                clear hK K
                refine norm_ (a':=?_) ?_ ?_
                rotate_left
                ·show Act.put _ (some 29) _=_
                 simp only[Act.put,pu_]
                 rfl
                refine one_ (i:=4) (N:=some 33) #[true,true,true,true,true,true,true,false,true,true,true,false,false] rfl rfl (one_of HT_.out (by kernel_rfl)) (by decide) (fun K hK=>?_)
                refine Kd.R_append_rows_step k47 (w0:=w) w.heap.size (by rfl) (.tmp 29) (.tmp 32) 26 47 (.agg #[(.int .i64 0),(.int .i64 0),(.int .i64 0)]) 24 rfl Try.underlying26 info47 rfl (by decide) (by omega) v167 y166 y169 _ _ _ (fun k_=>some k_≠(.slice Ao7 x4_1.length co7:Value).ownBlock∧some k_≠(v177:Value).ownBlock∧k_≠gb140) (fun _=>False) rfl rfl ?aO ?aR (fun _ _ h=>h) (fun _ h=>h.elim) ?aF ?aB ?aS ?aL ?_
                (case aR=>exact(a14_ HR172.out))
                (case aB=>exact((a1_ GE140.out)))
                (case aF=>exact(fun k_ hk=>⟨Kd.fresh' (Kd.R_lt ((a2_ HO_4.out))) k_ hk,Kd.fresh' (Kd.R_lt ((a2_ HO178.out))) k_ hk,Kd.freshB (g:=gb140) (o:= .cells #[.int .i64 ((rd_T47 l0 x10_1).f0), .int .i64 ((rd_T47 l0 x10_1).f1), .int .i64 ((rd_T47 l0 x10_1).f2)] 47 (0,0)) ((a3_ BK140.out)) k_ hk⟩))
                (case aO=>exact(by(with_reducible repeat (first | apply Kd.R_alloc | apply Kd.R_drewN | apply Kd.R_drew));exact Kd.R_mono HO168.out (fun _ hk=>⟨hk.1.1.2,⟨hk.1.2,hk.2⟩⟩)))
                (case aS=>exact(below_size ((a1_ GE140.out))))
                (case aL=>have:=LMc39.out;omega)
                intro v174 w52 ho hb hg hat
                rw[← Ny173.out]at ho
                have n0_:=am_ (Kd.R_after (ok:=(fun k_=>some k_≠(v177:Value).ownBlock∧k_≠gb140)) ((a28_ HO_4.out)) hg hat)
                have n1_:=am_ (blk_grown (g:=gb140) (o:= .cells #[.int .i64 ((rd_T47 l0 x10_1).f0), .int .i64 ((rd_T47 l0 x10_1).f1), .int .i64 ((rd_T47 l0 x10_1).f2)] 47 (0,0)) ((a3_ BK140.out)) hg (Kd.R_away HO168.out (fun _ hk=>hk.2)))
                have n2_:=am_ (Kd.R_after (ok:=(fun k_=>some k_≠(.slice Ao7 x4_1.length co7:Value).ownBlock∧k_≠gb140)) (by(with_reducible repeat (first | apply Kd.R_alloc | apply Kd.R_drewN | apply Kd.R_drew));exact Kd.R_mono HO178.out (fun _ hk=>⟨⟨hk.1.1.2,hk.1.2⟩,hk.2⟩)) hg hat)
                have n3_:=am_ (hb)
                have n4_:=am_ ((show Kd.C k47 w52 Ao7 y169.length y169 from by rw[Ny169.out];exact Kd.C_take (m:=(x7_2:Int).toNat) ((Kd.R_reads' (Kd.R_after (ok:=(fun k_=>some k_≠(v177:Value).ownBlock∧k_≠gb140)) ((a28_ HO_4.out)) hg hat)).2.2) KL46.out))
                have n5_:=am_ ((show Kd.C k47 w52 A47 y182.length y182 from by rw[Ny182.out,KA47.out];exact Kd.C_drop (m:=(x7_2:Int).toNat) (c:=co7) ((Kd.R_reads' (Kd.R_after (ok:=(fun k_=>some k_≠(v177:Value).ownBlock∧k_≠gb140)) ((a28_ HO_4.out)) hg hat)).2.2) KL47.out ((Kd.R_reads' (Kd.R_after (ok:=(fun k_=>some k_≠(v177:Value).ownBlock∧k_≠gb140)) ((a28_ HO_4.out)) hg hat)).2.1)))
                have n6_:=am_ (ho)
                clear HO_4 BK140 HO178 HB HR172 HR185 HO168
                have HO_4:=n0_
                have BK140:=n1_
                have HO178:=n2_
                have HB:=n3_
                have HR172:=n4_
                have HR185:=n5_
                have HO175:=n6_
                clear n0_ n1_ n2_ n3_ n4_ n5_ n6_ ho hb hg hat
                refine hK.out _ _ ⟨(blk_cell BK140.out 0).trans rfl,(blk_cell BK140.out 1).trans rfl,(blk_cell BK140.out 2).trans rfl⟩ (fun hHeld=>?_)
                clear hK K
                refine norm_ (a':=?_) ?_ ?_
                rotate_left
                ·show Act.put _ (some 33) _=_
                 simp only[Act.put,pu_]
                 rfl
                exact norm_ (by simp only[putAll,Act.put,List.setIfInBounds_toArray,List.set_cons_zero,List.set_cons_succ]) (hCont (v167,v174,v177) _ ⟨hHeld,((a33_ HO175.out)),((a21_ HO178.out)),((a21_ HO_4.out)),((a3_ BK140.out)),((a1_ GE140.out))⟩)
              rintro⟨v167,v174,v177⟩ w53 ⟨hS_,h0_,h1_,h2_,h3_,h4_⟩
              have n0_:Aside0 (Kd.R k47 47 w53 w.heap.size (fun k_=>some k_≠(v177:Value).ownBlock∧some k_≠(.slice Ao7 x4_1.length co7:Value).ownBlock∧k_≠gb140) v174 y173):=⟨h0_⟩
              have n1_:Aside0 (Kd.R k47 47 w53 w.heap.size (fun k_=>some k_≠(v174:Value).ownBlock∧some k_≠(.slice Ao7 x4_1.length co7:Value).ownBlock∧k_≠gb140) v177 y176):=⟨h1_⟩
              have n2_:Aside0 (Kd.R k47 47 w53 w.heap.size (fun k_=>some k_≠(v174:Value).ownBlock∧some k_≠(v177:Value).ownBlock∧k_≠gb140) (.slice Ao7 x4_1.length co7) x4_1):=⟨h2_⟩
              have n3_:Aside0 (w53.heap[gb140]? = some (.cells #[.int .i64 ((rd_T47 l0 x10_1).f0), .int .i64 ((rd_T47 l0 x10_1).f1), .int .i64 ((rd_T47 l0 x10_1).f2)] 47 (0,0))):=⟨h3_⟩
              have n4_:Aside0 (Below w.heap.size w w53):=⟨h4_⟩
              clear HO_4 BK140 HB h0_ h1_ h2_ h3_ h4_
              have HO175:=n0_
              have HO178:=n1_
              have HO_4:=n2_
              have BK140:=n3_
              have HB:=n4_
              clear n0_ n1_ n2_ n3_ n4_
              have hHeld:w53.cell? ⟨gb140,0,none⟩=some (.int .i64 ((rd_T47 l0 x10_1).f0))∧w53.cell? ⟨gb140,1,none⟩=some (.int .i64 ((rd_T47 l0 x10_1).f1))∧w53.cell? ⟨gb140,2,none⟩=some (.int .i64 ((rd_T47 l0 x10_1).f2)):=hS_
              have HR172:=am_ (show Kd.C k47 w53 Ao7 y169.length y169 from by rw[Ny169.out];exact Kd.C_take (m:=(x7_2:Int).toNat) ((Kd.R_reads' HO_4.out).2.2) KL46.out)
              have HR185:=am_ (show Kd.C k47 w53 A47 y182.length y182 from by rw[Ny182.out,KA47.out];exact Kd.C_drop (m:=(x7_2:Int).toNat) (c:=co7) ((Kd.R_reads' HO_4.out).2.2) KL47.out ((Kd.R_reads' HO_4.out).2.1))
              obtain⟨Ao55,co55,eo55⟩:=Kd.R_slice HO178.out
              (first | subst eo55 | (injection eo55 with f1_ f2_ f3_;have f4_:=f1_.symm;have f5_:=f3_.symm;clear f1_ f2_ f3_;subst f4_;subst f5_))
              refine norm_ (a':=?_) ?_ ?_
              rotate_left
              ·simp only[putAll,Act.put,List.setIfInBounds_toArray,List.set_cons_zero,List.set_cons_succ]
               rfl
              refine one_ (i:=7) (N:=some 36) #[true,true,true,true,true,true,true,true,true,true,true,false,false] rfl rfl (one_of HT_.out (by kernel_rfl)) (by decide) (fun K hK=>?_)
              refine Kd.R_append_rows_step k47 (w0:=w) w.heap.size (by rfl) (.tmp 33) (.tmp 35) 26 47 (.agg #[(.int .i64 0),(.int .i64 0),(.int .i64 0)]) 24 rfl Try.underlying26 info47 rfl (by decide) (by omega) v174 y173 y176 _ _ _ (fun k_=>some k_≠(.slice Ao7 x4_1.length co7:Value).ownBlock∧some k_≠(.slice Ao55 y176.length co55:Value).ownBlock∧k_≠gb140) (fun _=>False) rfl rfl ?aO ?aR (fun _ _ h=>h) (fun _ h=>h.elim) ?aF ?aB ?aS ?aL ?_
              (case aR=>exact(a9_ HO178.out))
              (case aB=>exact((a1_ GE140.out)))
              (case aF=>exact(fun k_ hk=>⟨Kd.fresh' (Kd.R_lt ((a2_ HO_4.out))) k_ hk,Kd.fresh' (Kd.R_lt ((a2_ HO178.out))) k_ hk,Kd.freshB (g:=gb140) (o:= .cells #[.int .i64 ((rd_T47 l0 x10_1).f0), .int .i64 ((rd_T47 l0 x10_1).f1), .int .i64 ((rd_T47 l0 x10_1).f2)] 47 (0,0)) ((a3_ BK140.out)) k_ hk⟩))
              (case aO=>exact((a33_ HO175.out)))
              (case aS=>exact(below_size ((a1_ GE140.out))))
              (case aL=>have:=LMc40.out;omega)
              intro v180 w54 ho hb hg hat
              rw[← Ny179.out]at ho
              have n0_:=am_ (Kd.R_after (ok:=(fun k_=>some k_≠(.slice Ao55 y176.length co55:Value).ownBlock∧k_≠gb140)) ((a22_ HO_4.out)) hg hat)
              have n1_:=am_ (blk_grown (g:=gb140) (o:= .cells #[.int .i64 ((rd_T47 l0 x10_1).f0), .int .i64 ((rd_T47 l0 x10_1).f1), .int .i64 ((rd_T47 l0 x10_1).f2)] 47 (0,0)) ((a3_ BK140.out)) hg (Kd.R_away HO175.out (fun _ hk=>hk.2.2)))
              have n2_:=am_ (Kd.R_after (ok:=(fun k_=>some k_≠(.slice Ao7 x4_1.length co7:Value).ownBlock∧k_≠gb140)) ((a22_ HO178.out)) hg hat)
              have n3_:=am_ (hb)
              have n4_:=am_ ((show Kd.C k47 w54 Ao7 y169.length y169 from by rw[Ny169.out];exact Kd.C_take (m:=(x7_2:Int).toNat) ((Kd.R_reads' (Kd.R_after (ok:=(fun k_=>some k_≠(.slice Ao55 y176.length co55:Value).ownBlock∧k_≠gb140)) ((a22_ HO_4.out)) hg hat)).2.2) KL46.out))
              have n5_:=am_ ((show Kd.C k47 w54 A47 y182.length y182 from by rw[Ny182.out,KA47.out];exact Kd.C_drop (m:=(x7_2:Int).toNat) (c:=co7) ((Kd.R_reads' (Kd.R_after (ok:=(fun k_=>some k_≠(.slice Ao55 y176.length co55:Value).ownBlock∧k_≠gb140)) ((a22_ HO_4.out)) hg hat)).2.2) KL47.out ((Kd.R_reads' (Kd.R_after (ok:=(fun k_=>some k_≠(.slice Ao55 y176.length co55:Value).ownBlock∧k_≠gb140)) ((a22_ HO_4.out)) hg hat)).2.1)))
              have n6_:=am_ (ho)
              clear HO_4 BK140 HO178 HB HR172 HR185 HO175
              have HO_4:=n0_
              have BK140:=n1_
              have HO178:=n2_
              have HB:=n3_
              have HR172:=n4_
              have HR185:=n5_
              have HO181:=n6_
              clear n0_ n1_ n2_ n3_ n4_ n5_ n6_ ho hb hg hat
              refine hK.out _ _ ⟨(blk_cell BK140.out 0).trans rfl,(blk_cell BK140.out 1).trans rfl,(blk_cell BK140.out 2).trans rfl⟩ (fun hHeld=>?_)
              clear hK K
              refine norm_ (a':=?_) ?_ ?_
              rotate_left
              ·show Act.put _ (some 36) _=_
               simp only[Act.put,pu_]
               rfl
              refine one_ (i:=11) (N:=some 40) #[true,true,true,true,true,true,true,true,true,true,true,true,false] rfl rfl (one_of HT_.out (by kernel_rfl)) (by decide) (fun K hK=>?_)
              refine Kd.R_append_rows_step k47 (w0:=w) w.heap.size (by rfl) (.tmp 36) (.tmp 39) 26 47 (.agg #[(.int .i64 0),(.int .i64 0),(.int .i64 0)]) 24 rfl Try.underlying26 info47 rfl (by decide) (by omega) v180 y179 y182 _ _ _ (fun k_=>some k_≠(.slice Ao7 x4_1.length co7:Value).ownBlock∧some k_≠(.slice Ao55 y176.length co55:Value).ownBlock∧k_≠gb140) (fun _=>False) rfl rfl ?aO ?aR (fun _ _ h=>h) (fun _ h=>h.elim) ?aF ?aB ?aS ?aL ?_
              (case aR=>exact(a14_ HR185.out))
              (case aB=>exact((a1_ GE140.out)))
              (case aF=>exact(fun k_ hk=>⟨Kd.fresh' (Kd.R_lt ((a2_ HO_4.out))) k_ hk,Kd.fresh' (Kd.R_lt ((a2_ HO178.out))) k_ hk,Kd.freshB (g:=gb140) (o:= .cells #[.int .i64 ((rd_T47 l0 x10_1).f0), .int .i64 ((rd_T47 l0 x10_1).f1), .int .i64 ((rd_T47 l0 x10_1).f2)] 47 (0,0)) ((a3_ BK140.out)) k_ hk⟩))
              (case aO=>exact((a2_ HO181.out)))
              (case aS=>exact(below_size ((a1_ GE140.out))))
              (case aL=>have:=LMc43.out;omega)
              intro v187 w56 ho hb hg hat
              rw[← Ny186.out]at ho
              have n0_:=am_ (Kd.R_after (ok:=(fun k_=>some k_≠(.slice Ao55 y176.length co55:Value).ownBlock∧k_≠gb140)) ((a2_ HO_4.out)) hg hat)
              have n1_:=am_ (blk_grown (g:=gb140) (o:= .cells #[.int .i64 ((rd_T47 l0 x10_1).f0), .int .i64 ((rd_T47 l0 x10_1).f1), .int .i64 ((rd_T47 l0 x10_1).f2)] 47 (0,0)) ((a3_ BK140.out)) hg (Kd.R_away HO181.out (fun _ hk=>hk.2.2)))
              have n2_:=am_ (Kd.R_after (ok:=(fun k_=>some k_≠(.slice Ao7 x4_1.length co7:Value).ownBlock∧k_≠gb140)) ((a2_ HO178.out)) hg hat)
              have n3_:=am_ (hb)
              have n4_:=am_ ((show Kd.C k47 w56 Ao7 y169.length y169 from by rw[Ny169.out];exact Kd.C_take (m:=(x7_2:Int).toNat) ((Kd.R_reads' (Kd.R_after (ok:=(fun k_=>some k_≠(.slice Ao55 y176.length co55:Value).ownBlock∧k_≠gb140)) ((a2_ HO_4.out)) hg hat)).2.2) KL46.out))
              have n5_:=am_ ((show Kd.C k47 w56 A47 y182.length y182 from by rw[Ny182.out,KA47.out];exact Kd.C_drop (m:=(x7_2:Int).toNat) (c:=co7) ((Kd.R_reads' (Kd.R_after (ok:=(fun k_=>some k_≠(.slice Ao55 y176.length co55:Value).ownBlock∧k_≠gb140)) ((a2_ HO_4.out)) hg hat)).2.2) KL47.out ((Kd.R_reads' (Kd.R_after (ok:=(fun k_=>some k_≠(.slice Ao55 y176.length co55:Value).ownBlock∧k_≠gb140)) ((a2_ HO_4.out)) hg hat)).2.1)))
              have n6_:=am_ (ho)
              clear HO_4 BK140 HO178 HB HR172 HR185 HO181
              have HO_4:=n0_
              have BK140:=n1_
              have HO178:=n2_
              have HB:=n3_
              have HR172:=n4_
              have HR185:=n5_
              have HO188:=n6_
              clear n0_ n1_ n2_ n3_ n4_ n5_ n6_ ho hb hg hat
              refine hK.out _ _ ⟨(blk_cell BK140.out 0).trans rfl,(blk_cell BK140.out 1).trans rfl,(blk_cell BK140.out 2).trans rfl⟩ (fun hHeld=>?_)
              clear hK K
              refine norm_ (a':=?_) ?_ ?_
              rotate_left
              ·show Act.put _ (some 40) _=_
               simp only[Act.put,pu_]
               rfl
              refine pure_ (i:=12) (N:=some 4) (v:=?_) (a':=?_) #[true,true,true,true,true,true,true,true,true,true,true,true,true] rfl rfl (any_of HT_.out (by kernel_rfl)) (fun _ _ _ h=>h) (Or.inl ⟨by rfl,?_⟩) ?_ ?_
              rotate_left
              ·intro w'
               go_simp
               with_reducible rfl
              rotate_left
              ·simp only[Act.put,pu_]
               rfl
              refine done_ (done_of HT_.out (by kernel_rfl)) ?_
              try go_wp2
              go_roundg k2
              case measure=>have:=HK1.out;have:=HK2.out;omega
              case rel=>exact⟨(y186),(wrap64 (x10_1+1)),(a6_),H',⟨by have:=HK1.out;have:=HK2.out;omega⟩,⟨(a26_ HO188.out)⟩,⟨(a1_ GE140.out)⟩⟩
             ·rw[if_neg c43]at H
              exact absurd H (by simp)
            ·rw[if_neg c40]at H
             exact absurd H (by simp)
           ·rw[if_neg c39]at H
            exact absurd H (by simp)
          ·rw[if_neg c38]at H
           exact absurd H (by simp)
         ·rw[if_neg c37]at H
          exact absurd H (by simp)
     ·rw[if_neg c4]at H
      exact absurd H (by simp)
    ·rw[if_neg c3]at H
     exact absurd H (by simp)
   ·rw[if_neg c2]at H
    have c2b0:decide (x10_1<(l0.length:Int))=false:=decide_eq_false c2
    clear c2
    replace H:=Option.bind_eq_some_iff.mp H
    obtain⟨t138,A570,H⟩:=H
    replace H:(if t138=true then(some (x4_1,true)) else(some (([]:List (S47)),false)))=some (r1,r2):=H
    have A57:=am_ A570
    clear A570
    by_cases c58:t138=true
    ·subst c58
     replace H:(some (x4_1,true))=some (r1,r2):=by rw[if_pos rfl]at H;exact H
     simp only[Option.some.injEq,Prod.mk.injEq]at H
     obtain⟨rfl,rfl⟩:=H
     obtain⟨Ao59,co59,eo59⟩:=Kd.R_slice HO_4.out
     subst eo59
     go_wp2_with (first | ((with_reducible refine gate_callee (f:=29) rfl ?_);refine goesL_ (some 43) rfl rfl Try.func29 (by kernel_rfl) rfl #[.slice Ao59 x4_1.length co59] rfl (by(try simp only[List.map_toArray,List.map_cons,List.map_nil]);first | done | rfl | (simp only[List.length_drop,List.length_take];rfl)) ?_;(with_reducible refine(spec_shGood.calls k1 _ _ x4_1 true _ ?side1 ?side2 A57.out).mono ?_);(case side1=>exact(a9_ HO_4.out));(case side2=>exact(Kd.R_reads' HO_4.out).2.1);rintro e w60 ⟨rfl,hb⟩;refine⟨_,rfl,?_⟩;replace HO_4:=am_ (Kd.R_below ((a2_ HO_4.out)) hb);replace HB:=am_ (below_step (a0_) hb);(try clear hb);(try clear hb2);(try clear hk);(try clear hi)))
     go_ret2
     exact⟨_,a5_,(a2_ HO_4.out),a0_⟩
    ·replace c58:=Bool.eq_false_iff.mpr c58
     subst c58
     replace H:(some (([]:List (S47)),false))=some (r1,r2):=by rw[if_neg (show ¬(false=true) by decide)]at H;exact H
     simp only[Option.some.injEq,Prod.mk.injEq]at H
     obtain⟨rfl,rfl⟩:=H
     obtain⟨Ao61,co61,eo61⟩:=Kd.R_slice HO_4.out
     subst eo61
     go_wp2_with (first | ((with_reducible refine gate_callee (f:=29) rfl ?_);refine goesL_ (some 43) rfl rfl Try.func29 (by kernel_rfl) rfl #[.slice Ao61 x4_1.length co61] rfl (by(try simp only[List.map_toArray,List.map_cons,List.map_nil]);first | done | rfl | (simp only[List.length_drop,List.length_take];rfl)) ?_;(with_reducible refine(spec_shGood.calls k1 _ _ x4_1 false _ ?side1 ?side2 A57.out).mono ?_);(case side1=>exact(a9_ HO_4.out));(case side2=>exact(Kd.R_reads' HO_4.out).2.1);rintro e w62 ⟨rfl,hb⟩;refine⟨_,rfl,?_⟩;replace HO_4:=am_ (Kd.R_below ((a2_ HO_4.out)) hb);replace HB:=am_ (below_step (a0_) hb);(try clear hb);(try clear hb2);(try clear hk);(try clear hi)))
     go_ret2
     exact⟨_,a5_,a34_,a0_⟩

end Go.Proofs.Ytbbiihhaljigjaa.QFnExactMakeEdition
