/- Written by a program of this session (the kit's printer, with leaf contracts proved by hand put in): what each Go function computes, and that the call computes it. No condition but those that each theorem names. -/
import Derived.Test.YtbbiihhaljigjaaQFnExactMakeEditionx0
import Derived.Test.YtbbiihhaljigjaaQFnExactMakeEditionx6
namespace Go.Proofs.Ytbbiihhaljigjaa.QFnExactMakeEdition
open Go.RowKit Go.Proofs.YtbbiihhaljigjaaW.PrintWords Go.Proofs.YtbbiihhaljigjaaW.PrintLast Go.Proofs.YtbbiihhaljigjaaW.PrintMore
attribute [local go_sem] max2_int min2_int max_two min_two max_three min_three max_four min_four   -- for this text's walks alone
set_option linter.unusedVariables false
set_option linter.unusedSimpArgs false

/-! ### impl_IsSheet: function 35 -/
mutual
def impl_IsSheet.l0:Nat→List (S47)→List (S47)→Int→Int→Option (Bool)
 | 0,_,_,_,_=>none
 | k+1,x0,x10,x11,x12=>if x12<x11 then(if 0≤x12 then(if x12<(x10.length:Int) then((impl_IsHole.f ((rd_T47 x10 x12).f0) ((rd_T47 x10 x12).f1) ((rd_T47 x10 x12).f2)).bind fun t236=>(if t236=true then(if x12>0 then(if 0≤(wrap64 (x12-1)) then(if(wrap64 (x12-1))<(x0.length:Int) then((impl_holeLess.f ((rd_T47 x0 (wrap64 (x12-1))).f0) ((rd_T47 x0 (wrap64 (x12-1))).f1) ((rd_T47 x0 (wrap64 (x12-1))).f2) ((rd_T47 x10 x12).f0) ((rd_T47 x10 x12).f1) ((rd_T47 x10 x12).f2)).bind fun t238=>(impl_IsSheet.j1 k x0 x12 x10 x11 x12 (!t238) ((rd_T47 x10 x12).f0) ((rd_T47 x10 x12).f1) ((rd_T47 x10 x12).f2))) else(none)) else(none)) else(impl_IsSheet.j1 k x0 x12 x10 x11 x12 false ((rd_T47 x10 x12).f0) ((rd_T47 x10 x12).f1) ((rd_T47 x10 x12).f2))) else(impl_IsSheet.j1 k x0 x12 x10 x11 x12 true ((rd_T47 x10 x12).f0) ((rd_T47 x10 x12).f1) ((rd_T47 x10 x12).f2)))) else(none)) else(none)) else(some true)
def impl_IsSheet.j1:Nat→List (S47)→Int→List (S47)→Int→Int→Bool→Int→Int→Int→Option (Bool)
 | 0,_,_,_,_,_,_,_,_,_=>none
 | k+1,x0,x3,x10,x11,x12,x33,x236000,x236001,x236002=>if x33=true then(some false) else(if 0≤x3 then(if x3≤(x0.length:Int) then((some (x0.take (x3:Int).toNat:List (S47))).bind fun y239=>(impl_IsSheet.l1 k x0 x10 x11 x12 y239 (y239.length:Int) 0 x236000 x236001 x236002)) else(none)) else(none))
def impl_IsSheet.l1:Nat→List (S47)→List (S47)→Int→Int→List (S47)→Int→Int→Int→Int→Int→Option (Bool)
 | 0,_,_,_,_,_,_,_,_,_,_=>none
 | k+1,x0,x10,x11,x12,x36,x37,x38,x236000,x236001,x236002=>if x38<x37 then(if 0≤x38 then(if x38<(x36.length:Int) then(if((rd_T47 x36 x38).f0)=x236000 then(if((rd_T47 x36 x38).f2)≥x236001 then(some false) else(impl_IsSheet.l1 k x0 x10 x11 x12 x36 x37 (wrap64 (x38+1)) x236000 x236001 x236002)) else(impl_IsSheet.l1 k x0 x10 x11 x12 x36 x37 (wrap64 (x38+1)) x236000 x236001 x236002)) else(none)) else(none)) else(impl_IsSheet.l0 k x0 x10 x11 (wrap64 (x12+1)))
end
def impl_IsSheet.f (k:Nat) (l0:List (S47)):Option (Bool):=if(l0.length:Int)>60 then(some false) else(impl_IsSheet.l0 k l0 l0 (l0.length:Int) 0)
theorem impl_IsSheet.mono_l:∀k,(∀y0 y1 y2 y3,LeO (impl_IsSheet.l0 k y0 y1 y2 y3) (impl_IsSheet.l0 (k+1) y0 y1 y2 y3))∧(∀y0 y1 y2 y3 y4 y5 y6 y7 y8,LeO (impl_IsSheet.j1 k y0 y1 y2 y3 y4 y5 y6 y7 y8) (impl_IsSheet.j1 (k+1) y0 y1 y2 y3 y4 y5 y6 y7 y8))∧(∀y0 y1 y2 y3 y4 y5 y6 y7 y8 y9,LeO (impl_IsSheet.l1 k y0 y1 y2 y3 y4 y5 y6 y7 y8 y9) (impl_IsSheet.l1 (k+1) y0 y1 y2 y3 y4 y5 y6 y7 y8 y9))
 | 0=>⟨fun _ _ _ _ r h=>by simp[impl_IsSheet.l0]at h,fun _ _ _ _ _ _ _ _ _ r h=>by simp[impl_IsSheet.j1]at h,fun _ _ _ _ _ _ _ _ _ _ r h=>by simp[impl_IsSheet.l1]at h⟩
 | k+1=>by
  obtain⟨ih0,ih1,ih2⟩:=impl_IsSheet.mono_l k
  refine⟨?_,?_,?_⟩
  ·intro y0 y1 y2 y3
   unfold impl_IsSheet.l0
   repeat' first
   | (with_reducible exact ih0 _ _ _ _)
   | (with_reducible exact ih1 _ _ _ _ _ _ _ _ _)
   | (with_reducible exact ih2 _ _ _ _ _ _ _ _ _ _)
   | (with_reducible exact LeO.refl _)
   | (with_reducible exact LeO.none _)
   | (with_reducible refine LeO.ite ?_ ?_)
   | (with_reducible refine LeO.bind ?_ (fun _=>?_))
   | exact ih0 _ _ _ _
   | exact ih1 _ _ _ _ _ _ _ _ _
   | exact ih2 _ _ _ _ _ _ _ _ _ _
   | exact LeO.none _
   | refine LeO.ite ?_ ?_
   | refine LeO.bind ?_ (fun _=>?_)
  ·intro y0 y1 y2 y3 y4 y5 y6 y7 y8
   unfold impl_IsSheet.j1
   repeat' first
   | (with_reducible exact ih0 _ _ _ _)
   | (with_reducible exact ih1 _ _ _ _ _ _ _ _ _)
   | (with_reducible exact ih2 _ _ _ _ _ _ _ _ _ _)
   | (with_reducible exact LeO.refl _)
   | (with_reducible exact LeO.none _)
   | (with_reducible refine LeO.ite ?_ ?_)
   | (with_reducible refine LeO.bind ?_ (fun _=>?_))
   | exact ih0 _ _ _ _
   | exact ih1 _ _ _ _ _ _ _ _ _
   | exact ih2 _ _ _ _ _ _ _ _ _ _
   | exact LeO.none _
   | refine LeO.ite ?_ ?_
   | refine LeO.bind ?_ (fun _=>?_)
  ·intro y0 y1 y2 y3 y4 y5 y6 y7 y8 y9
   unfold impl_IsSheet.l1
   repeat' first
   | (with_reducible exact ih0 _ _ _ _)
   | (with_reducible exact ih1 _ _ _ _ _ _ _ _ _)
   | (with_reducible exact ih2 _ _ _ _ _ _ _ _ _ _)
   | (with_reducible exact LeO.refl _)
   | (with_reducible exact LeO.none _)
   | (with_reducible refine LeO.ite ?_ ?_)
   | (with_reducible refine LeO.bind ?_ (fun _=>?_))
   | exact ih0 _ _ _ _
   | exact ih1 _ _ _ _ _ _ _ _ _
   | exact ih2 _ _ _ _ _ _ _ _ _ _
   | exact LeO.none _
   | refine LeO.ite ?_ ?_
   | refine LeO.bind ?_ (fun _=>?_)
theorem impl_IsSheet.mono:∀a0 k,LeO (impl_IsSheet.f k a0) (impl_IsSheet.f (k+1) a0):=by
 intro a0 k
 obtain⟨ih0,ih1,ih2⟩:=impl_IsSheet.mono_l k
 unfold impl_IsSheet.f
 repeat' first
  | (with_reducible exact ih0 _ _ _ _)
  | (with_reducible exact ih1 _ _ _ _ _ _ _ _ _)
  | (with_reducible exact ih2 _ _ _ _ _ _ _ _ _ _)
  | (with_reducible exact LeO.refl _)
  | (with_reducible exact LeO.none _)
  | (with_reducible refine LeO.ite ?_ ?_)
  | (with_reducible refine LeO.bind ?_ (fun _=>?_))
  | exact ih0 _ _ _ _
  | exact ih1 _ _ _ _ _ _ _ _ _
  | exact ih2 _ _ _ _ _ _ _ _ _ _
  | exact LeO.none _
  | refine LeO.ite ?_ ?_
  | refine LeO.bind ?_ (fun _=>?_)
def impl_IsSheet.T6:Bool×List (List Nat×List Nat):=(true, [([], []),([0], [0]),([1], [1]),([2,1], [2]),([3], [3]),([4,3], [3,4]),([5,3,3], [3,5]),([6], [6]),([6], [6]),([8,6], [6,8]),([7,9,6], [6,7,9]),([10,6], [6,10]),([6], [6]),([11,12,6,6], [6,11,12]),([13,6], [6,13]),([6,14,3], [3,6,14]),([3,15], [3,15])])
def impl_IsSheet.B6:List Nat:=[0,1,3,7,15,31,63,127,127,383,1023,2047,127,8191,16383,32767,65535]
theorem impl_IsSheet.tab6:rtab .any (opsOf Try.f35 6)=impl_IsSheet.T6:=by kernel_rfl
theorem impl_IsSheet.bits6:waitsOk impl_IsSheet.T6.2 impl_IsSheet.B6=true:=by kernel_rfl
set_option maxHeartbeats 8000000 in
set_option maxRecDepth 100000 in
theorem impl_IsSheet.calls (k:Nat) (A0:Option Addr) (c0:Nat) (l0:List (S47)) (r:Bool) (w:World) (hr0:Kd.C k47 w A0 l0.length l0) (hc0:l0.length≤c0) (h:impl_IsSheet.f k l0=some r) :
 Calls Try.prog 35 #[.slice A0 l0.length c0] w fun e w'=>e = .returned (.bool r)∧Below w.heap.size w w':=by
 have hu47:=Try.underlying47
 have HR0:=am_ hr0
 have HC0:=am_ hc0
 clear hr0 hc0
 have HB:=am_ (Below.refl w.heap.size w)
 have H:(if(l0.length:Int)>60 then(some false) else(impl_IsSheet.l0 k l0 l0 (l0.length:Int) 0))=some r:=h
 clear h
 by_cases c2:(l0.length:Int)>60
 ·rw[if_pos c2]at H
  have c2b0:decide (60<(l0.length:Int))=true:=decide_eq_true c2
  have c2b1:decide (60<l0.length)=true:=decide_eq_true (by omega)
  clear c2
  obtain rfl:=Option.some.inj H
  go_enter Try.func35,Try.ntmps35
  go_wp2
  go_ret
  exact⟨a5_,a0_⟩
 ·rw[if_neg c2]at H
  have c2b0:decide (60<(l0.length:Int))=false:=decide_eq_false c2
  have c2b1:decide (60<l0.length)=false:=decide_eq_false (by omega)
  clear c2
  have H':=am_ H
  clear H
  go_enter Try.func35,Try.ntmps35
  go_wp2
  go_loopg [12] k (fun kq v12 w'=>∃(x12_1:Int),v12 = .int .i64 x12_1∧Aside0 (impl_IsSheet.l0 kq l0 l0 (l0.length:Int) x12_1=some r)∧Aside0 (kq≤k)∧Aside0 (Below w.heap.size w w'))
  case atStart=>exact⟨(0),(a6_),H',⟨Nat.le_refl _⟩,⟨a0_⟩⟩
  case round=>
   clear H'
   try clear c2
   try clear c2b0
   try clear c2b1
   try clear p2
   obtain⟨x12_1,rfl,HA,HK1,HB⟩:=hrel
   cases gk with
   | zero=>exact absurd HA.out (by simp[impl_IsSheet.l0])
   | succ k1=>
    have H:=HA.out
    clear HA
    simp only[impl_IsSheet.l0]at H
    by_cases c3:x12_1<(l0.length:Int)
    ·rw[if_pos c3]at H
     have c3b0:decide (x12_1<(l0.length:Int))=true:=decide_eq_true c3
     clear c3
     by_cases c4:0≤x12_1
     ·rw[if_pos c4]at H
      have c4b0:decide (0≤x12_1)=true:=decide_eq_true c4
      clear c4
      by_cases c5:x12_1<(l0.length:Int)
      ·rw[if_pos c5]at H
       have c5b0:decide (x12_1<(l0.length:Int))=true:=decide_eq_true c5
       clear c5
       have HC6:=am_ H
       clear H
       have p234:0≤(x12_1:Int):=of_decide_eq_true (a4_)
       have q234:x12_1<(l0.length:Int):=of_decide_eq_true (a4_)
       obtain⟨ad234,e234,hx234_0,hx234_1,hx234_2⟩:=at_T47 HR0.out x12_1 p234 q234
       cases e234
       replace hx234_0:=(HB.out.cell (World.block_lt_of_cell? w _ hx234_0)).trans hx234_0
       replace hx234_1:=(HB.out.cell (World.block_lt_of_cell? w _ hx234_1)).trans hx234_1
       replace hx234_2:=(HB.out.cell (World.block_lt_of_cell? w _ hx234_2)).trans hx234_2
       replace p234:=eq_true p234
       replace q234:=eq_true q234
       go_upto_region 6 with (first | ((with_reducible refine gate_dst (N:=4) rfl ?_);refine box_event ?hg (N:=4) ?hd (cs:= #[.int .i64 0, .int .i64 0, .int .i64 0]) (t:=47) ?hr ?_;(case hd=>rfl);(case hg=>rfl);(case hr=>exact a12_);intro gb235 hg w7 hbox hb;have BK235:=am_ (hbox);have GW235:=am_ ((by rw[hg];exact(below_size (a0_)):w.heap.size≤gb235));have GE235:=am_ ((by rw[hg];exact(below_size (a0_)):w.heap.size≤gb235));replace HB:=am_ (below_step (a0_) hb);clear hb hbox hg;have hcz8_0:w7.cell? ⟨gb235,0,none⟩=some (.int .i64 0):=(blk_cell BK235.out 0).trans rfl;have hcz8_1:w7.cell? ⟨gb235,1,none⟩=some (.int .i64 0):=(blk_cell BK235.out 1).trans rfl;have hcz8_2:w7.cell? ⟨gb235,2,none⟩=some (.int .i64 0):=(blk_cell BK235.out 2).trans rfl;have hfz8_0:=blk_frozen BK235.out 0;have hfz8_1:=blk_frozen BK235.out 1;have hfz8_2:=blk_frozen BK235.out 2))
       (try simp only[Act.put,List.setIfInBounds_toArray,List.set_cons_zero,List.set_cons_succ])
       go_cut [33] (fun v33 wc=>∃(kq:Nat) (x33_5:Bool),v33 = .bool x33_5∧Aside0 (impl_IsSheet.j1 kq l0 x12_1 l0 (l0.length:Int) x12_1 x33_5 ((rd_T47 l0 x12_1).f0) ((rd_T47 l0 x12_1).f1) ((rd_T47 l0 x12_1).f2)=some r)∧Aside0 (kq≤k1)∧Aside0 (wc.heap[gb235]? = some (.cells #[.int .i64 ((rd_T47 l0 x12_1).f0), .int .i64 ((rd_T47 l0 x12_1).f1), .int .i64 ((rd_T47 l0 x12_1).f2)] 47 (0,0)))∧Aside0 (Below w.heap.size w wc))
       case first=>
        have H:=HC6.out
        clear HC6
        replace H:=Option.bind_eq_some_iff.mp H
        obtain⟨t236,A90,H⟩:=H
        replace H:(if t236=true then(if x12_1>0 then(if 0≤(wrap64 (x12_1-1)) then(if(wrap64 (x12_1-1))<(l0.length:Int) then((impl_holeLess.f ((rd_T47 l0 (wrap64 (x12_1-1))).f0) ((rd_T47 l0 (wrap64 (x12_1-1))).f1) ((rd_T47 l0 (wrap64 (x12_1-1))).f2) ((rd_T47 l0 x12_1).f0) ((rd_T47 l0 x12_1).f1) ((rd_T47 l0 x12_1).f2)).bind fun t238=>(impl_IsSheet.j1 k1 l0 x12_1 l0 (l0.length:Int) x12_1 (!t238) ((rd_T47 l0 x12_1).f0) ((rd_T47 l0 x12_1).f1) ((rd_T47 l0 x12_1).f2))) else(none)) else(none)) else(impl_IsSheet.j1 k1 l0 x12_1 l0 (l0.length:Int) x12_1 false ((rd_T47 l0 x12_1).f0) ((rd_T47 l0 x12_1).f1) ((rd_T47 l0 x12_1).f2))) else(impl_IsSheet.j1 k1 l0 x12_1 l0 (l0.length:Int) x12_1 true ((rd_T47 l0 x12_1).f0) ((rd_T47 l0 x12_1).f1) ((rd_T47 l0 x12_1).f2)))=some r:=H
        have A9:=am_ A90
        clear A90
        by_cases c10:t236=true
        ·subst c10
         replace H:(if x12_1>0 then(if 0≤(wrap64 (x12_1-1)) then(if(wrap64 (x12_1-1))<(l0.length:Int) then((impl_holeLess.f ((rd_T47 l0 (wrap64 (x12_1-1))).f0) ((rd_T47 l0 (wrap64 (x12_1-1))).f1) ((rd_T47 l0 (wrap64 (x12_1-1))).f2) ((rd_T47 l0 x12_1).f0) ((rd_T47 l0 x12_1).f1) ((rd_T47 l0 x12_1).f2)).bind fun t238=>(impl_IsSheet.j1 k1 l0 x12_1 l0 (l0.length:Int) x12_1 (!t238) ((rd_T47 l0 x12_1).f0) ((rd_T47 l0 x12_1).f1) ((rd_T47 l0 x12_1).f2))) else(none)) else(none)) else(impl_IsSheet.j1 k1 l0 x12_1 l0 (l0.length:Int) x12_1 false ((rd_T47 l0 x12_1).f0) ((rd_T47 l0 x12_1).f1) ((rd_T47 l0 x12_1).f2)))=some r:=by rw[if_pos rfl]at H;exact H
         by_cases c11:x12_1>0
         ·rw[if_pos c11]at H
          have c11b0:decide (0<x12_1)=true:=decide_eq_true c11
          clear c11
          (first | rw[c11b0] | (simp only[i64_w,i32_w];rw[c11b0]) | skip)
          obtain⟨ji12,hji12⟩:∃j_:Int,(wrap64 (x12_1-1))=j_:=⟨_,rfl⟩
          replace H:(if 0≤(ji12) then(if(ji12)<(l0.length:Int) then((impl_holeLess.f ((rd_T47 l0 (ji12)).f0) ((rd_T47 l0 (ji12)).f1) ((rd_T47 l0 (ji12)).f2) ((rd_T47 l0 x12_1).f0) ((rd_T47 l0 x12_1).f1) ((rd_T47 l0 x12_1).f2)).bind fun t238=>(impl_IsSheet.j1 k1 l0 x12_1 l0 (l0.length:Int) x12_1 (!t238) ((rd_T47 l0 x12_1).f0) ((rd_T47 l0 x12_1).f1) ((rd_T47 l0 x12_1).f2))) else(none)) else(none))=some r:=by first | (rw[hji12]at H;exact H) | (simp only[hji12]at H ⊢;exact H)
          (try rw[hji12]at A9)
          have hji12w:(IntKind.i64.wrap (x12_1-1))=ji12:=(i64_w _).trans hji12
          by_cases c13:0≤(ji12)
          ·rw[if_pos c13]at H
           have c13b0:decide (0≤(ji12))=true:=decide_eq_true c13
           clear c13
           by_cases c14:(ji12)<(l0.length:Int)
           ·rw[if_pos c14]at H
            have c14b0:decide ((ji12)<(l0.length:Int))=true:=decide_eq_true c14
            clear c14
            replace H:=Option.bind_eq_some_iff.mp H
            obtain⟨t238,A150,H⟩:=H
            replace H:(impl_IsSheet.j1 k1 l0 x12_1 l0 (l0.length:Int) x12_1 (!t238) ((rd_T47 l0 x12_1).f0) ((rd_T47 l0 x12_1).f1) ((rd_T47 l0 x12_1).f2))=some r:=H
            have A15:=am_ A150
            clear A150
            have H':=am_ H
            clear H
            try go_wp2
            have n0_:Aside0 ((((w7.setCell ⟨gb235,0,none⟩ (.int .i64 ((rd_T47 l0 x12_1).f0))).setCell ⟨gb235,1,none⟩ (.int .i64 ((rd_T47 l0 x12_1).f1))).setCell ⟨gb235,2,none⟩ (.int .i64 ((rd_T47 l0 x12_1).f2))).heap[gb235]? = some (.cells #[.int .i64 ((rd_T47 l0 x12_1).f0), .int .i64 ((rd_T47 l0 x12_1).f1), .int .i64 ((rd_T47 l0 x12_1).f2)] 47 (0,0))):=⟨(a15_ BK235.out)⟩
            have n1_:Aside0 (Below w.heap.size w (((w7.setCell ⟨gb235,0,none⟩ (.int .i64 ((rd_T47 l0 x12_1).f0))).setCell ⟨gb235,1,none⟩ (.int .i64 ((rd_T47 l0 x12_1).f1))).setCell ⟨gb235,2,none⟩ (.int .i64 ((rd_T47 l0 x12_1).f2)))):=⟨(a1_ GE235.out)⟩
            (try clear BK235)
            (try clear HB)
            generalize (((w7.setCell ⟨gb235,0,none⟩ (.int .i64 ((rd_T47 l0 x12_1).f0))).setCell ⟨gb235,1,none⟩ (.int .i64 ((rd_T47 l0 x12_1).f1))).setCell ⟨gb235,2,none⟩ (.int .i64 ((rd_T47 l0 x12_1).f2)))=w16 at n0_ n1_ ⊢
            have BK235:=n0_
            have HB:=n1_
            clear n0_ n1_
            replace BK235:=am_ (blk_drew BK235.out)
            replace HB:=am_ (below_drew1 HB.out)
            have p237:0≤((ji12):Int):=of_decide_eq_true (a4_)
            have q237:(ji12)<(l0.length:Int):=of_decide_eq_true (a4_)
            obtain⟨ad237,e237,hx237_0,hx237_1,hx237_2⟩:=at_T47 HR0.out (ji12) p237 q237
            have hw237_2:=hx237_2
            have hw237_1:=hx237_1
            have hw237_0:=hx237_0
            obtain rfl:ad234=ad237:=(by injection e237)
            replace hx237_0:=(HB.out.cell (World.block_lt_of_cell? w _ hx237_0)).trans hx237_0
            replace hx237_1:=(HB.out.cell (World.block_lt_of_cell? w _ hx237_1)).trans hx237_1
            replace hx237_2:=(HB.out.cell (World.block_lt_of_cell? w _ hx237_2)).trans hx237_2
            replace p237:=eq_true p237
            replace q237:=eq_true q237
            refine start_ (n:=17) (S:=fun w'=>w'.cell? ⟨gb235,0,none⟩=some (.int .i64 ((rd_T47 l0 x12_1).f0))∧w'.cell? ⟨gb235,1,none⟩=some (.int .i64 ((rd_T47 l0 x12_1).f1))∧w'.cell? ⟨gb235,2,none⟩=some (.int .i64 ((rd_T47 l0 x12_1).f2))∧w'.cell? (ad234.add (((ji12)).toNat*3))=some (.int .i64 ((rd_T47 l0 (ji12)).f0))∧w'.cell? ⟨(ad234.add (((ji12)).toNat*3)).block,(ad234.add (((ji12)).toNat*3)).off+1,none⟩=some (.int .i64 ((rd_T47 l0 (ji12)).f1))∧w'.cell? ⟨(ad234.add (((ji12)).toNat*3)).block,(ad234.add (((ji12)).toNat*3)).off+2,none⟩=some (.int .i64 ((rd_T47 l0 (ji12)).f2))) (ds:=[]) #[false,false,false,false,false,false,false,false,false,false,false,false,false,false,false,false,false] (by kernel_rfl) rfl rfl ⟨(blk_cell BK235.out 0).trans rfl,(blk_cell BK235.out 1).trans rfl,(blk_cell BK235.out 2).trans rfl,((HB.out.cell (World.block_lt_of_cell? w _ hw237_0)).trans hw237_0),((HB.out.cell (World.block_lt_of_cell? w _ hw237_1)).trans hw237_1),((HB.out.cell (World.block_lt_of_cell? w _ hw237_2)).trans hw237_2)⟩ (fun hHeld=>?_);refine with_tabW impl_IsSheet.tab6 impl_IsSheet.bits6 (fun HT_ HW_=>?_)
            generalize w16.drew=w17 at BK235 HB hx237_0 hx237_1 hx237_2 hHeld ⊢
            refine take_ (i:=0) (N:=some 17) (v:=?_) (a':=?_) #[true,false,false,false,false,false,false,false,false,false,false,false,false,false,false,false,false] rfl rfl (take_ofW HT_.out HW_.out (by kernel_rfl)) (fun _ _ _ h=>h) (Or.inl ⟨by rfl,?_⟩) hHeld ?_ ?_
            rotate_left
            ·rintro w' ⟨s0,s1,s2,s3,s4,s5⟩
             go_simp
             with_reducible rfl
            rotate_left
            ·simp only[Act.put,pu_]
             rfl
            refine one_ (i:=1) (N:=some 18) #[true,true,false,false,false,false,false,false,false,false,false,false,false,false,false,false,false] rfl rfl (one_of HT_.out (by kernel_rfl)) (by decide) (fun K hK=>?_)
            refine goes_ Try.func43 (by kernel_rfl) rfl #[.agg #[.int .i64 ((rd_T47 l0 x12_1).f0), .int .i64 ((rd_T47 l0 x12_1).f1), .int .i64 ((rd_T47 l0 x12_1).f2)]] (by rfl) rfl rfl (by(try simp only[List.map_toArray,List.map_cons,List.map_nil]);first | done | rfl | (simp only[List.length_drop,List.length_take];rfl)) ?_
            with_reducible refine(impl_IsHole.calls ((rd_T47 l0 x12_1).f0) ((rd_T47 l0 x12_1).f1) ((rd_T47 l0 x12_1).f2) true _ A9.out).mono ?_
            rintro e w18 ⟨rfl,hb⟩
            refine⟨_,rfl,?_⟩
            replace BK235:=am_ (blk_below (g:=gb235) (o:= .cells #[.int .i64 ((rd_T47 l0 x12_1).f0), .int .i64 ((rd_T47 l0 x12_1).f1), .int .i64 ((rd_T47 l0 x12_1).f2)] 47 (0,0)) ((a3_ BK235.out)) hb)
            replace HB:=am_ (below_step ((a1_ GE235.out)) hb)
            (try clear hb)
            (try clear hb2)
            (try clear hk)
            (try clear hi)
            refine hK.out _ _ ⟨(blk_cell BK235.out 0).trans rfl,(blk_cell BK235.out 1).trans rfl,(blk_cell BK235.out 2).trans rfl,((HB.out.cell (World.block_lt_of_cell? w _ hw237_0)).trans hw237_0),((HB.out.cell (World.block_lt_of_cell? w _ hw237_1)).trans hw237_1),((HB.out.cell (World.block_lt_of_cell? w _ hw237_2)).trans hw237_2)⟩ (fun hHeld=>?_)
            clear hK K
            refine norm_ (a':=?_) ?_ ?_
            rotate_left
            ·show Act.put _ (some 18) _=_
             simp only[Act.put,pu_]
             rfl
            refine pure_ (i:=2) (N:=some 19) (v:=?_) (a':=?_) #[true,true,true,false,false,false,false,false,false,false,false,false,false,false,false,false,false] rfl rfl (any_of HT_.out (by kernel_rfl)) (fun _ _ _ h=>h) (Or.inl ⟨by rfl,?_⟩) ?_ ?_
            rotate_left
            ·intro w'
             go_simp
             with_reducible rfl
            rotate_left
            ·simp only[Act.put,pu_]
             rfl
            refine pure_ (i:=3) (N:=some 20) (v:=?_) (a':=?_) #[true,true,true,true,false,false,false,false,false,false,false,false,false,false,false,false,false] rfl rfl (any_of HT_.out (by kernel_rfl)) (fun _ _ _ h=>h) (Or.inl ⟨by rfl,?_⟩) ?_ ?_
            rotate_left
            ·intro w'
             go_simp
             with_reducible rfl
            rotate_left
            ·simp only[Act.put,pu_]
             rfl
            refine pure_ (i:=4) (N:=some 21) (v:=?_) (a':=?_) #[true,true,true,true,true,false,false,false,false,false,false,false,false,false,false,false,false] rfl rfl (any_of HT_.out (by kernel_rfl)) (fun _ _ _ h=>h) (Or.inl ⟨by rfl,?_⟩) ?_ ?_
            rotate_left
            ·intro w'
             go_simp
             with_reducible rfl
            rotate_left
            ·simp only[Act.put,pu_]
             rfl
            refine pure_ (i:=5) (N:=some 22) (v:=?_) (a':=?_) #[true,true,true,true,true,true,false,false,false,false,false,false,false,false,false,false,false] rfl rfl (any_of HT_.out (by kernel_rfl)) (fun _ _ _ h=>h) (Or.inl ⟨by rfl,?_⟩) ?_ ?_
            rotate_left
            ·intro w'
             go_simp
             with_reducible rfl
            rotate_left
            ·simp only[Act.put,pu_]
             rfl
            refine pure_ (i:=6) (N:=some 23) (v:=?_) (a':=?_) #[true,true,true,true,true,true,true,false,false,false,false,false,false,false,false,false,false] rfl rfl (any_of HT_.out (by kernel_rfl)) (fun _ _ _ h=>h) (Or.inl ⟨by rfl,?_⟩) ?_ ?_
            rotate_left
            ·intro w'
             go_simp
             with_reducible rfl
            rotate_left
            ·simp only[Act.put,pu_]
             rfl
            refine pure_ (i:=7) (N:=some 24) (v:=?_) (a':=?_) #[true,true,true,true,true,true,true,true,false,false,false,false,false,false,false,false,false] rfl rfl (any_of HT_.out (by kernel_rfl)) (fun _ _ _ h=>h) (Or.inl ⟨by rfl,?_⟩) ?_ ?_
            rotate_left
            ·intro w'
             go_simp
             with_reducible rfl
            rotate_left
            ·simp only[Act.put,pu_]
             rfl
            refine pure_ (i:=8) (N:=some 25) (v:=?_) (a':=?_) #[true,true,true,true,true,true,true,true,true,false,false,false,false,false,false,false,false] rfl rfl (any_of HT_.out (by kernel_rfl)) (fun _ _ _ h=>h) (Or.inl ⟨by rfl,?_⟩) ?_ ?_
            rotate_left
            ·intro w'
             go_simp
             with_reducible rfl
            rotate_left
            ·simp only[Act.put,pu_]
             rfl
            refine pure_ (i:=9) (N:=some 26) (v:=?_) (a':=?_) #[true,true,true,true,true,true,true,true,true,true,false,false,false,false,false,false,false] rfl rfl (any_of HT_.out (by kernel_rfl)) (fun _ _ _ h=>h) (Or.inl ⟨by rfl,?_⟩) ?_ ?_
            rotate_left
            ·intro w'
             go_simp
             with_reducible rfl
            rotate_left
            ·simp only[Act.put,pu_]
             rfl
            refine pure_ (i:=10) (N:=some 27) (v:=?_) (a':=?_) #[true,true,true,true,true,true,true,true,true,true,true,false,false,false,false,false,false] rfl rfl (any_of HT_.out (by kernel_rfl)) (fun _ _ _ h=>h) (Or.inl ⟨by rfl,?_⟩) ?_ ?_
            rotate_left
            ·intro w'
             go_simp
             with_reducible rfl
            rotate_left
            ·simp only[Act.put,pu_]
             rfl
            refine take_ (i:=11) (N:=some 28) (v:=?_) (a':=?_) #[true,true,true,true,true,true,true,true,true,true,true,true,false,false,false,false,false] rfl rfl (take_ofW HT_.out HW_.out (by kernel_rfl)) (fun _ _ _ h=>h) (Or.inl ⟨by rfl,?_⟩) hHeld ?_ ?_
            rotate_left
            ·rintro w' ⟨s0,s1,s2,s3,s4,s5⟩
             go_simp
             with_reducible rfl
            rotate_left
            ·simp only[Act.put,pu_]
             rfl
            refine take_ (i:=12) (N:=some 29) (v:=?_) (a':=?_) #[true,true,true,true,true,true,true,true,true,true,true,true,true,false,false,false,false] rfl rfl (take_ofW HT_.out HW_.out (by kernel_rfl)) (fun _ _ _ h=>h) (Or.inl ⟨by rfl,?_⟩) hHeld ?_ ?_
            rotate_left
            ·rintro w' ⟨s0,s1,s2,s3,s4,s5⟩
             go_simp
             with_reducible rfl
            rotate_left
            ·simp only[Act.put,pu_]
             rfl
            refine one_ (i:=13) (N:=some 30) #[true,true,true,true,true,true,true,true,true,true,true,true,true,true,false,false,false] rfl rfl (one_of HT_.out (by kernel_rfl)) (by decide) (fun K hK=>?_)
            refine goes_ Try.func44 (by kernel_rfl) rfl #[.agg #[.int .i64 ((rd_T47 l0 (ji12)).f0), .int .i64 ((rd_T47 l0 (ji12)).f1), .int .i64 ((rd_T47 l0 (ji12)).f2)], .agg #[.int .i64 ((rd_T47 l0 x12_1).f0), .int .i64 ((rd_T47 l0 x12_1).f1), .int .i64 ((rd_T47 l0 x12_1).f2)]] (by rfl) rfl rfl (by(try simp only[List.map_toArray,List.map_cons,List.map_nil]);first | done | (simp only[hji12];rfl) | rfl | (simp only[List.length_drop,List.length_take];rfl)) ?_
            with_reducible refine(impl_holeLess.calls ((rd_T47 l0 (ji12)).f0) ((rd_T47 l0 (ji12)).f1) ((rd_T47 l0 (ji12)).f2) ((rd_T47 l0 x12_1).f0) ((rd_T47 l0 x12_1).f1) ((rd_T47 l0 x12_1).f2) t238 _ A15.out).mono ?_
            rintro e w19 ⟨rfl,hb⟩
            refine⟨_,rfl,?_⟩
            replace BK235:=am_ (blk_below (g:=gb235) (o:= .cells #[.int .i64 ((rd_T47 l0 x12_1).f0), .int .i64 ((rd_T47 l0 x12_1).f1), .int .i64 ((rd_T47 l0 x12_1).f2)] 47 (0,0)) ((a3_ BK235.out)) hb)
            replace HB:=am_ (below_step ((a1_ GE235.out)) hb)
            (try clear hb)
            (try clear hb2)
            (try clear hk)
            (try clear hi)
            refine hK.out _ _ ⟨(blk_cell BK235.out 0).trans rfl,(blk_cell BK235.out 1).trans rfl,(blk_cell BK235.out 2).trans rfl,((HB.out.cell (World.block_lt_of_cell? w _ hw237_0)).trans hw237_0),((HB.out.cell (World.block_lt_of_cell? w _ hw237_1)).trans hw237_1),((HB.out.cell (World.block_lt_of_cell? w _ hw237_2)).trans hw237_2)⟩ (fun hHeld=>?_)
            clear hK K
            refine norm_ (a':=?_) ?_ ?_
            rotate_left
            ·show Act.put _ (some 30) _=_
             simp only[Act.put,pu_]
             rfl
            refine pure_ (i:=14) (N:=some 31) (v:=?_) (a':=?_) #[true,true,true,true,true,true,true,true,true,true,true,true,true,true,true,false,false] rfl rfl (any_of HT_.out (by kernel_rfl)) (fun _ _ _ h=>h) (Or.inl ⟨by rfl,?_⟩) ?_ ?_
            rotate_left
            ·intro w'
             go_simp
             with_reducible rfl
            rotate_left
            ·simp only[Act.put,pu_]
             rfl
            refine pure_ (i:=15) (N:=some 32) (v:=?_) (a':=?_) #[true,true,true,true,true,true,true,true,true,true,true,true,true,true,true,true,false] rfl rfl (any_of HT_.out (by kernel_rfl)) (fun _ _ _ h=>h) (Or.inl ⟨by rfl,?_⟩) ?_ ?_
            rotate_left
            ·intro w'
             go_simp
             with_reducible rfl
            rotate_left
            ·simp only[Act.put,pu_]
             rfl
            refine pure_ (i:=16) (N:=some 33) (v:=?_) (a':=?_) #[true,true,true,true,true,true,true,true,true,true,true,true,true,true,true,true,true] rfl rfl (any_of HT_.out (by kernel_rfl)) (fun _ _ _ h=>h) (Or.inl ⟨by rfl,?_⟩) ?_ ?_
            rotate_left
            ·intro w'
             go_simp
             with_reducible rfl
            rotate_left
            ·simp only[Act.put,pu_]
             rfl
            refine done_ (done_of HT_.out (by kernel_rfl)) ?_
            try go_wp2
            go_meet
            case rel=>exact⟨_,(!t238),(a6_),H',⟨by have:=HK1.out;first | omega | exact Nat.le_refl _⟩,⟨(a3_ BK235.out)⟩,⟨(a1_ GE235.out)⟩⟩
           ·rw[if_neg c14]at H
            exact absurd H (by simp)
          ·rw[if_neg c13]at H
           exact absurd H (by simp)
         ·rw[if_neg c11]at H
          have c11b0:decide (0<x12_1)=false:=decide_eq_false c11
          clear c11
          (first | rw[c11b0] | (simp only[i64_w,i32_w];rw[c11b0]) | skip)
          have H':=am_ H
          clear H
          try go_wp2
          have n0_:Aside0 ((((w7.setCell ⟨gb235,0,none⟩ (.int .i64 ((rd_T47 l0 x12_1).f0))).setCell ⟨gb235,1,none⟩ (.int .i64 ((rd_T47 l0 x12_1).f1))).setCell ⟨gb235,2,none⟩ (.int .i64 ((rd_T47 l0 x12_1).f2))).heap[gb235]? = some (.cells #[.int .i64 ((rd_T47 l0 x12_1).f0), .int .i64 ((rd_T47 l0 x12_1).f1), .int .i64 ((rd_T47 l0 x12_1).f2)] 47 (0,0))):=⟨(a15_ BK235.out)⟩
          have n1_:Aside0 (Below w.heap.size w (((w7.setCell ⟨gb235,0,none⟩ (.int .i64 ((rd_T47 l0 x12_1).f0))).setCell ⟨gb235,1,none⟩ (.int .i64 ((rd_T47 l0 x12_1).f1))).setCell ⟨gb235,2,none⟩ (.int .i64 ((rd_T47 l0 x12_1).f2)))):=⟨(a1_ GE235.out)⟩
          (try clear BK235)
          (try clear HB)
          generalize (((w7.setCell ⟨gb235,0,none⟩ (.int .i64 ((rd_T47 l0 x12_1).f0))).setCell ⟨gb235,1,none⟩ (.int .i64 ((rd_T47 l0 x12_1).f1))).setCell ⟨gb235,2,none⟩ (.int .i64 ((rd_T47 l0 x12_1).f2)))=w20 at n0_ n1_ ⊢
          have BK235:=n0_
          have HB:=n1_
          clear n0_ n1_
          replace BK235:=am_ (blk_drew BK235.out)
          replace HB:=am_ (below_drew1 HB.out)
          refine start_ (n:=17) (S:=fun w'=>w'.cell? ⟨gb235,0,none⟩=some (.int .i64 ((rd_T47 l0 x12_1).f0))∧w'.cell? ⟨gb235,1,none⟩=some (.int .i64 ((rd_T47 l0 x12_1).f1))∧w'.cell? ⟨gb235,2,none⟩=some (.int .i64 ((rd_T47 l0 x12_1).f2))) (ds:=[]) #[false,false,false,false,false,false,false,false,false,false,false,false,false,false,false,false,false] (by kernel_rfl) rfl rfl ⟨(blk_cell BK235.out 0).trans rfl,(blk_cell BK235.out 1).trans rfl,(blk_cell BK235.out 2).trans rfl⟩ (fun hHeld=>?_);refine with_tabW impl_IsSheet.tab6 impl_IsSheet.bits6 (fun HT_ HW_=>?_)
          generalize w20.drew=w21 at BK235 HB hHeld ⊢
          refine take_ (i:=0) (N:=some 17) (v:=?_) (a':=?_) #[true,false,false,false,false,false,false,false,false,false,false,false,false,false,false,false,false] rfl rfl (take_ofW HT_.out HW_.out (by kernel_rfl)) (fun _ _ _ h=>h) (Or.inl ⟨by rfl,?_⟩) hHeld ?_ ?_
          rotate_left
          ·rintro w' ⟨s0,s1,s2⟩
           go_simp
           with_reducible rfl
          rotate_left
          ·simp only[Act.put,pu_]
           rfl
          refine one_ (i:=1) (N:=some 18) #[true,true,false,false,false,false,false,false,false,false,false,false,false,false,false,false,false] rfl rfl (one_of HT_.out (by kernel_rfl)) (by decide) (fun K hK=>?_)
          refine goes_ Try.func43 (by kernel_rfl) rfl #[.agg #[.int .i64 ((rd_T47 l0 x12_1).f0), .int .i64 ((rd_T47 l0 x12_1).f1), .int .i64 ((rd_T47 l0 x12_1).f2)]] (by rfl) rfl rfl (by(try simp only[List.map_toArray,List.map_cons,List.map_nil]);first | done | rfl | (simp only[List.length_drop,List.length_take];rfl)) ?_
          with_reducible refine(impl_IsHole.calls ((rd_T47 l0 x12_1).f0) ((rd_T47 l0 x12_1).f1) ((rd_T47 l0 x12_1).f2) true _ A9.out).mono ?_
          rintro e w22 ⟨rfl,hb⟩
          refine⟨_,rfl,?_⟩
          replace BK235:=am_ (blk_below (g:=gb235) (o:= .cells #[.int .i64 ((rd_T47 l0 x12_1).f0), .int .i64 ((rd_T47 l0 x12_1).f1), .int .i64 ((rd_T47 l0 x12_1).f2)] 47 (0,0)) ((a3_ BK235.out)) hb)
          replace HB:=am_ (below_step ((a1_ GE235.out)) hb)
          (try clear hb)
          (try clear hb2)
          (try clear hk)
          (try clear hi)
          refine hK.out _ _ ⟨(blk_cell BK235.out 0).trans rfl,(blk_cell BK235.out 1).trans rfl,(blk_cell BK235.out 2).trans rfl⟩ (fun hHeld=>?_)
          clear hK K
          refine norm_ (a':=?_) ?_ ?_
          rotate_left
          ·show Act.put _ (some 18) _=_
           simp only[Act.put,pu_]
           rfl
          refine pure_ (i:=2) (N:=some 19) (v:=?_) (a':=?_) #[true,true,true,false,false,false,false,false,false,false,false,false,false,false,false,false,false] rfl rfl (any_of HT_.out (by kernel_rfl)) (fun _ _ _ h=>h) (Or.inl ⟨by rfl,?_⟩) ?_ ?_
          rotate_left
          ·intro w'
           go_simp
           with_reducible rfl
          rotate_left
          ·simp only[Act.put,pu_]
           rfl
          refine pure_ (i:=3) (N:=some 20) (v:=?_) (a':=?_) #[true,true,true,true,false,false,false,false,false,false,false,false,false,false,false,false,false] rfl rfl (any_of HT_.out (by kernel_rfl)) (fun _ _ _ h=>h) (Or.inl ⟨by rfl,?_⟩) ?_ ?_
          rotate_left
          ·intro w'
           go_simp
           with_reducible rfl
          rotate_left
          ·simp only[Act.put,pu_]
           rfl
          refine pure_ (i:=4) (N:=some 21) (v:=?_) (a':=?_) #[true,true,true,true,true,false,false,false,false,false,false,false,false,false,false,false,false] rfl rfl (any_of HT_.out (by kernel_rfl)) (fun _ _ _ h=>h) (Or.inl ⟨by rfl,?_⟩) ?_ ?_
          rotate_left
          ·intro w'
           go_simp
           with_reducible rfl
          rotate_left
          ·simp only[Act.put,pu_]
           rfl
          refine pure_ (i:=5) (N:=some 22) (v:=?_) (a':=?_) #[true,true,true,true,true,true,false,false,false,false,false,false,false,false,false,false,false] rfl rfl (any_of HT_.out (by kernel_rfl)) (fun _ _ _ h=>h) (Or.inl ⟨by rfl,?_⟩) ?_ ?_
          rotate_left
          ·intro w'
           go_simp
           with_reducible rfl
          rotate_left
          ·simp only[Act.put,pu_]
           rfl
          refine pure_ (i:=6) (N:=some 23) (v:=?_) (a':=?_) #[true,true,true,true,true,true,true,false,false,false,false,false,false,false,false,false,false] rfl rfl (any_of HT_.out (by kernel_rfl)) (fun _ _ _ h=>h) (Or.inl ⟨by rfl,?_⟩) ?_ ?_
          rotate_left
          ·intro w'
           go_simp
           with_reducible rfl
          rotate_left
          ·simp only[Act.put,pu_]
           rfl
          refine pure_ (i:=7) (N:=some 24) (v:=undef) (a':=?_) #[true,true,true,true,true,true,true,true,false,false,false,false,false,false,false,false,false] rfl rfl (any_of HT_.out (by kernel_rfl)) (fun _ _ _ h=>h) (Or.inr ⟨by rfl,rfl⟩) ?_ ?_
          rotate_left
          ·simp only[Act.put,pu_]
           rfl
          refine pure_ (i:=8) (N:=some 25) (v:=undef) (a':=?_) #[true,true,true,true,true,true,true,true,true,false,false,false,false,false,false,false,false] rfl rfl (any_of HT_.out (by kernel_rfl)) (fun _ _ _ h=>h) (Or.inr ⟨by rfl,rfl⟩) ?_ ?_
          rotate_left
          ·simp only[Act.put,pu_]
           rfl
          refine pure_ (i:=9) (N:=some 26) (v:=undef) (a':=?_) #[true,true,true,true,true,true,true,true,true,true,false,false,false,false,false,false,false] rfl rfl (any_of HT_.out (by kernel_rfl)) (fun _ _ _ h=>h) (Or.inr ⟨by rfl,rfl⟩) ?_ ?_
          rotate_left
          ·simp only[Act.put,pu_]
           rfl
          refine pure_ (i:=10) (N:=some 27) (v:=undef) (a':=?_) #[true,true,true,true,true,true,true,true,true,true,true,false,false,false,false,false,false] rfl rfl (any_of HT_.out (by kernel_rfl)) (fun _ _ _ h=>h) (Or.inr ⟨by rfl,rfl⟩) ?_ ?_
          rotate_left
          ·simp only[Act.put,pu_]
           rfl
          refine pure_ (i:=11) (N:=some 28) (v:=undef) (a':=?_) #[true,true,true,true,true,true,true,true,true,true,true,true,false,false,false,false,false] rfl rfl (any_of HT_.out (by kernel_rfl)) (fun _ _ _ h=>h) (Or.inr ⟨by rfl,rfl⟩) ?_ ?_
          rotate_left
          ·simp only[Act.put,pu_]
           rfl
          refine pure_ (i:=12) (N:=some 29) (v:=undef) (a':=?_) #[true,true,true,true,true,true,true,true,true,true,true,true,true,false,false,false,false] rfl rfl (any_of HT_.out (by kernel_rfl)) (fun _ _ _ h=>h) (Or.inr ⟨by rfl,rfl⟩) ?_ ?_
          rotate_left
          ·simp only[Act.put,pu_]
           rfl
          refine pure_ (i:=13) (N:=some 30) (v:=undef) (a':=?_) #[true,true,true,true,true,true,true,true,true,true,true,true,true,true,false,false,false] rfl rfl (any_of HT_.out (by kernel_rfl)) (fun _ _ _ h=>h) (Or.inr ⟨by rfl,rfl⟩) ?_ ?_
          rotate_left
          ·simp only[Act.put,pu_]
           rfl
          refine pure_ (i:=14) (N:=some 31) (v:=undef) (a':=?_) #[true,true,true,true,true,true,true,true,true,true,true,true,true,true,true,false,false] rfl rfl (any_of HT_.out (by kernel_rfl)) (fun _ _ _ h=>h) (Or.inr ⟨by rfl,rfl⟩) ?_ ?_
          rotate_left
          ·simp only[Act.put,pu_]
           rfl
          refine pure_ (i:=15) (N:=some 32) (v:=?_) (a':=?_) #[true,true,true,true,true,true,true,true,true,true,true,true,true,true,true,true,false] rfl rfl (any_of HT_.out (by kernel_rfl)) (fun _ _ _ h=>h) (Or.inl ⟨by rfl,?_⟩) ?_ ?_
          rotate_left
          ·intro w'
           go_simp
           with_reducible rfl
          rotate_left
          ·simp only[Act.put,pu_]
           rfl
          refine pure_ (i:=16) (N:=some 33) (v:=?_) (a':=?_) #[true,true,true,true,true,true,true,true,true,true,true,true,true,true,true,true,true] rfl rfl (any_of HT_.out (by kernel_rfl)) (fun _ _ _ h=>h) (Or.inl ⟨by rfl,?_⟩) ?_ ?_
          rotate_left
          ·intro w'
           go_simp
           with_reducible rfl
          rotate_left
          ·simp only[Act.put,pu_]
           rfl
          refine done_ (done_of HT_.out (by kernel_rfl)) ?_
          try go_wp2
          go_meet
          case rel=>exact⟨_,(false),(a6_),H',⟨by have:=HK1.out;first | omega | exact Nat.le_refl _⟩,⟨(a3_ BK235.out)⟩,⟨(a1_ GE235.out)⟩⟩
        ·replace c10:=Bool.eq_false_iff.mpr c10
         subst c10
         replace H:(impl_IsSheet.j1 k1 l0 x12_1 l0 (l0.length:Int) x12_1 true ((rd_T47 l0 x12_1).f0) ((rd_T47 l0 x12_1).f1) ((rd_T47 l0 x12_1).f2))=some r:=by rw[if_neg (show ¬(false=true) by decide)]at H;exact H
         have H':=am_ H
         clear H
         try go_wp2
         have n0_:Aside0 ((((w7.setCell ⟨gb235,0,none⟩ (.int .i64 ((rd_T47 l0 x12_1).f0))).setCell ⟨gb235,1,none⟩ (.int .i64 ((rd_T47 l0 x12_1).f1))).setCell ⟨gb235,2,none⟩ (.int .i64 ((rd_T47 l0 x12_1).f2))).heap[gb235]? = some (.cells #[.int .i64 ((rd_T47 l0 x12_1).f0), .int .i64 ((rd_T47 l0 x12_1).f1), .int .i64 ((rd_T47 l0 x12_1).f2)] 47 (0,0))):=⟨(a15_ BK235.out)⟩
         have n1_:Aside0 (Below w.heap.size w (((w7.setCell ⟨gb235,0,none⟩ (.int .i64 ((rd_T47 l0 x12_1).f0))).setCell ⟨gb235,1,none⟩ (.int .i64 ((rd_T47 l0 x12_1).f1))).setCell ⟨gb235,2,none⟩ (.int .i64 ((rd_T47 l0 x12_1).f2)))):=⟨(a1_ GE235.out)⟩
         (try clear BK235)
         (try clear HB)
         generalize (((w7.setCell ⟨gb235,0,none⟩ (.int .i64 ((rd_T47 l0 x12_1).f0))).setCell ⟨gb235,1,none⟩ (.int .i64 ((rd_T47 l0 x12_1).f1))).setCell ⟨gb235,2,none⟩ (.int .i64 ((rd_T47 l0 x12_1).f2)))=w23 at n0_ n1_ ⊢
         have BK235:=n0_
         have HB:=n1_
         clear n0_ n1_
         replace BK235:=am_ (blk_drew BK235.out)
         replace HB:=am_ (below_drew1 HB.out)
         refine start_ (n:=17) (S:=fun w'=>w'.cell? ⟨gb235,0,none⟩=some (.int .i64 ((rd_T47 l0 x12_1).f0))∧w'.cell? ⟨gb235,1,none⟩=some (.int .i64 ((rd_T47 l0 x12_1).f1))∧w'.cell? ⟨gb235,2,none⟩=some (.int .i64 ((rd_T47 l0 x12_1).f2))) (ds:=[]) #[false,false,false,false,false,false,false,false,false,false,false,false,false,false,false,false,false] (by kernel_rfl) rfl rfl ⟨(blk_cell BK235.out 0).trans rfl,(blk_cell BK235.out 1).trans rfl,(blk_cell BK235.out 2).trans rfl⟩ (fun hHeld=>?_);refine with_tabW impl_IsSheet.tab6 impl_IsSheet.bits6 (fun HT_ HW_=>?_)
         generalize w23.drew=w24 at BK235 HB hHeld ⊢
         refine take_ (i:=0) (N:=some 17) (v:=?_) (a':=?_) #[true,false,false,false,false,false,false,false,false,false,false,false,false,false,false,false,false] rfl rfl (take_ofW HT_.out HW_.out (by kernel_rfl)) (fun _ _ _ h=>h) (Or.inl ⟨by rfl,?_⟩) hHeld ?_ ?_
         rotate_left
         ·rintro w' ⟨s0,s1,s2⟩
          go_simp
          with_reducible rfl
         rotate_left
         ·simp only[Act.put,pu_]
          rfl
         refine one_ (i:=1) (N:=some 18) #[true,true,false,false,false,false,false,false,false,false,false,false,false,false,false,false,false] rfl rfl (one_of HT_.out (by kernel_rfl)) (by decide) (fun K hK=>?_)
         refine goes_ Try.func43 (by kernel_rfl) rfl #[.agg #[.int .i64 ((rd_T47 l0 x12_1).f0), .int .i64 ((rd_T47 l0 x12_1).f1), .int .i64 ((rd_T47 l0 x12_1).f2)]] (by rfl) rfl rfl (by(try simp only[List.map_toArray,List.map_cons,List.map_nil]);first | done | rfl | (simp only[List.length_drop,List.length_take];rfl)) ?_
         with_reducible refine(impl_IsHole.calls ((rd_T47 l0 x12_1).f0) ((rd_T47 l0 x12_1).f1) ((rd_T47 l0 x12_1).f2) false _ A9.out).mono ?_
         rintro e w25 ⟨rfl,hb⟩
         refine⟨_,rfl,?_⟩
         replace BK235:=am_ (blk_below (g:=gb235) (o:= .cells #[.int .i64 ((rd_T47 l0 x12_1).f0), .int .i64 ((rd_T47 l0 x12_1).f1), .int .i64 ((rd_T47 l0 x12_1).f2)] 47 (0,0)) ((a3_ BK235.out)) hb)
         replace HB:=am_ (below_step ((a1_ GE235.out)) hb)
         (try clear hb)
         (try clear hb2)
         (try clear hk)
         (try clear hi)
         refine hK.out _ _ ⟨(blk_cell BK235.out 0).trans rfl,(blk_cell BK235.out 1).trans rfl,(blk_cell BK235.out 2).trans rfl⟩ (fun hHeld=>?_)
         clear hK K
         refine norm_ (a':=?_) ?_ ?_
         rotate_left
         ·show Act.put _ (some 18) _=_
          simp only[Act.put,pu_]
          rfl
         refine pure_ (i:=2) (N:=some 19) (v:=?_) (a':=?_) #[true,true,true,false,false,false,false,false,false,false,false,false,false,false,false,false,false] rfl rfl (any_of HT_.out (by kernel_rfl)) (fun _ _ _ h=>h) (Or.inl ⟨by rfl,?_⟩) ?_ ?_
         rotate_left
         ·intro w'
          go_simp
          with_reducible rfl
         rotate_left
         ·simp only[Act.put,pu_]
          rfl
         refine pure_ (i:=3) (N:=some 20) (v:=?_) (a':=?_) #[true,true,true,true,false,false,false,false,false,false,false,false,false,false,false,false,false] rfl rfl (any_of HT_.out (by kernel_rfl)) (fun _ _ _ h=>h) (Or.inl ⟨by rfl,?_⟩) ?_ ?_
         rotate_left
         ·intro w'
          go_simp
          with_reducible rfl
         rotate_left
         ·simp only[Act.put,pu_]
          rfl
         refine pure_ (i:=4) (N:=some 21) (v:=undef) (a':=?_) #[true,true,true,true,true,false,false,false,false,false,false,false,false,false,false,false,false] rfl rfl (any_of HT_.out (by kernel_rfl)) (fun _ _ _ h=>h) (Or.inr ⟨by rfl,rfl⟩) ?_ ?_
         rotate_left
         ·simp only[Act.put,pu_]
          rfl
         refine pure_ (i:=5) (N:=some 22) (v:=undef) (a':=?_) #[true,true,true,true,true,true,false,false,false,false,false,false,false,false,false,false,false] rfl rfl (any_of HT_.out (by kernel_rfl)) (fun _ _ _ h=>h) (Or.inr ⟨by rfl,rfl⟩) ?_ ?_
         rotate_left
         ·simp only[Act.put,pu_]
          rfl
         refine pure_ (i:=6) (N:=some 23) (v:=undef) (a':=?_) #[true,true,true,true,true,true,true,false,false,false,false,false,false,false,false,false,false] rfl rfl (any_of HT_.out (by kernel_rfl)) (fun _ _ _ h=>h) (Or.inr ⟨by rfl,rfl⟩) ?_ ?_
         rotate_left
         ·simp only[Act.put,pu_]
          rfl
         refine pure_ (i:=7) (N:=some 24) (v:=undef) (a':=?_) #[true,true,true,true,true,true,true,true,false,false,false,false,false,false,false,false,false] rfl rfl (any_of HT_.out (by kernel_rfl)) (fun _ _ _ h=>h) (Or.inr ⟨by rfl,rfl⟩) ?_ ?_
         rotate_left
         ·simp only[Act.put,pu_]
          rfl
         refine pure_ (i:=8) (N:=some 25) (v:=undef) (a':=?_) #[true,true,true,true,true,true,true,true,true,false,false,false,false,false,false,false,false] rfl rfl (any_of HT_.out (by kernel_rfl)) (fun _ _ _ h=>h) (Or.inr ⟨by rfl,rfl⟩) ?_ ?_
         rotate_left
         ·simp only[Act.put,pu_]
          rfl
         refine pure_ (i:=9) (N:=some 26) (v:=undef) (a':=?_) #[true,true,true,true,true,true,true,true,true,true,false,false,false,false,false,false,false] rfl rfl (any_of HT_.out (by kernel_rfl)) (fun _ _ _ h=>h) (Or.inr ⟨by rfl,rfl⟩) ?_ ?_
         rotate_left
         ·simp only[Act.put,pu_]
          rfl
         refine pure_ (i:=10) (N:=some 27) (v:=undef) (a':=?_) #[true,true,true,true,true,true,true,true,true,true,true,false,false,false,false,false,false] rfl rfl (any_of HT_.out (by kernel_rfl)) (fun _ _ _ h=>h) (Or.inr ⟨by rfl,rfl⟩) ?_ ?_
         rotate_left
         ·simp only[Act.put,pu_]
          rfl
         refine pure_ (i:=11) (N:=some 28) (v:=undef) (a':=?_) #[true,true,true,true,true,true,true,true,true,true,true,true,false,false,false,false,false] rfl rfl (any_of HT_.out (by kernel_rfl)) (fun _ _ _ h=>h) (Or.inr ⟨by rfl,rfl⟩) ?_ ?_
         rotate_left
         ·simp only[Act.put,pu_]
          rfl
         refine pure_ (i:=12) (N:=some 29) (v:=undef) (a':=?_) #[true,true,true,true,true,true,true,true,true,true,true,true,true,false,false,false,false] rfl rfl (any_of HT_.out (by kernel_rfl)) (fun _ _ _ h=>h) (Or.inr ⟨by rfl,rfl⟩) ?_ ?_
         rotate_left
         ·simp only[Act.put,pu_]
          rfl
         refine pure_ (i:=13) (N:=some 30) (v:=undef) (a':=?_) #[true,true,true,true,true,true,true,true,true,true,true,true,true,true,false,false,false] rfl rfl (any_of HT_.out (by kernel_rfl)) (fun _ _ _ h=>h) (Or.inr ⟨by rfl,rfl⟩) ?_ ?_
         rotate_left
         ·simp only[Act.put,pu_]
          rfl
         refine pure_ (i:=14) (N:=some 31) (v:=undef) (a':=?_) #[true,true,true,true,true,true,true,true,true,true,true,true,true,true,true,false,false] rfl rfl (any_of HT_.out (by kernel_rfl)) (fun _ _ _ h=>h) (Or.inr ⟨by rfl,rfl⟩) ?_ ?_
         rotate_left
         ·simp only[Act.put,pu_]
          rfl
         refine pure_ (i:=15) (N:=some 32) (v:=undef) (a':=?_) #[true,true,true,true,true,true,true,true,true,true,true,true,true,true,true,true,false] rfl rfl (any_of HT_.out (by kernel_rfl)) (fun _ _ _ h=>h) (Or.inr ⟨by rfl,rfl⟩) ?_ ?_
         rotate_left
         ·simp only[Act.put,pu_]
          rfl
         refine pure_ (i:=16) (N:=some 33) (v:=?_) (a':=?_) #[true,true,true,true,true,true,true,true,true,true,true,true,true,true,true,true,true] rfl rfl (any_of HT_.out (by kernel_rfl)) (fun _ _ _ h=>h) (Or.inl ⟨by rfl,?_⟩) ?_ ?_
         rotate_left
         ·intro w'
          go_simp
          with_reducible rfl
         rotate_left
         ·simp only[Act.put,pu_]
          rfl
         refine done_ (done_of HT_.out (by kernel_rfl)) ?_
         try go_wp2
         go_meet
         case rel=>exact⟨_,(true),(a6_),H',⟨by have:=HK1.out;first | omega | exact Nat.le_refl _⟩,⟨(a3_ BK235.out)⟩,⟨(a1_ GE235.out)⟩⟩
       case rest=>
        clear HC6
        try clear c1
        try clear c2
        try clear c2b0
        try clear c2b1
        try clear p2
        try clear q2
        try clear hx2
        try clear c3
        try clear c3b0
        try clear c4
        try clear c4b0
        try clear c5
        try clear c5b0
        try clear p6
        try clear c10
        try clear c11
        try clear c11b0
        try clear c13
        try clear c13b0
        try clear c14
        try clear c14b0
        try clear p23
        try clear q23
        try clear hx23
        try clear hcz8_0
        try clear hcz8_1
        try clear hcz8_2
        try clear hfz8_0
        try clear hfz8_1
        try clear hfz8_2
        try clear hx234_0
        try clear hx234_1
        try clear hx234_2
        try clear hx237_0
        try clear hx237_1
        try clear hx237_2
        try clear p2
        try clear p234
        try clear p237
        try clear q234
        try clear q237
        obtain⟨kq,x33_5,rfl,HA,HJ5,BK235,HB⟩:=hcut
        cases kq with
        | zero=>exact absurd HA.out (by simp[impl_IsSheet.j1])
        | succ kj5=>
         have H:=HA.out
         clear HA
         simp only[impl_IsSheet.j1]at H
         by_cases c26:x33_5=true
         ·subst c26
          replace H:(some false)=some r:=by rw[if_pos rfl]at H;exact H
          obtain rfl:=Option.some.inj H
          go_wp2
          go_ret
          exact⟨a5_,(a1_ GE235.out)⟩
         ·replace c26:=Bool.eq_false_iff.mpr c26
          subst c26
          replace H:(if 0≤x12_1 then(if x12_1≤(l0.length:Int) then((some (l0.take (x12_1:Int).toNat:List (S47))).bind fun y239=>(impl_IsSheet.l1 kj5 l0 l0 (l0.length:Int) x12_1 y239 (y239.length:Int) 0 ((rd_T47 l0 x12_1).f0) ((rd_T47 l0 x12_1).f1) ((rd_T47 l0 x12_1).f2))) else(none)) else(none))=some r:=by rw[if_neg (show ¬(false=true) by decide)]at H;exact H
          by_cases c27:0≤x12_1
          ·rw[if_pos c27]at H
           have c27b0:=eq_true c27
           have c27b1:decide (0≤x12_1)=true:=decide_eq_true c27
           clear c27
           by_cases c28:x12_1≤(l0.length:Int)
           ·rw[if_pos c28]at H
            have c28b0:=eq_true c28
            have c28b1:decide (x12_1≤(l0.length:Int))=true:=decide_eq_true c28
            clear c28
            obtain⟨y239,hy239⟩:∃y_:List (S47),y_=(l0.take (x12_1:Int).toNat):=⟨_,rfl⟩
            replace H:(impl_IsSheet.l1 kj5 l0 l0 (l0.length:Int) x12_1 y239 (y239.length:Int) 0 ((rd_T47 l0 x12_1).f0) ((rd_T47 l0 x12_1).f1) ((rd_T47 l0 x12_1).f2))=some r:=by first | (rw[hy239];with_reducible exact H) | (have H2_:=(Option.bind_some _ _).symm.trans H;rw[hy239];with_reducible exact H2_) | (have H2_:=(Option.bind_some _ _).symm.trans H;with_reducible exact H2_) | with_reducible exact H | (rw[hy239];exact H) | exact H
            have Ny239:=am_ hy239
            clear hy239
            have H':=am_ H
            clear H
            have q29:(x12_1:Int)≤((l0.length:Int):Int):=of_decide_eq_true (a4_)
            obtain⟨i029,hi029,_,hsz29,_⟩:=info_parts info47
            have hroom29:l0.length≤c0:=HC0.out
            have hC29:Kd.C k47 _ (some ad234) l0.length l0:=HR0.out
            have hcut29:=cut_to (P:=Try.prog) 26 47 .i64 Try.underlying26 hi029 (some ad234) l0.length c0 x12_1 (of_decide_eq_true (a4_)) q29 hroom29
            have hr29:=Kd.C_take (m:=(x12_1:Int).toNat) hC29 (by omega)
            have hy29:y239.length=(x12_1:Int).toNat:=(by rw[Ny239.out,List.length_take];omega)
            rw[← Ny239.out]at hr29
            rw[← hy29]at hcut29
            have HR242:=am_ hr29
            have HC242:=am_ (show y239.length≤c0 from by omega)
            clear hr29 hC29 hroom29 hi029 hsz29
            have KY29:=am_ hy29
            clear hy29
            replace q29:=eq_true q29
            go_wp2
            go_loopg [38] kj5 (fun kq v38 w'=>∃(x38_3:Int),v38 = .int .i64 x38_3∧Aside0 (impl_IsSheet.l1 kq l0 l0 (l0.length:Int) x12_1 y239 (y239.length:Int) x38_3 ((rd_T47 l0 x12_1).f0) ((rd_T47 l0 x12_1).f1) ((rd_T47 l0 x12_1).f2)=some r)∧Aside0 (kq≤kj5)∧Aside0 (w'.heap[gb235]? = some (.cells #[.int .i64 ((rd_T47 l0 x12_1).f0), .int .i64 ((rd_T47 l0 x12_1).f1), .int .i64 ((rd_T47 l0 x12_1).f2)] 47 (0,0)))∧Aside0 (Below w.heap.size w w'))
            case atStart=>exact⟨(0),(a6_),H',⟨Nat.le_refl _⟩,⟨(a3_ BK235.out)⟩,⟨(a1_ GE235.out)⟩⟩
            case round=>
             clear H'
             try clear c1
             try clear c2
             try clear c2b0
             try clear c2b1
             try clear p2
             try clear q2
             try clear hx2
             try clear c3
             try clear c3b0
             try clear c4
             try clear c4b0
             try clear c5
             try clear c5b0
             try clear p6
             try clear c10
             try clear c11
             try clear c11b0
             try clear c13
             try clear c13b0
             try clear c14
             try clear c14b0
             try clear p23
             try clear q23
             try clear hx23
             try clear c26
             try clear c27
             try clear c27b0
             try clear c27b1
             try clear c28
             try clear c28b0
             try clear c28b1
             try clear q29
             try clear hcz8_0
             try clear hcz8_1
             try clear hcz8_2
             try clear hfz8_0
             try clear hfz8_1
             try clear hfz8_2
             try clear hx234_0
             try clear hx234_1
             try clear hx234_2
             try clear hx237_0
             try clear hx237_1
             try clear hx237_2
             try clear p2
             try clear p23
             try clear p234
             try clear p237
             try clear p6
             try clear q2
             try clear q23
             try clear q234
             try clear q237
             try clear q29
             obtain⟨x38_3,rfl,HA,HK3,BK235,HB⟩:=hrel
             cases gk with
             | zero=>exact absurd HA.out (by simp[impl_IsSheet.l1])
             | succ k3=>
              have H:=HA.out
              clear HA
              simp only[impl_IsSheet.l1]at H
              by_cases c30:x38_3<(y239.length:Int)
              ·rw[if_pos c30]at H
               have c30b0:decide (x38_3<(y239.length:Int))=true:=decide_eq_true c30
               clear c30
               by_cases c31:0≤x38_3
               ·rw[if_pos c31]at H
                have c31b0:decide (0≤x38_3)=true:=decide_eq_true c31
                clear c31
                by_cases c32:x38_3<(y239.length:Int)
                ·rw[if_pos c32]at H
                 have c32b0:decide (x38_3<(y239.length:Int))=true:=decide_eq_true c32
                 clear c32
                 by_cases c33:((rd_T47 y239 x38_3).f0)=((rd_T47 l0 x12_1).f0)
                 ·rw[if_pos c33]at H
                  have c33b0:(((rd_T47 y239 x38_3).f0) == ((rd_T47 l0 x12_1).f0))=true:=beq_iff_eq.mpr c33
                  have c33b1:(((rd_T47 y239 x38_3).f0) != ((rd_T47 l0 x12_1).f0))=false:=bne_eq_false_iff_eq.mpr c33
                  clear c33
                  by_cases c34:((rd_T47 y239 x38_3).f2)≥((rd_T47 l0 x12_1).f1)
                  ·rw[if_pos c34]at H
                   have c34b0:decide (((rd_T47 l0 x12_1).f1)≤((rd_T47 y239 x38_3).f2))=true:=decide_eq_true c34
                   clear c34
                   obtain rfl:=Option.some.inj H
                   have p243:0≤(x38_3:Int):=of_decide_eq_true (a4_)
                   have q243:x38_3<(y239.length:Int):=of_decide_eq_true (a4_)
                   obtain⟨ad243,e243,hx243_0,hx243_1,hx243_2⟩:=at_T47 HR242.out x38_3 p243 q243
                   obtain rfl:ad234=ad243:=(by injection e243)
                   replace hx243_0:=(HB.out.cell (World.block_lt_of_cell? w _ hx243_0)).trans hx243_0
                   replace hx243_1:=(HB.out.cell (World.block_lt_of_cell? w _ hx243_1)).trans hx243_1
                   replace hx243_2:=(HB.out.cell (World.block_lt_of_cell? w _ hx243_2)).trans hx243_2
                   replace p243:=eq_true p243
                   replace q243:=eq_true q243
                   go_wp2_with (first | ((with_reducible refine gate_dst (N:=6) rfl ?_);refine box_event ?hg (N:=6) ?hd (cs:= #[.int .i64 0, .int .i64 0, .int .i64 0]) (t:=47) ?hr ?_;(case hd=>rfl);(case hg=>rfl);(case hr=>exact a12_);intro gb244 hg w35 hbox hb;have BK244:=am_ (hbox);have GW244:=am_ ((by rw[hg];exact(below_size ((a1_ GE235.out))):w.heap.size≤gb244));have GE244:=am_ ((by rw[hg];exact(below_size ((a1_ GE235.out))):w.heap.size≤gb244));replace HB:=am_ (below_step ((a1_ GE235.out)) hb);have NB235_244:=am_ ((by rw[hg];exact Nat.ne_of_lt (blk_lt (g:=gb235) (o:= .cells #[.int .i64 ((rd_T47 l0 x12_1).f0), .int .i64 ((rd_T47 l0 x12_1).f1), .int .i64 ((rd_T47 l0 x12_1).f2)] 47 (0,0)) ((a3_ BK235.out))):gb235≠gb244));have NB244_235:=am_ ((by rw[hg];exact Nat.ne_of_gt (blk_lt (g:=gb235) (o:= .cells #[.int .i64 ((rd_T47 l0 x12_1).f0), .int .i64 ((rd_T47 l0 x12_1).f1), .int .i64 ((rd_T47 l0 x12_1).f2)] 47 (0,0)) ((a3_ BK235.out))):gb244≠gb235));replace BK235:=am_ (blk_below (g:=gb235) (o:= .cells #[.int .i64 ((rd_T47 l0 x12_1).f0), .int .i64 ((rd_T47 l0 x12_1).f1), .int .i64 ((rd_T47 l0 x12_1).f2)] 47 (0,0)) ((a3_ BK235.out)) hb);clear hb hbox hg;have hnb36:=NB244_235.out;have hnc36:=NB235_244.out;have hcz37_0:w35.cell? ⟨gb244,0,none⟩=some (.int .i64 0):=(blk_cell BK244.out 0).trans rfl;have hcz37_1:w35.cell? ⟨gb244,1,none⟩=some (.int .i64 0):=(blk_cell BK244.out 1).trans rfl;have hcz37_2:w35.cell? ⟨gb244,2,none⟩=some (.int .i64 0):=(blk_cell BK244.out 2).trans rfl;have hfz37_0:=blk_frozen BK244.out 0;have hfz37_1:=blk_frozen BK244.out 1;have hfz37_2:=blk_frozen BK244.out 2;have hcz38_0:w35.cell? ⟨gb235,0,none⟩=some (.int .i64 ((rd_T47 l0 x12_1).f0)):=(blk_cell BK235.out 0).trans rfl;have hcz38_1:w35.cell? ⟨gb235,1,none⟩=some (.int .i64 ((rd_T47 l0 x12_1).f1)):=(blk_cell BK235.out 1).trans rfl;have hcz38_2:w35.cell? ⟨gb235,2,none⟩=some (.int .i64 ((rd_T47 l0 x12_1).f2)):=(blk_cell BK235.out 2).trans rfl;have hfz38_0:=blk_frozen BK235.out 0;have hfz38_1:=blk_frozen BK235.out 1;have hfz38_2:=blk_frozen BK235.out 2))
                   go_ret
                   exact⟨a5_,(a7_ GE235.out GE244.out)⟩
                  ·rw[if_neg c34]at H
                   have c34b0:decide (((rd_T47 l0 x12_1).f1)≤((rd_T47 y239 x38_3).f2))=false:=decide_eq_false c34
                   clear c34
                   have H':=am_ H
                   clear H
                   have p243:0≤(x38_3:Int):=of_decide_eq_true (a4_)
                   have q243:x38_3<(y239.length:Int):=of_decide_eq_true (a4_)
                   obtain⟨ad243,e243,hx243_0,hx243_1,hx243_2⟩:=at_T47 HR242.out x38_3 p243 q243
                   obtain rfl:ad234=ad243:=(by injection e243)
                   replace hx243_0:=(HB.out.cell (World.block_lt_of_cell? w _ hx243_0)).trans hx243_0
                   replace hx243_1:=(HB.out.cell (World.block_lt_of_cell? w _ hx243_1)).trans hx243_1
                   replace hx243_2:=(HB.out.cell (World.block_lt_of_cell? w _ hx243_2)).trans hx243_2
                   replace p243:=eq_true p243
                   replace q243:=eq_true q243
                   go_wp2_with (first | ((with_reducible refine gate_dst (N:=6) rfl ?_);refine box_event ?hg (N:=6) ?hd (cs:= #[.int .i64 0, .int .i64 0, .int .i64 0]) (t:=47) ?hr ?_;(case hd=>rfl);(case hg=>rfl);(case hr=>exact a12_);intro gb244 hg w39 hbox hb;have BK244:=am_ (hbox);have GW244:=am_ ((by rw[hg];exact(below_size ((a1_ GE235.out))):w.heap.size≤gb244));have GE244:=am_ ((by rw[hg];exact(below_size ((a1_ GE235.out))):w.heap.size≤gb244));replace HB:=am_ (below_step ((a1_ GE235.out)) hb);have NB235_244:=am_ ((by rw[hg];exact Nat.ne_of_lt (blk_lt (g:=gb235) (o:= .cells #[.int .i64 ((rd_T47 l0 x12_1).f0), .int .i64 ((rd_T47 l0 x12_1).f1), .int .i64 ((rd_T47 l0 x12_1).f2)] 47 (0,0)) ((a3_ BK235.out))):gb235≠gb244));have NB244_235:=am_ ((by rw[hg];exact Nat.ne_of_gt (blk_lt (g:=gb235) (o:= .cells #[.int .i64 ((rd_T47 l0 x12_1).f0), .int .i64 ((rd_T47 l0 x12_1).f1), .int .i64 ((rd_T47 l0 x12_1).f2)] 47 (0,0)) ((a3_ BK235.out))):gb244≠gb235));replace BK235:=am_ (blk_below (g:=gb235) (o:= .cells #[.int .i64 ((rd_T47 l0 x12_1).f0), .int .i64 ((rd_T47 l0 x12_1).f1), .int .i64 ((rd_T47 l0 x12_1).f2)] 47 (0,0)) ((a3_ BK235.out)) hb);clear hb hbox hg;have hnb40:=NB244_235.out;have hnc40:=NB235_244.out;have hcz41_0:w39.cell? ⟨gb244,0,none⟩=some (.int .i64 0):=(blk_cell BK244.out 0).trans rfl;have hcz41_1:w39.cell? ⟨gb244,1,none⟩=some (.int .i64 0):=(blk_cell BK244.out 1).trans rfl;have hcz41_2:w39.cell? ⟨gb244,2,none⟩=some (.int .i64 0):=(blk_cell BK244.out 2).trans rfl;have hfz41_0:=blk_frozen BK244.out 0;have hfz41_1:=blk_frozen BK244.out 1;have hfz41_2:=blk_frozen BK244.out 2;have hcz42_0:w39.cell? ⟨gb235,0,none⟩=some (.int .i64 ((rd_T47 l0 x12_1).f0)):=(blk_cell BK235.out 0).trans rfl;have hcz42_1:w39.cell? ⟨gb235,1,none⟩=some (.int .i64 ((rd_T47 l0 x12_1).f1)):=(blk_cell BK235.out 1).trans rfl;have hcz42_2:w39.cell? ⟨gb235,2,none⟩=some (.int .i64 ((rd_T47 l0 x12_1).f2)):=(blk_cell BK235.out 2).trans rfl;have hfz42_0:=blk_frozen BK235.out 0;have hfz42_1:=blk_frozen BK235.out 1;have hfz42_2:=blk_frozen BK235.out 2))
                   go_roundg k3
                   case measure=>have:=HK1.out;have:=HJ5.out;have:=HK3.out;omega
                   case rel=>exact⟨(wrap64 (x38_3+1)),(a6_),H',⟨by have:=HK1.out;have:=HJ5.out;have:=HK3.out;omega⟩,⟨(a13_ NB235_244.out BK235.out)⟩,⟨(a7_ GE235.out GE244.out)⟩⟩
                 ·rw[if_neg c33]at H
                  have c33b0:(((rd_T47 y239 x38_3).f0) == ((rd_T47 l0 x12_1).f0))=false:=beq_eq_false_iff_ne.mpr c33
                  have c33b1:(((rd_T47 y239 x38_3).f0) != ((rd_T47 l0 x12_1).f0))=true:=bne_iff_ne.mpr c33
                  have H':=am_ H
                  clear H
                  have p243:0≤(x38_3:Int):=of_decide_eq_true (a4_)
                  have q243:x38_3<(y239.length:Int):=of_decide_eq_true (a4_)
                  obtain⟨ad243,e243,hx243_0,hx243_1,hx243_2⟩:=at_T47 HR242.out x38_3 p243 q243
                  obtain rfl:ad234=ad243:=(by injection e243)
                  replace hx243_0:=(HB.out.cell (World.block_lt_of_cell? w _ hx243_0)).trans hx243_0
                  replace hx243_1:=(HB.out.cell (World.block_lt_of_cell? w _ hx243_1)).trans hx243_1
                  replace hx243_2:=(HB.out.cell (World.block_lt_of_cell? w _ hx243_2)).trans hx243_2
                  replace p243:=eq_true p243
                  replace q243:=eq_true q243
                  go_wp2_with (first | ((with_reducible refine gate_dst (N:=6) rfl ?_);refine box_event ?hg (N:=6) ?hd (cs:= #[.int .i64 0, .int .i64 0, .int .i64 0]) (t:=47) ?hr ?_;(case hd=>rfl);(case hg=>rfl);(case hr=>exact a12_);intro gb244 hg w43 hbox hb;have BK244:=am_ (hbox);have GW244:=am_ ((by rw[hg];exact(below_size ((a1_ GE235.out))):w.heap.size≤gb244));have GE244:=am_ ((by rw[hg];exact(below_size ((a1_ GE235.out))):w.heap.size≤gb244));replace HB:=am_ (below_step ((a1_ GE235.out)) hb);have NB235_244:=am_ ((by rw[hg];exact Nat.ne_of_lt (blk_lt (g:=gb235) (o:= .cells #[.int .i64 ((rd_T47 l0 x12_1).f0), .int .i64 ((rd_T47 l0 x12_1).f1), .int .i64 ((rd_T47 l0 x12_1).f2)] 47 (0,0)) ((a3_ BK235.out))):gb235≠gb244));have NB244_235:=am_ ((by rw[hg];exact Nat.ne_of_gt (blk_lt (g:=gb235) (o:= .cells #[.int .i64 ((rd_T47 l0 x12_1).f0), .int .i64 ((rd_T47 l0 x12_1).f1), .int .i64 ((rd_T47 l0 x12_1).f2)] 47 (0,0)) ((a3_ BK235.out))):gb244≠gb235));replace BK235:=am_ (blk_below (g:=gb235) (o:= .cells #[.int .i64 ((rd_T47 l0 x12_1).f0), .int .i64 ((rd_T47 l0 x12_1).f1), .int .i64 ((rd_T47 l0 x12_1).f2)] 47 (0,0)) ((a3_ BK235.out)) hb);clear hb hbox hg;have hnb44:=NB244_235.out;have hnc44:=NB235_244.out;have hcz45_0:w43.cell? ⟨gb244,0,none⟩=some (.int .i64 0):=(blk_cell BK244.out 0).trans rfl;have hcz45_1:w43.cell? ⟨gb244,1,none⟩=some (.int .i64 0):=(blk_cell BK244.out 1).trans rfl;have hcz45_2:w43.cell? ⟨gb244,2,none⟩=some (.int .i64 0):=(blk_cell BK244.out 2).trans rfl;have hfz45_0:=blk_frozen BK244.out 0;have hfz45_1:=blk_frozen BK244.out 1;have hfz45_2:=blk_frozen BK244.out 2;have hcz46_0:w43.cell? ⟨gb235,0,none⟩=some (.int .i64 ((rd_T47 l0 x12_1).f0)):=(blk_cell BK235.out 0).trans rfl;have hcz46_1:w43.cell? ⟨gb235,1,none⟩=some (.int .i64 ((rd_T47 l0 x12_1).f1)):=(blk_cell BK235.out 1).trans rfl;have hcz46_2:w43.cell? ⟨gb235,2,none⟩=some (.int .i64 ((rd_T47 l0 x12_1).f2)):=(blk_cell BK235.out 2).trans rfl;have hfz46_0:=blk_frozen BK235.out 0;have hfz46_1:=blk_frozen BK235.out 1;have hfz46_2:=blk_frozen BK235.out 2))
                  go_roundg k3
                  case measure=>have:=HK1.out;have:=HJ5.out;have:=HK3.out;omega
                  case rel=>exact⟨(wrap64 (x38_3+1)),(a6_),H',⟨by have:=HK1.out;have:=HJ5.out;have:=HK3.out;omega⟩,⟨(a13_ NB235_244.out BK235.out)⟩,⟨(a7_ GE235.out GE244.out)⟩⟩
                ·rw[if_neg c32]at H
                 exact absurd H (by simp)
               ·rw[if_neg c31]at H
                exact absurd H (by simp)
              ·rw[if_neg c30]at H
               have c30b0:decide (x38_3<(y239.length:Int))=false:=decide_eq_false c30
               clear c30
               have H':=am_ H
               clear H
               go_wp2
               go_roundg k3
               case measure=>have:=HK1.out;have:=HJ5.out;have:=HK3.out;omega
               case rel=>exact⟨(wrap64 (x12_1+1)),(a6_),H',⟨by have:=HK1.out;have:=HJ5.out;have:=HK3.out;omega⟩,⟨(a1_ GE235.out)⟩⟩
           ·rw[if_neg c28]at H
            exact absurd H (by simp)
          ·rw[if_neg c27]at H
           exact absurd H (by simp)
      ·rw[if_neg c5]at H
       exact absurd H (by simp)
     ·rw[if_neg c4]at H
      exact absurd H (by simp)
    ·rw[if_neg c3]at H
     have c3b0:decide (x12_1<(l0.length:Int))=false:=decide_eq_false c3
     clear c3
     obtain rfl:=Option.some.inj H
     go_wp2
     go_ret
     exact⟨a5_,a0_⟩

end Go.Proofs.Ytbbiihhaljigjaa.QFnExactMakeEdition
