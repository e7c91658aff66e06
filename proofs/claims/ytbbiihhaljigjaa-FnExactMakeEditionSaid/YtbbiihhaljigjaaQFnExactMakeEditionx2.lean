/- Written by a program of this session (the kit's printer, with leaf contracts proved by hand put in): what each Go function computes, and that the call computes it. No condition but those that each theorem names. -/
import Derived.Test.YtbbiihhaljigjaaQFnExactMakeEditionx0
import Derived.Test.YtbbiihhaljigjaaQFnExactMakeEditionx1
namespace Go.Proofs.Ytbbiihhaljigjaa.QFnExactMakeEdition
open Go.RowKit Go.Proofs.YtbbiihhaljigjaaW.PrintWords Go.Proofs.YtbbiihhaljigjaaW.PrintLast Go.Proofs.YtbbiihhaljigjaaW.PrintMore
attribute [local go_sem] max2_int min2_int max_two min_two max_three min_three max_four min_four   -- for this text's walks alone
set_option linter.unusedVariables false
set_option linter.unusedSimpArgs false

/-! ### spec_shGood: function 29 -/
mutual
def spec_shGood.l0:Nat→List (S47)→List (S47)→Int→Int→Option (Bool)
 | 0,_,_,_,_=>none
 | k+1,x0,x7,x8,x9=>if x9<x8 then(if 0≤x9 then(if x9<(x7.length:Int) then((spec_shHole.f ((rd_T47 x7 x9).f0) ((rd_T47 x7 x9).f1) ((rd_T47 x7 x9).f2)).bind fun t111=>(if t111=true then(if x9>0 then(if 0≤(wrap64 (x9-1)) then(if(wrap64 (x9-1))<(x0.length:Int) then((spec_shBefore.f ((rd_T47 x0 (wrap64 (x9-1))).f0) ((rd_T47 x0 (wrap64 (x9-1))).f1) ((rd_T47 x0 (wrap64 (x9-1))).f2) ((rd_T47 x7 x9).f0) ((rd_T47 x7 x9).f1) ((rd_T47 x7 x9).f2)).bind fun t113=>(spec_shGood.j1 k x0 x9 x7 x8 x9 (!t113) ((rd_T47 x7 x9).f0) ((rd_T47 x7 x9).f1) ((rd_T47 x7 x9).f2))) else(none)) else(none)) else(spec_shGood.j1 k x0 x9 x7 x8 x9 false ((rd_T47 x7 x9).f0) ((rd_T47 x7 x9).f1) ((rd_T47 x7 x9).f2))) else(spec_shGood.j1 k x0 x9 x7 x8 x9 true ((rd_T47 x7 x9).f0) ((rd_T47 x7 x9).f1) ((rd_T47 x7 x9).f2)))) else(none)) else(none)) else(some (decide ((x0.length:Int)≤60)))
def spec_shGood.j1:Nat→List (S47)→Int→List (S47)→Int→Int→Bool→Int→Int→Int→Option (Bool)
 | 0,_,_,_,_,_,_,_,_,_=>none
 | k+1,x0,x3,x7,x8,x9,x30,x111000,x111001,x111002=>if x30=true then(some false) else(if 0≤x3 then(if x3≤(x0.length:Int) then((some (x0.take (x3:Int).toNat:List (S47))).bind fun y114=>(spec_shGood.l1 k x0 x7 x8 x9 y114 (y114.length:Int) 0 x111000 x111001 x111002)) else(none)) else(none))
def spec_shGood.l1:Nat→List (S47)→List (S47)→Int→Int→List (S47)→Int→Int→Int→Int→Int→Option (Bool)
 | 0,_,_,_,_,_,_,_,_,_,_=>none
 | k+1,x0,x7,x8,x9,x33,x34,x35,x111000,x111001,x111002=>if x35<x34 then(if 0≤x35 then(if x35<(x33.length:Int) then(if x111000=((rd_T47 x33 x35).f0) then(if((rd_T47 x33 x35).f2)≥x111001 then(some false) else(spec_shGood.l1 k x0 x7 x8 x9 x33 x34 (wrap64 (x35+1)) x111000 x111001 x111002)) else(spec_shGood.l1 k x0 x7 x8 x9 x33 x34 (wrap64 (x35+1)) x111000 x111001 x111002)) else(none)) else(none)) else(spec_shGood.l0 k x0 x7 x8 (wrap64 (x9+1)))
end
def spec_shGood.f (k:Nat) (l0:List (S47)):Option (Bool):=spec_shGood.l0 k l0 l0 (l0.length:Int) 0
theorem spec_shGood.mono_l:∀k,(∀y0 y1 y2 y3,LeO (spec_shGood.l0 k y0 y1 y2 y3) (spec_shGood.l0 (k+1) y0 y1 y2 y3))∧(∀y0 y1 y2 y3 y4 y5 y6 y7 y8,LeO (spec_shGood.j1 k y0 y1 y2 y3 y4 y5 y6 y7 y8) (spec_shGood.j1 (k+1) y0 y1 y2 y3 y4 y5 y6 y7 y8))∧(∀y0 y1 y2 y3 y4 y5 y6 y7 y8 y9,LeO (spec_shGood.l1 k y0 y1 y2 y3 y4 y5 y6 y7 y8 y9) (spec_shGood.l1 (k+1) y0 y1 y2 y3 y4 y5 y6 y7 y8 y9))
 | 0=>⟨fun _ _ _ _ r h=>by simp[spec_shGood.l0]at h,fun _ _ _ _ _ _ _ _ _ r h=>by simp[spec_shGood.j1]at h,fun _ _ _ _ _ _ _ _ _ _ r h=>by simp[spec_shGood.l1]at h⟩
 | k+1=>by
  obtain⟨ih0,ih1,ih2⟩:=spec_shGood.mono_l k
  refine⟨?_,?_,?_⟩
  ·intro y0 y1 y2 y3
   unfold spec_shGood.l0
   repeat' first
   | (with_reducible exact ih0 _ _ _ _)
   | (with_reducible exact ih1 _ _ _ _ _ _ _ _ _)
   | (with_reducible exact ih2 _ _ _ _ _ _ _ _ _ _)
   | (with_reducible exact LeO.refl _)
   | (with_reducible exact LeO.none _)
   | (with_reducible refine LeO.ite ?_ ?_)
   | (with_reducible refine LeO.bind ?_ (fun _=>?_))
   | exact ih0 _ _ _ _
   | exact ih1 _ _ _ _ _ _ _ _ _
   | exact ih2 _ _ _ _ _ _ _ _ _ _
   | exact LeO.none _
   | refine LeO.ite ?_ ?_
   | refine LeO.bind ?_ (fun _=>?_)
  ·intro y0 y1 y2 y3 y4 y5 y6 y7 y8
   unfold spec_shGood.j1
   repeat' first
   | (with_reducible exact ih0 _ _ _ _)
   | (with_reducible exact ih1 _ _ _ _ _ _ _ _ _)
   | (with_reducible exact ih2 _ _ _ _ _ _ _ _ _ _)
   | (with_reducible exact LeO.refl _)
   | (with_reducible exact LeO.none _)
   | (with_reducible refine LeO.ite ?_ ?_)
   | (with_reducible refine LeO.bind ?_ (fun _=>?_))
   | exact ih0 _ _ _ _
   | exact ih1 _ _ _ _ _ _ _ _ _
   | exact ih2 _ _ _ _ _ _ _ _ _ _
   | exact LeO.none _
   | refine LeO.ite ?_ ?_
   | refine LeO.bind ?_ (fun _=>?_)
  ·intro y0 y1 y2 y3 y4 y5 y6 y7 y8 y9
   unfold spec_shGood.l1
   repeat' first
   | (with_reducible exact ih0 _ _ _ _)
   | (with_reducible exact ih1 _ _ _ _ _ _ _ _ _)
   | (with_reducible exact ih2 _ _ _ _ _ _ _ _ _ _)
   | (with_reducible exact LeO.refl _)
   | (with_reducible exact LeO.none _)
   | (with_reducible refine LeO.ite ?_ ?_)
   | (with_reducible refine LeO.bind ?_ (fun _=>?_))
   | exact ih0 _ _ _ _
   | exact ih1 _ _ _ _ _ _ _ _ _
   | exact ih2 _ _ _ _ _ _ _ _ _ _
   | exact LeO.none _
   | refine LeO.ite ?_ ?_
   | refine LeO.bind ?_ (fun _=>?_)
theorem spec_shGood.mono:∀a0 k,LeO (spec_shGood.f k a0) (spec_shGood.f (k+1) a0):=by
 intro a0 k
 obtain⟨ih0,ih1,ih2⟩:=spec_shGood.mono_l k
 unfold spec_shGood.f
 repeat' first
  | (with_reducible exact ih0 _ _ _ _)
  | (with_reducible exact ih1 _ _ _ _ _ _ _ _ _)
  | (with_reducible exact ih2 _ _ _ _ _ _ _ _ _ _)
  | (with_reducible exact LeO.refl _)
  | (with_reducible exact LeO.none _)
  | (with_reducible refine LeO.ite ?_ ?_)
  | (with_reducible refine LeO.bind ?_ (fun _=>?_))
  | exact ih0 _ _ _ _
  | exact ih1 _ _ _ _ _ _ _ _ _
  | exact ih2 _ _ _ _ _ _ _ _ _ _
  | exact LeO.none _
  | refine LeO.ite ?_ ?_
  | refine LeO.bind ?_ (fun _=>?_)
def spec_shGood.T4:Bool×List (List Nat×List Nat):=(true, [([], []),([0], [0]),([1], [1]),([2,1], [2]),([3], [3]),([4,3], [3,4]),([5,3,3], [3,5]),([6], [6]),([6], [6]),([8,6], [6,8]),([7,9,6], [6,7,9]),([10,6], [6,10]),([6], [6]),([11,12,6,6], [6,11,12]),([13,6], [6,13]),([6,14,3], [3,6,14]),([3,15], [3,15])])
def spec_shGood.B4:List Nat:=[0,1,3,7,15,31,63,127,127,383,1023,2047,127,8191,16383,32767,65535]
theorem spec_shGood.tab4:rtab .any (opsOf Try.f29 4)=spec_shGood.T4:=by kernel_rfl
theorem spec_shGood.bits4:waitsOk spec_shGood.T4.2 spec_shGood.B4=true:=by kernel_rfl
set_option maxHeartbeats 8000000 in
set_option maxRecDepth 100000 in
theorem spec_shGood.calls (k:Nat) (A0:Option Addr) (c0:Nat) (l0:List (S47)) (r:Bool) (w:World) (hr0:Kd.C k47 w A0 l0.length l0) (hc0:l0.length≤c0) (h:spec_shGood.f k l0=some r) :
 Calls Try.prog 29 #[.slice A0 l0.length c0] w fun e w'=>e = .returned (.bool r)∧Below w.heap.size w w':=by
 have hu47:=Try.underlying47
 have HR0:=am_ hr0
 have HC0:=am_ hc0
 clear hr0 hc0
 have HB:=am_ (Below.refl w.heap.size w)
 have H:(spec_shGood.l0 k l0 l0 (l0.length:Int) 0)=some r:=h
 clear h
 have H':=am_ H
 clear H
 go_enter Try.func29,Try.ntmps29
 go_wp2
 go_loopg [9] k (fun kq v9 w'=>∃(x9_1:Int),v9 = .int .i64 x9_1∧Aside0 (spec_shGood.l0 kq l0 l0 (l0.length:Int) x9_1=some r)∧Aside0 (kq≤k)∧Aside0 (Below w.heap.size w w'))
 case atStart=>exact⟨(0),(a6_),H',⟨Nat.le_refl _⟩,⟨a0_⟩⟩
 case round=>
  clear H'
  obtain⟨x9_1,rfl,HA,HK1,HB⟩:=hrel
  cases gk with
  | zero=>exact absurd HA.out (by simp[spec_shGood.l0])
  | succ k1=>
   have H:=HA.out
   clear HA
   simp only[spec_shGood.l0]at H
   by_cases c2:x9_1<(l0.length:Int)
   ·rw[if_pos c2]at H
    have c2b0:decide (x9_1<(l0.length:Int))=true:=decide_eq_true c2
    clear c2
    by_cases c3:0≤x9_1
    ·rw[if_pos c3]at H
     have c3b0:decide (0≤x9_1)=true:=decide_eq_true c3
     clear c3
     by_cases c4:x9_1<(l0.length:Int)
     ·rw[if_pos c4]at H
      have c4b0:decide (x9_1<(l0.length:Int))=true:=decide_eq_true c4
      clear c4
      have HC5:=am_ H
      clear H
      have p109:0≤(x9_1:Int):=of_decide_eq_true (a4_)
      have q109:x9_1<(l0.length:Int):=of_decide_eq_true (a4_)
      obtain⟨ad109,e109,hx109_0,hx109_1,hx109_2⟩:=at_T47 HR0.out x9_1 p109 q109
      cases e109
      replace hx109_0:=(HB.out.cell (World.block_lt_of_cell? w _ hx109_0)).trans hx109_0
      replace hx109_1:=(HB.out.cell (World.block_lt_of_cell? w _ hx109_1)).trans hx109_1
      replace hx109_2:=(HB.out.cell (World.block_lt_of_cell? w _ hx109_2)).trans hx109_2
      replace p109:=eq_true p109
      replace q109:=eq_true q109
      go_upto_region 4 with (first | ((with_reducible refine gate_dst (N:=4) rfl ?_);refine box_event ?hg (N:=4) ?hd (cs:= #[.int .i64 0, .int .i64 0, .int .i64 0]) (t:=47) ?hr ?_;(case hd=>rfl);(case hg=>rfl);(case hr=>exact a12_);intro gb110 hg w6 hbox hb;have BK110:=am_ (hbox);have GW110:=am_ ((by rw[hg];exact(below_size (a0_)):w.heap.size≤gb110));have GE110:=am_ ((by rw[hg];exact(below_size (a0_)):w.heap.size≤gb110));replace HB:=am_ (below_step (a0_) hb);clear hb hbox hg;have hcz7_0:w6.cell? ⟨gb110,0,none⟩=some (.int .i64 0):=(blk_cell BK110.out 0).trans rfl;have hcz7_1:w6.cell? ⟨gb110,1,none⟩=some (.int .i64 0):=(blk_cell BK110.out 1).trans rfl;have hcz7_2:w6.cell? ⟨gb110,2,none⟩=some (.int .i64 0):=(blk_cell BK110.out 2).trans rfl;have hfz7_0:=blk_frozen BK110.out 0;have hfz7_1:=blk_frozen BK110.out 1;have hfz7_2:=blk_frozen BK110.out 2))
      (try simp only[Act.put,List.setIfInBounds_toArray,List.set_cons_zero,List.set_cons_succ])
      go_cut [30] (fun v30 wc=>∃(kq:Nat) (x30_4:Bool),v30 = .bool x30_4∧Aside0 (spec_shGood.j1 kq l0 x9_1 l0 (l0.length:Int) x9_1 x30_4 ((rd_T47 l0 x9_1).f0) ((rd_T47 l0 x9_1).f1) ((rd_T47 l0 x9_1).f2)=some r)∧Aside0 (kq≤k1)∧Aside0 (wc.heap[gb110]? = some (.cells #[.int .i64 ((rd_T47 l0 x9_1).f0), .int .i64 ((rd_T47 l0 x9_1).f1), .int .i64 ((rd_T47 l0 x9_1).f2)] 47 (0,0)))∧Aside0 (Below w.heap.size w wc))
      case first=>
       have H:=HC5.out
       clear HC5
       replace H:=Option.bind_eq_some_iff.mp H
       obtain⟨t111,A80,H⟩:=H
       replace H:(if t111=true then(if x9_1>0 then(if 0≤(wrap64 (x9_1-1)) then(if(wrap64 (x9_1-1))<(l0.length:Int) then((spec_shBefore.f ((rd_T47 l0 (wrap64 (x9_1-1))).f0) ((rd_T47 l0 (wrap64 (x9_1-1))).f1) ((rd_T47 l0 (wrap64 (x9_1-1))).f2) ((rd_T47 l0 x9_1).f0) ((rd_T47 l0 x9_1).f1) ((rd_T47 l0 x9_1).f2)).bind fun t113=>(spec_shGood.j1 k1 l0 x9_1 l0 (l0.length:Int) x9_1 (!t113) ((rd_T47 l0 x9_1).f0) ((rd_T47 l0 x9_1).f1) ((rd_T47 l0 x9_1).f2))) else(none)) else(none)) else(spec_shGood.j1 k1 l0 x9_1 l0 (l0.length:Int) x9_1 false ((rd_T47 l0 x9_1).f0) ((rd_T47 l0 x9_1).f1) ((rd_T47 l0 x9_1).f2))) else(spec_shGood.j1 k1 l0 x9_1 l0 (l0.length:Int) x9_1 true ((rd_T47 l0 x9_1).f0) ((rd_T47 l0 x9_1).f1) ((rd_T47 l0 x9_1).f2)))=some r:=H
       have A8:=am_ A80
       clear A80
       by_cases c9:t111=true
       ·subst c9
        replace H:(if x9_1>0 then(if 0≤(wrap64 (x9_1-1)) then(if(wrap64 (x9_1-1))<(l0.length:Int) then((spec_shBefore.f ((rd_T47 l0 (wrap64 (x9_1-1))).f0) ((rd_T47 l0 (wrap64 (x9_1-1))).f1) ((rd_T47 l0 (wrap64 (x9_1-1))).f2) ((rd_T47 l0 x9_1).f0) ((rd_T47 l0 x9_1).f1) ((rd_T47 l0 x9_1).f2)).bind fun t113=>(spec_shGood.j1 k1 l0 x9_1 l0 (l0.length:Int) x9_1 (!t113) ((rd_T47 l0 x9_1).f0) ((rd_T47 l0 x9_1).f1) ((rd_T47 l0 x9_1).f2))) else(none)) else(none)) else(spec_shGood.j1 k1 l0 x9_1 l0 (l0.length:Int) x9_1 false ((rd_T47 l0 x9_1).f0) ((rd_T47 l0 x9_1).f1) ((rd_T47 l0 x9_1).f2)))=some r:=by rw[if_pos rfl]at H;exact H
        by_cases c10:x9_1>0
        ·rw[if_pos c10]at H
         have c10b0:decide (0<x9_1)=true:=decide_eq_true c10
         clear c10
         (first | rw[c10b0] | (simp only[i64_w,i32_w];rw[c10b0]) | skip)
         obtain⟨ji11,hji11⟩:∃j_:Int,(wrap64 (x9_1-1))=j_:=⟨_,rfl⟩
         replace H:(if 0≤(ji11) then(if(ji11)<(l0.length:Int) then((spec_shBefore.f ((rd_T47 l0 (ji11)).f0) ((rd_T47 l0 (ji11)).f1) ((rd_T47 l0 (ji11)).f2) ((rd_T47 l0 x9_1).f0) ((rd_T47 l0 x9_1).f1) ((rd_T47 l0 x9_1).f2)).bind fun t113=>(spec_shGood.j1 k1 l0 x9_1 l0 (l0.length:Int) x9_1 (!t113) ((rd_T47 l0 x9_1).f0) ((rd_T47 l0 x9_1).f1) ((rd_T47 l0 x9_1).f2))) else(none)) else(none))=some r:=by first | (rw[hji11]at H;exact H) | (simp only[hji11]at H ⊢;exact H)
         (try rw[hji11]at A8)
         have hji11w:(IntKind.i64.wrap (x9_1-1))=ji11:=(i64_w _).trans hji11
         by_cases c12:0≤(ji11)
         ·rw[if_pos c12]at H
          have c12b0:decide (0≤(ji11))=true:=decide_eq_true c12
          clear c12
          by_cases c13:(ji11)<(l0.length:Int)
          ·rw[if_pos c13]at H
           have c13b0:decide ((ji11)<(l0.length:Int))=true:=decide_eq_true c13
           clear c13
           replace H:=Option.bind_eq_some_iff.mp H
           obtain⟨t113,A140,H⟩:=H
           replace H:(spec_shGood.j1 k1 l0 x9_1 l0 (l0.length:Int) x9_1 (!t113) ((rd_T47 l0 x9_1).f0) ((rd_T47 l0 x9_1).f1) ((rd_T47 l0 x9_1).f2))=some r:=H
           have A14:=am_ A140
           clear A140
           have H':=am_ H
           clear H
           try go_wp2
           have n0_:Aside0 ((((w6.setCell ⟨gb110,0,none⟩ (.int .i64 ((rd_T47 l0 x9_1).f0))).setCell ⟨gb110,1,none⟩ (.int .i64 ((rd_T47 l0 x9_1).f1))).setCell ⟨gb110,2,none⟩ (.int .i64 ((rd_T47 l0 x9_1).f2))).heap[gb110]? = some (.cells #[.int .i64 ((rd_T47 l0 x9_1).f0), .int .i64 ((rd_T47 l0 x9_1).f1), .int .i64 ((rd_T47 l0 x9_1).f2)] 47 (0,0))):=⟨(a16_ BK110.out)⟩
           have n1_:Aside0 (Below w.heap.size w (((w6.setCell ⟨gb110,0,none⟩ (.int .i64 ((rd_T47 l0 x9_1).f0))).setCell ⟨gb110,1,none⟩ (.int .i64 ((rd_T47 l0 x9_1).f1))).setCell ⟨gb110,2,none⟩ (.int .i64 ((rd_T47 l0 x9_1).f2)))):=⟨(a1_ GE110.out)⟩
           (try clear BK110)
           (try clear HB)
           generalize (((w6.setCell ⟨gb110,0,none⟩ (.int .i64 ((rd_T47 l0 x9_1).f0))).setCell ⟨gb110,1,none⟩ (.int .i64 ((rd_T47 l0 x9_1).f1))).setCell ⟨gb110,2,none⟩ (.int .i64 ((rd_T47 l0 x9_1).f2)))=w15 at n0_ n1_ ⊢
           have BK110:=n0_
           have HB:=n1_
           clear n0_ n1_
           replace BK110:=am_ (blk_drew BK110.out)
           replace HB:=am_ (below_drew1 HB.out)
           have p112:0≤((ji11):Int):=of_decide_eq_true (a4_)
           have q112:(ji11)<(l0.length:Int):=of_decide_eq_true (a4_)
           obtain⟨ad112,e112,hx112_0,hx112_1,hx112_2⟩:=at_T47 HR0.out (ji11) p112 q112
           have hw112_2:=hx112_2
           have hw112_1:=hx112_1
           have hw112_0:=hx112_0
           obtain rfl:ad109=ad112:=(by injection e112)
           replace hx112_0:=(HB.out.cell (World.block_lt_of_cell? w _ hx112_0)).trans hx112_0
           replace hx112_1:=(HB.out.cell (World.block_lt_of_cell? w _ hx112_1)).trans hx112_1
           replace hx112_2:=(HB.out.cell (World.block_lt_of_cell? w _ hx112_2)).trans hx112_2
           replace p112:=eq_true p112
           replace q112:=eq_true q112
           refine start_ (n:=17) (S:=fun w'=>w'.cell? ⟨gb110,0,none⟩=some (.int .i64 ((rd_T47 l0 x9_1).f0))∧w'.cell? ⟨gb110,1,none⟩=some (.int .i64 ((rd_T47 l0 x9_1).f1))∧w'.cell? ⟨gb110,2,none⟩=some (.int .i64 ((rd_T47 l0 x9_1).f2))∧w'.cell? (ad109.add (((ji11)).toNat*3))=some (.int .i64 ((rd_T47 l0 (ji11)).f0))∧w'.cell? ⟨(ad109.add (((ji11)).toNat*3)).block,(ad109.add (((ji11)).toNat*3)).off+1,none⟩=some (.int .i64 ((rd_T47 l0 (ji11)).f1))∧w'.cell? ⟨(ad109.add (((ji11)).toNat*3)).block,(ad109.add (((ji11)).toNat*3)).off+2,none⟩=some (.int .i64 ((rd_T47 l0 (ji11)).f2))) (ds:=[]) #[false,false,false,false,false,false,false,false,false,false,false,false,false,false,false,false,false] (by kernel_rfl) rfl rfl ⟨(blk_cell BK110.out 0).trans rfl,(blk_cell BK110.out 1).trans rfl,(blk_cell BK110.out 2).trans rfl,((HB.out.cell (World.block_lt_of_cell? w _ hw112_0)).trans hw112_0),((HB.out.cell (World.block_lt_of_cell? w _ hw112_1)).trans hw112_1),((HB.out.cell (World.block_lt_of_cell? w _ hw112_2)).trans hw112_2)⟩ (fun hHeld=>?_);refine with_tabW spec_shGood.tab4 spec_shGood.bits4 (fun HT_ HW_=>?_)
           generalize w15.drew=w16 at BK110 HB hx112_0 hx112_1 hx112_2 hHeld ⊢
           refine take_ (i:=0) (N:=some 14) (v:=?_) (a':=?_) #[true,false,false,false,false,false,false,false,false,false,false,false,false,false,false,false,false] rfl rfl (take_ofW HT_.out HW_.out (by kernel_rfl)) (fun _ _ _ h=>h) (Or.inl ⟨by rfl,?_⟩) hHeld ?_ ?_
           rotate_left
           ·rintro w' ⟨s0,s1,s2,s3,s4,s5⟩
            go_simp
            with_reducible rfl
           rotate_left
           ·simp only[Act.put,pu_]
            rfl
           refine one_ (i:=1) (N:=some 15) #[true,true,false,false,false,false,false,false,false,false,false,false,false,false,false,false,false] rfl rfl (one_of HT_.out (by kernel_rfl)) (by decide) (fun K hK=>?_)
           refine goes_ Try.func40 (by kernel_rfl) rfl #[.agg #[.int .i64 ((rd_T47 l0 x9_1).f0), .int .i64 ((rd_T47 l0 x9_1).f1), .int .i64 ((rd_T47 l0 x9_1).f2)]] (by rfl) rfl rfl (by(try simp only[List.map_toArray,List.map_cons,List.map_nil]);first | done | rfl | (simp only[List.length_drop,List.length_take];rfl)) ?_
           with_reducible refine(spec_shHole.calls ((rd_T47 l0 x9_1).f0) ((rd_T47 l0 x9_1).f1) ((rd_T47 l0 x9_1).f2) true _ A8.out).mono ?_
           rintro e w17 ⟨rfl,hb⟩
           refine⟨_,rfl,?_⟩
           replace BK110:=am_ (blk_below (g:=gb110) (o:= .cells #[.int .i64 ((rd_T47 l0 x9_1).f0), .int .i64 ((rd_T47 l0 x9_1).f1), .int .i64 ((rd_T47 l0 x9_1).f2)] 47 (0,0)) ((a3_ BK110.out)) hb)
           replace HB:=am_ (below_step ((a1_ GE110.out)) hb)
           (try clear hb)
           (try clear hb2)
           (try clear hk)
           (try clear hi)
           refine hK.out _ _ ⟨(blk_cell BK110.out 0).trans rfl,(blk_cell BK110.out 1).trans rfl,(blk_cell BK110.out 2).trans rfl,((HB.out.cell (World.block_lt_of_cell? w _ hw112_0)).trans hw112_0),((HB.out.cell (World.block_lt_of_cell? w _ hw112_1)).trans hw112_1),((HB.out.cell (World.block_lt_of_cell? w _ hw112_2)).trans hw112_2)⟩ (fun hHeld=>?_)
           clear hK K
           refine norm_ (a':=?_) ?_ ?_
           rotate_left
           ·show Act.put _ (some 15) _=_
            simp only[Act.put,pu_]
            rfl
           refine pure_ (i:=2) (N:=some 16) (v:=?_) (a':=?_) #[true,true,true,false,false,false,false,false,false,false,false,false,false,false,false,false,false] rfl rfl (any_of HT_.out (by kernel_rfl)) (fun _ _ _ h=>h) (Or.inl ⟨by rfl,?_⟩) ?_ ?_
           rotate_left
           ·intro w'
            go_simp
            with_reducible rfl
           rotate_left
           ·simp only[Act.put,pu_]
            rfl
           refine pure_ (i:=3) (N:=some 17) (v:=?_) (a':=?_) #[true,true,true,true,false,false,false,false,false,false,false,false,false,false,false,false,false] rfl rfl (any_of HT_.out (by kernel_rfl)) (fun _ _ _ h=>h) (Or.inl ⟨by rfl,?_⟩) ?_ ?_
           rotate_left
           ·intro w'
            go_simp
            with_reducible rfl
           rotate_left
           ·simp only[Act.put,pu_]
            rfl
           refine pure_ (i:=4) (N:=some 18) (v:=?_) (a':=?_) #[true,true,true,true,true,false,false,false,false,false,false,false,false,false,false,false,false] rfl rfl (any_of HT_.out (by kernel_rfl)) (fun _ _ _ h=>h) (Or.inl ⟨by rfl,?_⟩) ?_ ?_
           rotate_left
           ·intro w'
            go_simp
            with_reducible rfl
           rotate_left
           ·simp only[Act.put,pu_]
            rfl
           refine pure_ (i:=5) (N:=some 19) (v:=?_) (a':=?_) #[true,true,true,true,true,true,false,false,false,false,false,false,false,false,false,false,false] rfl rfl (any_of HT_.out (by kernel_rfl)) (fun _ _ _ h=>h) (Or.inl ⟨by rfl,?_⟩) ?_ ?_
           rotate_left
           ·intro w'
            go_simp
            with_reducible rfl
           rotate_left
           ·simp only[Act.put,pu_]
            rfl
           refine pure_ (i:=6) (N:=some 20) (v:=?_) (a':=?_) #[true,true,true,true,true,true,true,false,false,false,false,false,false,false,false,false,false] rfl rfl (any_of HT_.out (by kernel_rfl)) (fun _ _ _ h=>h) (Or.inl ⟨by rfl,?_⟩) ?_ ?_
           rotate_left
           ·intro w'
            go_simp
            with_reducible rfl
           rotate_left
           ·simp only[Act.put,pu_]
            rfl
           refine pure_ (i:=7) (N:=some 21) (v:=?_) (a':=?_) #[true,true,true,true,true,true,true,true,false,false,false,false,false,false,false,false,false] rfl rfl (any_of HT_.out (by kernel_rfl)) (fun _ _ _ h=>h) (Or.inl ⟨by rfl,?_⟩) ?_ ?_
           rotate_left
           ·intro w'
            go_simp
            with_reducible rfl
           rotate_left
           ·simp only[Act.put,pu_]
            rfl
           refine pure_ (i:=8) (N:=some 22) (v:=?_) (a':=?_) #[true,true,true,true,true,true,true,true,true,false,false,false,false,false,false,false,false] rfl rfl (any_of HT_.out (by kernel_rfl)) (fun _ _ _ h=>h) (Or.inl ⟨by rfl,?_⟩) ?_ ?_
           rotate_left
           ·intro w'
            go_simp
            with_reducible rfl
           rotate_left
           ·simp only[Act.put,pu_]
            rfl
           refine pure_ (i:=9) (N:=some 23) (v:=?_) (a':=?_) #[true,true,true,true,true,true,true,true,true,true,false,false,false,false,false,false,false] rfl rfl (any_of HT_.out (by kernel_rfl)) (fun _ _ _ h=>h) (Or.inl ⟨by rfl,?_⟩) ?_ ?_
           rotate_left
           ·intro w'
            go_simp
            with_reducible rfl
           rotate_left
           ·simp only[Act.put,pu_]
            rfl
           refine pure_ (i:=10) (N:=some 24) (v:=?_) (a':=?_) #[true,true,true,true,true,true,true,true,true,true,true,false,false,false,false,false,false] rfl rfl (any_of HT_.out (by kernel_rfl)) (fun _ _ _ h=>h) (Or.inl ⟨by rfl,?_⟩) ?_ ?_
           rotate_left
           ·intro w'
            go_simp
            with_reducible rfl
           rotate_left
           ·simp only[Act.put,pu_]
            rfl
           refine take_ (i:=11) (N:=some 25) (v:=?_) (a':=?_) #[true,true,true,true,true,true,true,true,true,true,true,true,false,false,false,false,false] rfl rfl (take_ofW HT_.out HW_.out (by kernel_rfl)) (fun _ _ _ h=>h) (Or.inl ⟨by rfl,?_⟩) hHeld ?_ ?_
           rotate_left
           ·rintro w' ⟨s0,s1,s2,s3,s4,s5⟩
            go_simp
            with_reducible rfl
           rotate_left
           ·simp only[Act.put,pu_]
            rfl
           refine take_ (i:=12) (N:=some 26) (v:=?_) (a':=?_) #[true,true,true,true,true,true,true,true,true,true,true,true,true,false,false,false,false] rfl rfl (take_ofW HT_.out HW_.out (by kernel_rfl)) (fun _ _ _ h=>h) (Or.inl ⟨by rfl,?_⟩) hHeld ?_ ?_
           rotate_left
           ·rintro w' ⟨s0,s1,s2,s3,s4,s5⟩
            go_simp
            with_reducible rfl
           rotate_left
           ·simp only[Act.put,pu_]
            rfl
           refine one_ (i:=13) (N:=some 27) #[true,true,true,true,true,true,true,true,true,true,true,true,true,true,false,false,false] rfl rfl (one_of HT_.out (by kernel_rfl)) (by decide) (fun K hK=>?_)
           refine goes_ Try.func33 (by kernel_rfl) rfl #[.agg #[.int .i64 ((rd_T47 l0 (ji11)).f0), .int .i64 ((rd_T47 l0 (ji11)).f1), .int .i64 ((rd_T47 l0 (ji11)).f2)], .agg #[.int .i64 ((rd_T47 l0 x9_1).f0), .int .i64 ((rd_T47 l0 x9_1).f1), .int .i64 ((rd_T47 l0 x9_1).f2)]] (by rfl) rfl rfl (by(try simp only[List.map_toArray,List.map_cons,List.map_nil]);first | done | (simp only[hji11];rfl) | rfl | (simp only[List.length_drop,List.length_take];rfl)) ?_
           with_reducible refine(spec_shBefore.calls ((rd_T47 l0 (ji11)).f0) ((rd_T47 l0 (ji11)).f1) ((rd_T47 l0 (ji11)).f2) ((rd_T47 l0 x9_1).f0) ((rd_T47 l0 x9_1).f1) ((rd_T47 l0 x9_1).f2) t113 _ A14.out).mono ?_
           rintro e w18 ⟨rfl,hb⟩
           refine⟨_,rfl,?_⟩
           replace BK110:=am_ (blk_below (g:=gb110) (o:= .cells #[.int .i64 ((rd_T47 l0 x9_1).f0), .int .i64 ((rd_T47 l0 x9_1).f1), .int .i64 ((rd_T47 l0 x9_1).f2)] 47 (0,0)) ((a3_ BK110.out)) hb)
           replace HB:=am_ (below_step ((a1_ GE110.out)) hb)
           (try clear hb)
           (try clear hb2)
           (try clear hk)
           (try clear hi)
           refine hK.out _ _ ⟨(blk_cell BK110.out 0).trans rfl,(blk_cell BK110.out 1).trans rfl,(blk_cell BK110.out 2).trans rfl,((HB.out.cell (World.block_lt_of_cell? w _ hw112_0)).trans hw112_0),((HB.out.cell (World.block_lt_of_cell? w _ hw112_1)).trans hw112_1),((HB.out.cell (World.block_lt_of_cell? w _ hw112_2)).trans hw112_2)⟩ (fun hHeld=>?_)
           clear hK K
           refine norm_ (a':=?_) ?_ ?_
           rotate_left
           ·show Act.put _ (some 27) _=_
            simp only[Act.put,pu_]
            rfl
           refine pure_ (i:=14) (N:=some 28) (v:=?_) (a':=?_) #[true,true,true,true,true,true,true,true,true,true,true,true,true,true,true,false,false] rfl rfl (any_of HT_.out (by kernel_rfl)) (fun _ _ _ h=>h) (Or.inl ⟨by rfl,?_⟩) ?_ ?_
           rotate_left
           ·intro w'
            go_simp
            with_reducible rfl
           rotate_left
           ·simp only[Act.put,pu_]
            rfl
           refine pure_ (i:=15) (N:=some 29) (v:=?_) (a':=?_) #[true,true,true,true,true,true,true,true,true,true,true,true,true,true,true,true,false] rfl rfl (any_of HT_.out (by kernel_rfl)) (fun _ _ _ h=>h) (Or.inl ⟨by rfl,?_⟩) ?_ ?_
           rotate_left
           ·intro w'
            go_simp
            with_reducible rfl
           rotate_left
           ·simp only[Act.put,pu_]
            rfl
           refine pure_ (i:=16) (N:=some 30) (v:=?_) (a':=?_) #[true,true,true,true,true,true,true,true,true,true,true,true,true,true,true,true,true] rfl rfl (any_of HT_.out (by kernel_rfl)) (fun _ _ _ h=>h) (Or.inl ⟨by rfl,?_⟩) ?_ ?_
           rotate_left
           ·intro w'
            go_simp
            with_reducible rfl
           rotate_left
           ·simp only[Act.put,pu_]
            rfl
           refine done_ (done_of HT_.out (by kernel_rfl)) ?_
           try go_wp2
           go_meet
           case rel=>exact⟨_,(!t113),(a6_),H',⟨by have:=HK1.out;first | omega | exact Nat.le_refl _⟩,⟨(a3_ BK110.out)⟩,⟨(a1_ GE110.out)⟩⟩
          ·rw[if_neg c13]at H
           exact absurd H (by simp)
         ·rw[if_neg c12]at H
          exact absurd H (by simp)
        ·rw[if_neg c10]at H
         have c10b0:decide (0<x9_1)=false:=decide_eq_false c10
         clear c10
         (first | rw[c10b0] | (simp only[i64_w,i32_w];rw[c10b0]) | skip)
         have H':=am_ H
         clear H
         try go_wp2
         have n0_:Aside0 ((((w6.setCell ⟨gb110,0,none⟩ (.int .i64 ((rd_T47 l0 x9_1).f0))).setCell ⟨gb110,1,none⟩ (.int .i64 ((rd_T47 l0 x9_1).f1))).setCell ⟨gb110,2,none⟩ (.int .i64 ((rd_T47 l0 x9_1).f2))).heap[gb110]? = some (.cells #[.int .i64 ((rd_T47 l0 x9_1).f0), .int .i64 ((rd_T47 l0 x9_1).f1), .int .i64 ((rd_T47 l0 x9_1).f2)] 47 (0,0))):=⟨(a16_ BK110.out)⟩
         have n1_:Aside0 (Below w.heap.size w (((w6.setCell ⟨gb110,0,none⟩ (.int .i64 ((rd_T47 l0 x9_1).f0))).setCell ⟨gb110,1,none⟩ (.int .i64 ((rd_T47 l0 x9_1).f1))).setCell ⟨gb110,2,none⟩ (.int .i64 ((rd_T47 l0 x9_1).f2)))):=⟨(a1_ GE110.out)⟩
         (try clear BK110)
         (try clear HB)
         generalize (((w6.setCell ⟨gb110,0,none⟩ (.int .i64 ((rd_T47 l0 x9_1).f0))).setCell ⟨gb110,1,none⟩ (.int .i64 ((rd_T47 l0 x9_1).f1))).setCell ⟨gb110,2,none⟩ (.int .i64 ((rd_T47 l0 x9_1).f2)))=w19 at n0_ n1_ ⊢
         have BK110:=n0_
         have HB:=n1_
         clear n0_ n1_
         replace BK110:=am_ (blk_drew BK110.out)
         replace HB:=am_ (below_drew1 HB.out)
         refine start_ (n:=17) (S:=fun w'=>w'.cell? ⟨gb110,0,none⟩=some (.int .i64 ((rd_T47 l0 x9_1).f0))∧w'.cell? ⟨gb110,1,none⟩=some (.int .i64 ((rd_T47 l0 x9_1).f1))∧w'.cell? ⟨gb110,2,none⟩=some (.int .i64 ((rd_T47 l0 x9_1).f2))) (ds:=[]) #[false,false,false,false,false,false,false,false,false,false,false,false,false,false,false,false,false] (by kernel_rfl) rfl rfl ⟨(blk_cell BK110.out 0).trans rfl,(blk_cell BK110.out 1).trans rfl,(blk_cell BK110.out 2).trans rfl⟩ (fun hHeld=>?_);refine with_tabW spec_shGood.tab4 spec_shGood.bits4 (fun HT_ HW_=>?_)
         generalize w19.drew=w20 at BK110 HB hHeld ⊢
         refine take_ (i:=0) (N:=some 14) (v:=?_) (a':=?_) #[true,false,false,false,false,false,false,false,false,false,false,false,false,false,false,false,false] rfl rfl (take_ofW HT_.out HW_.out (by kernel_rfl)) (fun _ _ _ h=>h) (Or.inl ⟨by rfl,?_⟩) hHeld ?_ ?_
         rotate_left
         ·rintro w' ⟨s0,s1,s2⟩
          go_simp
          with_reducible rfl
         rotate_left
         ·simp only[Act.put,pu_]
          rfl
         refine one_ (i:=1) (N:=some 15) #[true,true,false,false,false,false,false,false,false,false,false,false,false,false,false,false,false] rfl rfl (one_of HT_.out (by kernel_rfl)) (by decide) (fun K hK=>?_)
         refine goes_ Try.func40 (by kernel_rfl) rfl #[.agg #[.int .i64 ((rd_T47 l0 x9_1).f0), .int .i64 ((rd_T47 l0 x9_1).f1), .int .i64 ((rd_T47 l0 x9_1).f2)]] (by rfl) rfl rfl (by(try simp only[List.map_toArray,List.map_cons,List.map_nil]);first | done | rfl | (simp only[List.length_drop,List.length_take];rfl)) ?_
         with_reducible refine(spec_shHole.calls ((rd_T47 l0 x9_1).f0) ((rd_T47 l0 x9_1).f1) ((rd_T47 l0 x9_1).f2) true _ A8.out).mono ?_
         rintro e w21 ⟨rfl,hb⟩
         refine⟨_,rfl,?_⟩
         replace BK110:=am_ (blk_below (g:=gb110) (o:= .cells #[.int .i64 ((rd_T47 l0 x9_1).f0), .int .i64 ((rd_T47 l0 x9_1).f1), .int .i64 ((rd_T47 l0 x9_1).f2)] 47 (0,0)) ((a3_ BK110.out)) hb)
         replace HB:=am_ (below_step ((a1_ GE110.out)) hb)
         (try clear hb)
         (try clear hb2)
         (try clear hk)
         (try clear hi)
         refine hK.out _ _ ⟨(blk_cell BK110.out 0).trans rfl,(blk_cell BK110.out 1).trans rfl,(blk_cell BK110.out 2).trans rfl⟩ (fun hHeld=>?_)
         clear hK K
         refine norm_ (a':=?_) ?_ ?_
         rotate_left
         ·show Act.put _ (some 15) _=_
          simp only[Act.put,pu_]
          rfl
         refine pure_ (i:=2) (N:=some 16) (v:=?_) (a':=?_) #[true,true,true,false,false,false,false,false,false,false,false,false,false,false,false,false,false] rfl rfl (any_of HT_.out (by kernel_rfl)) (fun _ _ _ h=>h) (Or.inl ⟨by rfl,?_⟩) ?_ ?_
         rotate_left
         ·intro w'
          go_simp
          with_reducible rfl
         rotate_left
         ·simp only[Act.put,pu_]
          rfl
         refine pure_ (i:=3) (N:=some 17) (v:=?_) (a':=?_) #[true,true,true,true,false,false,false,false,false,false,false,false,false,false,false,false,false] rfl rfl (any_of HT_.out (by kernel_rfl)) (fun _ _ _ h=>h) (Or.inl ⟨by rfl,?_⟩) ?_ ?_
         rotate_left
         ·intro w'
          go_simp
          with_reducible rfl
         rotate_left
         ·simp only[Act.put,pu_]
          rfl
         refine pure_ (i:=4) (N:=some 18) (v:=?_) (a':=?_) #[true,true,true,true,true,false,false,false,false,false,false,false,false,false,false,false,false] rfl rfl (any_of HT_.out (by kernel_rfl)) (fun _ _ _ h=>h) (Or.inl ⟨by rfl,?_⟩) ?_ ?_
         rotate_left
         ·intro w'
          go_simp
          with_reducible rfl
         rotate_left
         ·simp only[Act.put,pu_]
          rfl
         refine pure_ (i:=5) (N:=some 19) (v:=?_) (a':=?_) #[true,true,true,true,true,true,false,false,false,false,false,false,false,false,false,false,false] rfl rfl (any_of HT_.out (by kernel_rfl)) (fun _ _ _ h=>h) (Or.inl ⟨by rfl,?_⟩) ?_ ?_
         rotate_left
         ·intro w'
          go_simp
          with_reducible rfl
         rotate_left
         ·simp only[Act.put,pu_]
          rfl
         refine pure_ (i:=6) (N:=some 20) (v:=?_) (a':=?_) #[true,true,true,true,true,true,true,false,false,false,false,false,false,false,false,false,false] rfl rfl (any_of HT_.out (by kernel_rfl)) (fun _ _ _ h=>h) (Or.inl ⟨by rfl,?_⟩) ?_ ?_
         rotate_left
         ·intro w'
          go_simp
          with_reducible rfl
         rotate_left
         ·simp only[Act.put,pu_]
          rfl
         refine pure_ (i:=7) (N:=some 21) (v:=undef) (a':=?_) #[true,true,true,true,true,true,true,true,false,false,false,false,false,false,false,false,false] rfl rfl (any_of HT_.out (by kernel_rfl)) (fun _ _ _ h=>h) (Or.inr ⟨by rfl,rfl⟩) ?_ ?_
         rotate_left
         ·simp only[Act.put,pu_]
          rfl
         refine pure_ (i:=8) (N:=some 22) (v:=undef) (a':=?_) #[true,true,true,true,true,true,true,true,true,false,false,false,false,false,false,false,false] rfl rfl (any_of HT_.out (by kernel_rfl)) (fun _ _ _ h=>h) (Or.inr ⟨by rfl,rfl⟩) ?_ ?_
         rotate_left
         ·simp only[Act.put,pu_]
          rfl
         refine pure_ (i:=9) (N:=some 23) (v:=undef) (a':=?_) #[true,true,true,true,true,true,true,true,true,true,false,false,false,false,false,false,false] rfl rfl (any_of HT_.out (by kernel_rfl)) (fun _ _ _ h=>h) (Or.inr ⟨by rfl,rfl⟩) ?_ ?_
         rotate_left
         ·simp only[Act.put,pu_]
          rfl
         refine pure_ (i:=10) (N:=some 24) (v:=undef) (a':=?_) #[true,true,true,true,true,true,true,true,true,true,true,false,false,false,false,false,false] rfl rfl (any_of HT_.out (by kernel_rfl)) (fun _ _ _ h=>h) (Or.inr ⟨by rfl,rfl⟩) ?_ ?_
         rotate_left
         ·simp only[Act.put,pu_]
          rfl
         refine pure_ (i:=11) (N:=some 25) (v:=undef) (a':=?_) #[true,true,true,true,true,true,true,true,true,true,true,true,false,false,false,false,false] rfl rfl (any_of HT_.out (by kernel_rfl)) (fun _ _ _ h=>h) (Or.inr ⟨by rfl,rfl⟩) ?_ ?_
         rotate_left
         ·simp only[Act.put,pu_]
          rfl
         refine pure_ (i:=12) (N:=some 26) (v:=undef) (a':=?_) #[true,true,true,true,true,true,true,true,true,true,true,true,true,false,false,false,false] rfl rfl (any_of HT_.out (by kernel_rfl)) (fun _ _ _ h=>h) (Or.inr ⟨by rfl,rfl⟩) ?_ ?_
         rotate_left
         ·simp only[Act.put,pu_]
          rfl
         refine pure_ (i:=13) (N:=some 27) (v:=undef) (a':=?_) #[true,true,true,true,true,true,true,true,true,true,true,true,true,true,false,false,false] rfl rfl (any_of HT_.out (by kernel_rfl)) (fun _ _ _ h=>h) (Or.inr ⟨by rfl,rfl⟩) ?_ ?_
         rotate_left
         ·simp only[Act.put,pu_]
          rfl
         refine pure_ (i:=14) (N:=some 28) (v:=undef) (a':=?_) #[true,true,true,true,true,true,true,true,true,true,true,true,true,true,true,false,false] rfl rfl (any_of HT_.out (by kernel_rfl)) (fun _ _ _ h=>h) (Or.inr ⟨by rfl,rfl⟩) ?_ ?_
         rotate_left
         ·simp only[Act.put,pu_]
          rfl
         refine pure_ (i:=15) (N:=some 29) (v:=?_) (a':=?_) #[true,true,true,true,true,true,true,true,true,true,true,true,true,true,true,true,false] rfl rfl (any_of HT_.out (by kernel_rfl)) (fun _ _ _ h=>h) (Or.inl ⟨by rfl,?_⟩) ?_ ?_
         rotate_left
         ·intro w'
          go_simp
          with_reducible rfl
         rotate_left
         ·simp only[Act.put,pu_]
          rfl
         refine pure_ (i:=16) (N:=some 30) (v:=?_) (a':=?_) #[true,true,true,true,true,true,true,true,true,true,true,true,true,true,true,true,true] rfl rfl (any_of HT_.out (by kernel_rfl)) (fun _ _ _ h=>h) (Or.inl ⟨by rfl,?_⟩) ?_ ?_
         rotate_left
         ·intro w'
          go_simp
          with_reducible rfl
         rotate_left
         ·simp only[Act.put,pu_]
          rfl
         refine done_ (done_of HT_.out (by kernel_rfl)) ?_
         try go_wp2
         go_meet
         case rel=>exact⟨_,(false),(a6_),H',⟨by have:=HK1.out;first | omega | exact Nat.le_refl _⟩,⟨(a3_ BK110.out)⟩,⟨(a1_ GE110.out)⟩⟩
       ·replace c9:=Bool.eq_false_iff.mpr c9
        subst c9
        replace H:(spec_shGood.j1 k1 l0 x9_1 l0 (l0.length:Int) x9_1 true ((rd_T47 l0 x9_1).f0) ((rd_T47 l0 x9_1).f1) ((rd_T47 l0 x9_1).f2))=some r:=by rw[if_neg (show ¬(false=true) by decide)]at H;exact H
        have H':=am_ H
        clear H
        try go_wp2
        have n0_:Aside0 ((((w6.setCell ⟨gb110,0,none⟩ (.int .i64 ((rd_T47 l0 x9_1).f0))).setCell ⟨gb110,1,none⟩ (.int .i64 ((rd_T47 l0 x9_1).f1))).setCell ⟨gb110,2,none⟩ (.int .i64 ((rd_T47 l0 x9_1).f2))).heap[gb110]? = some (.cells #[.int .i64 ((rd_T47 l0 x9_1).f0), .int .i64 ((rd_T47 l0 x9_1).f1), .int .i64 ((rd_T47 l0 x9_1).f2)] 47 (0,0))):=⟨(a16_ BK110.out)⟩
        have n1_:Aside0 (Below w.heap.size w (((w6.setCell ⟨gb110,0,none⟩ (.int .i64 ((rd_T47 l0 x9_1).f0))).setCell ⟨gb110,1,none⟩ (.int .i64 ((rd_T47 l0 x9_1).f1))).setCell ⟨gb110,2,none⟩ (.int .i64 ((rd_T47 l0 x9_1).f2)))):=⟨(a1_ GE110.out)⟩
        (try clear BK110)
        (try clear HB)
        generalize (((w6.setCell ⟨gb110,0,none⟩ (.int .i64 ((rd_T47 l0 x9_1).f0))).setCell ⟨gb110,1,none⟩ (.int .i64 ((rd_T47 l0 x9_1).f1))).setCell ⟨gb110,2,none⟩ (.int .i64 ((rd_T47 l0 x9_1).f2)))=w22 at n0_ n1_ ⊢
        have BK110:=n0_
        have HB:=n1_
        clear n0_ n1_
        replace BK110:=am_ (blk_drew BK110.out)
        replace HB:=am_ (below_drew1 HB.out)
        refine start_ (n:=17) (S:=fun w'=>w'.cell? ⟨gb110,0,none⟩=some (.int .i64 ((rd_T47 l0 x9_1).f0))∧w'.cell? ⟨gb110,1,none⟩=some (.int .i64 ((rd_T47 l0 x9_1).f1))∧w'.cell? ⟨gb110,2,none⟩=some (.int .i64 ((rd_T47 l0 x9_1).f2))) (ds:=[]) #[false,false,false,false,false,false,false,false,false,false,false,false,false,false,false,false,false] (by kernel_rfl) rfl rfl ⟨(blk_cell BK110.out 0).trans rfl,(blk_cell BK110.out 1).trans rfl,(blk_cell BK110.out 2).trans rfl⟩ (fun hHeld=>?_);refine with_tabW spec_shGood.tab4 spec_shGood.bits4 (fun HT_ HW_=>?_)
        generalize w22.drew=w23 at BK110 HB hHeld ⊢
        refine take_ (i:=0) (N:=some 14) (v:=?_) (a':=?_) #[true,false,false,false,false,false,false,false,false,false,false,false,false,false,false,false,false] rfl rfl (take_ofW HT_.out HW_.out (by kernel_rfl)) (fun _ _ _ h=>h) (Or.inl ⟨by rfl,?_⟩) hHeld ?_ ?_
        rotate_left
        ·rintro w' ⟨s0,s1,s2⟩
         go_simp
         with_reducible rfl
        rotate_left
        ·simp only[Act.put,pu_]
         rfl
        refine one_ (i:=1) (N:=some 15) #[true,true,false,false,false,false,false,false,false,false,false,false,false,false,false,false,false] rfl rfl (one_of HT_.out (by kernel_rfl)) (by decide) (fun K hK=>?_)
        refine goes_ Try.func40 (by kernel_rfl) rfl #[.agg #[.int .i64 ((rd_T47 l0 x9_1).f0), .int .i64 ((rd_T47 l0 x9_1).f1), .int .i64 ((rd_T47 l0 x9_1).f2)]] (by rfl) rfl rfl (by(try simp only[List.map_toArray,List.map_cons,List.map_nil]);first | done | rfl | (simp only[List.length_drop,List.length_take];rfl)) ?_
        with_reducible refine(spec_shHole.calls ((rd_T47 l0 x9_1).f0) ((rd_T47 l0 x9_1).f1) ((rd_T47 l0 x9_1).f2) false _ A8.out).mono ?_
        rintro e w24 ⟨rfl,hb⟩
        refine⟨_,rfl,?_⟩
        replace BK110:=am_ (blk_below (g:=gb110) (o:= .cells #[.int .i64 ((rd_T47 l0 x9_1).f0), .int .i64 ((rd_T47 l0 x9_1).f1), .int .i64 ((rd_T47 l0 x9_1).f2)] 47 (0,0)) ((a3_ BK110.out)) hb)
        replace HB:=am_ (below_step ((a1_ GE110.out)) hb)
        (try clear hb)
        (try clear hb2)
        (try clear hk)
        (try clear hi)
        refine hK.out _ _ ⟨(blk_cell BK110.out 0).trans rfl,(blk_cell BK110.out 1).trans rfl,(blk_cell BK110.out 2).trans rfl⟩ (fun hHeld=>?_)
        clear hK K
        refine norm_ (a':=?_) ?_ ?_
        rotate_left
        ·show Act.put _ (some 15) _=_
         simp only[Act.put,pu_]
         rfl
        refine pure_ (i:=2) (N:=some 16) (v:=?_) (a':=?_) #[true,true,true,false,false,false,false,false,false,false,false,false,false,false,false,false,false] rfl rfl (any_of HT_.out (by kernel_rfl)) (fun _ _ _ h=>h) (Or.inl ⟨by rfl,?_⟩) ?_ ?_
        rotate_left
        ·intro w'
         go_simp
         with_reducible rfl
        rotate_left
        ·simp only[Act.put,pu_]
         rfl
        refine pure_ (i:=3) (N:=some 17) (v:=?_) (a':=?_) #[true,true,true,true,false,false,false,false,false,false,false,false,false,false,false,false,false] rfl rfl (any_of HT_.out (by kernel_rfl)) (fun _ _ _ h=>h) (Or.inl ⟨by rfl,?_⟩) ?_ ?_
        rotate_left
        ·intro w'
         go_simp
         with_reducible rfl
        rotate_left
        ·simp only[Act.put,pu_]
         rfl
        refine pure_ (i:=4) (N:=some 18) (v:=undef) (a':=?_) #[true,true,true,true,true,false,false,false,false,false,false,false,false,false,false,false,false] rfl rfl (any_of HT_.out (by kernel_rfl)) (fun _ _ _ h=>h) (Or.inr ⟨by rfl,rfl⟩) ?_ ?_
        rotate_left
        ·simp only[Act.put,pu_]
         rfl
        refine pure_ (i:=5) (N:=some 19) (v:=undef) (a':=?_) #[true,true,true,true,true,true,false,false,false,false,false,false,false,false,false,false,false] rfl rfl (any_of HT_.out (by kernel_rfl)) (fun _ _ _ h=>h) (Or.inr ⟨by rfl,rfl⟩) ?_ ?_
        rotate_left
        ·simp only[Act.put,pu_]
         rfl
        refine pure_ (i:=6) (N:=some 20) (v:=undef) (a':=?_) #[true,true,true,true,true,true,true,false,false,false,false,false,false,false,false,false,false] rfl rfl (any_of HT_.out (by kernel_rfl)) (fun _ _ _ h=>h) (Or.inr ⟨by rfl,rfl⟩) ?_ ?_
        rotate_left
        ·simp only[Act.put,pu_]
         rfl
        refine pure_ (i:=7) (N:=some 21) (v:=undef) (a':=?_) #[true,true,true,true,true,true,true,true,false,false,false,false,false,false,false,false,false] rfl rfl (any_of HT_.out (by kernel_rfl)) (fun _ _ _ h=>h) (Or.inr ⟨by rfl,rfl⟩) ?_ ?_
        rotate_left
        ·simp only[Act.put,pu_]
         rfl
        refine pure_ (i:=8) (N:=some 22) (v:=undef) (a':=?_) #[true,true,true,true,true,true,true,true,true,false,false,false,false,false,false,false,false] rfl rfl (any_of HT_.out (by kernel_rfl)) (fun _ _ _ h=>h) (Or.inr ⟨by rfl,rfl⟩) ?_ ?_
        rotate_left
        ·simp only[Act.put,pu_]
         rfl
        refine pure_ (i:=9) (N:=some 23) (v:=undef) (a':=?_) #[true,true,true,true,true,true,true,true,true,true,false,false,false,false,false,false,false] rfl rfl (any_of HT_.out (by kernel_rfl)) (fun _ _ _ h=>h) (Or.inr ⟨by rfl,rfl⟩) ?_ ?_
        rotate_left
        ·simp only[Act.put,pu_]
         rfl
        refine pure_ (i:=10) (N:=some 24) (v:=undef) (a':=?_) #[true,true,true,true,true,true,true,true,true,true,true,false,false,false,false,false,false] rfl rfl (any_of HT_.out (by kernel_rfl)) (fun _ _ _ h=>h) (Or.inr ⟨by rfl,rfl⟩) ?_ ?_
        rotate_left
        ·simp only[Act.put,pu_]
         rfl
        refine pure_ (i:=11) (N:=some 25) (v:=undef) (a':=?_) #[true,true,true,true,true,true,true,true,true,true,true,true,false,false,false,false,false] rfl rfl (any_of HT_.out (by kernel_rfl)) (fun _ _ _ h=>h) (Or.inr ⟨by rfl,rfl⟩) ?_ ?_
        rotate_left
        ·simp only[Act.put,pu_]
         rfl
        refine pure_ (i:=12) (N:=some 26) (v:=undef) (a':=?_) #[true,true,true,true,true,true,true,true,true,true,true,true,true,false,false,false,false] rfl rfl (any_of HT_.out (by kernel_rfl)) (fun _ _ _ h=>h) (Or.inr ⟨by rfl,rfl⟩) ?_ ?_
        rotate_left
        ·simp only[Act.put,pu_]
         rfl
        refine pure_ (i:=13) (N:=some 27) (v:=undef) (a':=?_) #[true,true,true,true,true,true,true,true,true,true,true,true,true,true,false,false,false] rfl rfl (any_of HT_.out (by kernel_rfl)) (fun _ _ _ h=>h) (Or.inr ⟨by rfl,rfl⟩) ?_ ?_
        rotate_left
        ·simp only[Act.put,pu_]
         rfl
        refine pure_ (i:=14) (N:=some 28) (v:=undef) (a':=?_) #[true,true,true,true,true,true,true,true,true,true,true,true,true,true,true,false,false] rfl rfl (any_of HT_.out (by kernel_rfl)) (fun _ _ _ h=>h) (Or.inr ⟨by rfl,rfl⟩) ?_ ?_
        rotate_left
        ·simp only[Act.put,pu_]
         rfl
        refine pure_ (i:=15) (N:=some 29) (v:=undef) (a':=?_) #[true,true,true,true,true,true,true,true,true,true,true,true,true,true,true,true,false] rfl rfl (any_of HT_.out (by kernel_rfl)) (fun _ _ _ h=>h) (Or.inr ⟨by rfl,rfl⟩) ?_ ?_
        rotate_left
        ·simp only[Act.put,pu_]
         rfl
        refine pure_ (i:=16) (N:=some 30) (v:=?_) (a':=?_) #[true,true,true,true,true,true,true,true,true,true,true,true,true,true,true,true,true] rfl rfl (any_of HT_.out (by kernel_rfl)) (fun _ _ _ h=>h) (Or.inl ⟨by rfl,?_⟩) ?_ ?_
        rotate_left
        ·intro w'
         go_simp
         with_reducible rfl
        rotate_left
        ·simp only[Act.put,pu_]
         rfl
        refine done_ (done_of HT_.out (by kernel_rfl)) ?_
        try go_wp2
        go_meet
        case rel=>exact⟨_,(true),(a6_),H',⟨by have:=HK1.out;first | omega | exact Nat.le_refl _⟩,⟨(a3_ BK110.out)⟩,⟨(a1_ GE110.out)⟩⟩
      case rest=>
       clear HC5
       try clear c1
       try clear p1
       try clear q1
       try clear hx1
       try clear c2
       try clear c2b0
       try clear p2
       try clear c3
       try clear c3b0
       try clear c4
       try clear c4b0
       try clear p6
       try clear c9
       try clear c10
       try clear c10b0
       try clear p10
       try clear q10
       try clear hx10
       try clear p11
       try clear q11
       try clear hx11
       try clear c12
       try clear c12b0
       try clear c13
       try clear c13b0
       try clear hcz7_0
       try clear hcz7_1
       try clear hcz7_2
       try clear hfz7_0
       try clear hfz7_1
       try clear hfz7_2
       try clear hx109_0
       try clear hx109_1
       try clear hx109_2
       try clear hx112_0
       try clear hx112_1
       try clear hx112_2
       try clear p109
       try clear p112
       try clear q109
       try clear q112
       obtain⟨kq,x30_4,rfl,HA,HJ4,BK110,HB⟩:=hcut
       cases kq with
       | zero=>exact absurd HA.out (by simp[spec_shGood.j1])
       | succ kj4=>
        have H:=HA.out
        clear HA
        simp only[spec_shGood.j1]at H
        by_cases c25:x30_4=true
        ·subst c25
         replace H:(some false)=some r:=by rw[if_pos rfl]at H;exact H
         obtain rfl:=Option.some.inj H
         go_wp2
         go_ret
         exact⟨a5_,(a1_ GE110.out)⟩
        ·replace c25:=Bool.eq_false_iff.mpr c25
         subst c25
         replace H:(if 0≤x9_1 then(if x9_1≤(l0.length:Int) then((some (l0.take (x9_1:Int).toNat:List (S47))).bind fun y114=>(spec_shGood.l1 kj4 l0 l0 (l0.length:Int) x9_1 y114 (y114.length:Int) 0 ((rd_T47 l0 x9_1).f0) ((rd_T47 l0 x9_1).f1) ((rd_T47 l0 x9_1).f2))) else(none)) else(none))=some r:=by rw[if_neg (show ¬(false=true) by decide)]at H;exact H
         by_cases c26:0≤x9_1
         ·rw[if_pos c26]at H
          have c26b0:=eq_true c26
          have c26b1:decide (0≤x9_1)=true:=decide_eq_true c26
          clear c26
          by_cases c27:x9_1≤(l0.length:Int)
          ·rw[if_pos c27]at H
           have c27b0:=eq_true c27
           have c27b1:decide (x9_1≤(l0.length:Int))=true:=decide_eq_true c27
           clear c27
           obtain⟨y114,hy114⟩:∃y_:List (S47),y_=(l0.take (x9_1:Int).toNat):=⟨_,rfl⟩
           replace H:(spec_shGood.l1 kj4 l0 l0 (l0.length:Int) x9_1 y114 (y114.length:Int) 0 ((rd_T47 l0 x9_1).f0) ((rd_T47 l0 x9_1).f1) ((rd_T47 l0 x9_1).f2))=some r:=by first | (rw[hy114];with_reducible exact H) | (have H2_:=(Option.bind_some _ _).symm.trans H;rw[hy114];with_reducible exact H2_) | (have H2_:=(Option.bind_some _ _).symm.trans H;with_reducible exact H2_) | with_reducible exact H | (rw[hy114];exact H) | exact H
           have Ny114:=am_ hy114
           clear hy114
           have H':=am_ H
           clear H
           have q28:(x9_1:Int)≤((l0.length:Int):Int):=of_decide_eq_true (a4_)
           obtain⟨i028,hi028,_,hsz28,_⟩:=info_parts info47
           have hroom28:l0.length≤c0:=HC0.out
           have hC28:Kd.C k47 _ (some ad109) l0.length l0:=HR0.out
           have hcut28:=cut_to (P:=Try.prog) 26 47 .i64 Try.underlying26 hi028 (some ad109) l0.length c0 x9_1 (of_decide_eq_true (a4_)) q28 hroom28
           have hr28:=Kd.C_take (m:=(x9_1:Int).toNat) hC28 (by omega)
           have hy28:y114.length=(x9_1:Int).toNat:=(by rw[Ny114.out,List.length_take];omega)
           rw[← Ny114.out]at hr28
           rw[← hy28]at hcut28
           have HR117:=am_ hr28
           have HC117:=am_ (show y114.length≤c0 from by omega)
           clear hr28 hC28 hroom28 hi028 hsz28
           have KY28:=am_ hy28
           clear hy28
           replace q28:=eq_true q28
           go_wp2
           go_loopg [35] kj4 (fun kq v35 w'=>∃(x35_3:Int),v35 = .int .i64 x35_3∧Aside0 (spec_shGood.l1 kq l0 l0 (l0.length:Int) x9_1 y114 (y114.length:Int) x35_3 ((rd_T47 l0 x9_1).f0) ((rd_T47 l0 x9_1).f1) ((rd_T47 l0 x9_1).f2)=some r)∧Aside0 (kq≤kj4)∧Aside0 (w'.heap[gb110]? = some (.cells #[.int .i64 ((rd_T47 l0 x9_1).f0), .int .i64 ((rd_T47 l0 x9_1).f1), .int .i64 ((rd_T47 l0 x9_1).f2)] 47 (0,0)))∧Aside0 (Below w.heap.size w w'))
           case atStart=>exact⟨(0),(a6_),H',⟨Nat.le_refl _⟩,⟨(a3_ BK110.out)⟩,⟨(a1_ GE110.out)⟩⟩
           case round=>
            clear H'
            try clear c1
            try clear p1
            try clear q1
            try clear hx1
            try clear c2
            try clear c2b0
            try clear p2
            try clear q2
            try clear c3
            try clear c3b0
            try clear c4
            try clear c4b0
            try clear p6
            try clear c9
            try clear c10
            try clear c10b0
            try clear p10
            try clear q10
            try clear hx10
            try clear p11
            try clear q11
            try clear hx11
            try clear c12
            try clear c12b0
            try clear c13
            try clear c13b0
            try clear c25
            try clear c26
            try clear c26b0
            try clear c26b1
            try clear c27
            try clear c27b0
            try clear c27b1
            try clear q28
            try clear hcz7_0
            try clear hcz7_1
            try clear hcz7_2
            try clear hfz7_0
            try clear hfz7_1
            try clear hfz7_2
            try clear hx109_0
            try clear hx109_1
            try clear hx109_2
            try clear hx112_0
            try clear hx112_1
            try clear hx112_2
            try clear p1
            try clear p10
            try clear p109
            try clear p11
            try clear p112
            try clear p2
            try clear p6
            try clear q1
            try clear q10
            try clear q109
            try clear q11
            try clear q112
            try clear q28
            obtain⟨x35_3,rfl,HA,HK3,BK110,HB⟩:=hrel
            cases gk with
            | zero=>exact absurd HA.out (by simp[spec_shGood.l1])
            | succ k3=>
             have H:=HA.out
             clear HA
             simp only[spec_shGood.l1]at H
             by_cases c29:x35_3<(y114.length:Int)
             ·rw[if_pos c29]at H
              have c29b0:decide (x35_3<(y114.length:Int))=true:=decide_eq_true c29
              clear c29
              by_cases c30:0≤x35_3
              ·rw[if_pos c30]at H
               have c30b0:decide (0≤x35_3)=true:=decide_eq_true c30
               clear c30
               by_cases c31:x35_3<(y114.length:Int)
               ·rw[if_pos c31]at H
                have c31b0:decide (x35_3<(y114.length:Int))=true:=decide_eq_true c31
                clear c31
                by_cases c32:((rd_T47 l0 x9_1).f0)=((rd_T47 y114 x35_3).f0)
                ·rw[if_pos c32]at H
                 have c32b0:(((rd_T47 l0 x9_1).f0) == ((rd_T47 y114 x35_3).f0))=true:=beq_iff_eq.mpr c32
                 have c32b1:(((rd_T47 l0 x9_1).f0) != ((rd_T47 y114 x35_3).f0))=false:=bne_eq_false_iff_eq.mpr c32
                 clear c32
                 by_cases c33:((rd_T47 y114 x35_3).f2)≥((rd_T47 l0 x9_1).f1)
                 ·rw[if_pos c33]at H
                  have c33b0:decide (((rd_T47 l0 x9_1).f1)≤((rd_T47 y114 x35_3).f2))=true:=decide_eq_true c33
                  clear c33
                  obtain rfl:=Option.some.inj H
                  have p118:0≤(x35_3:Int):=of_decide_eq_true (a4_)
                  have q118:x35_3<(y114.length:Int):=of_decide_eq_true (a4_)
                  obtain⟨ad118,e118,hx118_0,hx118_1,hx118_2⟩:=at_T47 HR117.out x35_3 p118 q118
                  obtain rfl:ad109=ad118:=(by injection e118)
                  replace hx118_0:=(HB.out.cell (World.block_lt_of_cell? w _ hx118_0)).trans hx118_0
                  replace hx118_1:=(HB.out.cell (World.block_lt_of_cell? w _ hx118_1)).trans hx118_1
                  replace hx118_2:=(HB.out.cell (World.block_lt_of_cell? w _ hx118_2)).trans hx118_2
                  replace p118:=eq_true p118
                  replace q118:=eq_true q118
                  go_wp2_with (first | ((with_reducible refine gate_dst (N:=6) rfl ?_);refine box_event ?hg (N:=6) ?hd (cs:= #[.int .i64 0, .int .i64 0, .int .i64 0]) (t:=47) ?hr ?_;(case hd=>rfl);(case hg=>rfl);(case hr=>exact a12_);intro gb119 hg w34 hbox hb;have BK119:=am_ (hbox);have GW119:=am_ ((by rw[hg];exact(below_size ((a1_ GE110.out))):w.heap.size≤gb119));have GE119:=am_ ((by rw[hg];exact(below_size ((a1_ GE110.out))):w.heap.size≤gb119));replace HB:=am_ (below_step ((a1_ GE110.out)) hb);have NB110_119:=am_ ((by rw[hg];exact Nat.ne_of_lt (blk_lt (g:=gb110) (o:= .cells #[.int .i64 ((rd_T47 l0 x9_1).f0), .int .i64 ((rd_T47 l0 x9_1).f1), .int .i64 ((rd_T47 l0 x9_1).f2)] 47 (0,0)) ((a3_ BK110.out))):gb110≠gb119));have NB119_110:=am_ ((by rw[hg];exact Nat.ne_of_gt (blk_lt (g:=gb110) (o:= .cells #[.int .i64 ((rd_T47 l0 x9_1).f0), .int .i64 ((rd_T47 l0 x9_1).f1), .int .i64 ((rd_T47 l0 x9_1).f2)] 47 (0,0)) ((a3_ BK110.out))):gb119≠gb110));replace BK110:=am_ (blk_below (g:=gb110) (o:= .cells #[.int .i64 ((rd_T47 l0 x9_1).f0), .int .i64 ((rd_T47 l0 x9_1).f1), .int .i64 ((rd_T47 l0 x9_1).f2)] 47 (0,0)) ((a3_ BK110.out)) hb);clear hb hbox hg;have hnb35:=NB119_110.out;have hnc35:=NB110_119.out;have hcz36_0:w34.cell? ⟨gb119,0,none⟩=some (.int .i64 0):=(blk_cell BK119.out 0).trans rfl;have hcz36_1:w34.cell? ⟨gb119,1,none⟩=some (.int .i64 0):=(blk_cell BK119.out 1).trans rfl;have hcz36_2:w34.cell? ⟨gb119,2,none⟩=some (.int .i64 0):=(blk_cell BK119.out 2).trans rfl;have hfz36_0:=blk_frozen BK119.out 0;have hfz36_1:=blk_frozen BK119.out 1;have hfz36_2:=blk_frozen BK119.out 2;have hcz37_0:w34.cell? ⟨gb110,0,none⟩=some (.int .i64 ((rd_T47 l0 x9_1).f0)):=(blk_cell BK110.out 0).trans rfl;have hcz37_1:w34.cell? ⟨gb110,1,none⟩=some (.int .i64 ((rd_T47 l0 x9_1).f1)):=(blk_cell BK110.out 1).trans rfl;have hcz37_2:w34.cell? ⟨gb110,2,none⟩=some (.int .i64 ((rd_T47 l0 x9_1).f2)):=(blk_cell BK110.out 2).trans rfl;have hfz37_0:=blk_frozen BK110.out 0;have hfz37_1:=blk_frozen BK110.out 1;have hfz37_2:=blk_frozen BK110.out 2))
                  go_ret
                  exact⟨a5_,(a7_ GE110.out GE119.out)⟩
                 ·rw[if_neg c33]at H
                  have c33b0:decide (((rd_T47 l0 x9_1).f1)≤((rd_T47 y114 x35_3).f2))=false:=decide_eq_false c33
                  clear c33
                  have H':=am_ H
                  clear H
                  have p118:0≤(x35_3:Int):=of_decide_eq_true (a4_)
                  have q118:x35_3<(y114.length:Int):=of_decide_eq_true (a4_)
                  obtain⟨ad118,e118,hx118_0,hx118_1,hx118_2⟩:=at_T47 HR117.out x35_3 p118 q118
                  obtain rfl:ad109=ad118:=(by injection e118)
                  replace hx118_0:=(HB.out.cell (World.block_lt_of_cell? w _ hx118_0)).trans hx118_0
                  replace hx118_1:=(HB.out.cell (World.block_lt_of_cell? w _ hx118_1)).trans hx118_1
                  replace hx118_2:=(HB.out.cell (World.block_lt_of_cell? w _ hx118_2)).trans hx118_2
                  replace p118:=eq_true p118
                  replace q118:=eq_true q118
                  go_wp2_with (first | ((with_reducible refine gate_dst (N:=6) rfl ?_);refine box_event ?hg (N:=6) ?hd (cs:= #[.int .i64 0, .int .i64 0, .int .i64 0]) (t:=47) ?hr ?_;(case hd=>rfl);(case hg=>rfl);(case hr=>exact a12_);intro gb119 hg w38 hbox hb;have BK119:=am_ (hbox);have GW119:=am_ ((by rw[hg];exact(below_size ((a1_ GE110.out))):w.heap.size≤gb119));have GE119:=am_ ((by rw[hg];exact(below_size ((a1_ GE110.out))):w.heap.size≤gb119));replace HB:=am_ (below_step ((a1_ GE110.out)) hb);have NB110_119:=am_ ((by rw[hg];exact Nat.ne_of_lt (blk_lt (g:=gb110) (o:= .cells #[.int .i64 ((rd_T47 l0 x9_1).f0), .int .i64 ((rd_T47 l0 x9_1).f1), .int .i64 ((rd_T47 l0 x9_1).f2)] 47 (0,0)) ((a3_ BK110.out))):gb110≠gb119));have NB119_110:=am_ ((by rw[hg];exact Nat.ne_of_gt (blk_lt (g:=gb110) (o:= .cells #[.int .i64 ((rd_T47 l0 x9_1).f0), .int .i64 ((rd_T47 l0 x9_1).f1), .int .i64 ((rd_T47 l0 x9_1).f2)] 47 (0,0)) ((a3_ BK110.out))):gb119≠gb110));replace BK110:=am_ (blk_below (g:=gb110) (o:= .cells #[.int .i64 ((rd_T47 l0 x9_1).f0), .int .i64 ((rd_T47 l0 x9_1).f1), .int .i64 ((rd_T47 l0 x9_1).f2)] 47 (0,0)) ((a3_ BK110.out)) hb);clear hb hbox hg;have hnb39:=NB119_110.out;have hnc39:=NB110_119.out;have hcz40_0:w38.cell? ⟨gb119,0,none⟩=some (.int .i64 0):=(blk_cell BK119.out 0).trans rfl;have hcz40_1:w38.cell? ⟨gb119,1,none⟩=some (.int .i64 0):=(blk_cell BK119.out 1).trans rfl;have hcz40_2:w38.cell? ⟨gb119,2,none⟩=some (.int .i64 0):=(blk_cell BK119.out 2).trans rfl;have hfz40_0:=blk_frozen BK119.out 0;have hfz40_1:=blk_frozen BK119.out 1;have hfz40_2:=blk_frozen BK119.out 2;have hcz41_0:w38.cell? ⟨gb110,0,none⟩=some (.int .i64 ((rd_T47 l0 x9_1).f0)):=(blk_cell BK110.out 0).trans rfl;have hcz41_1:w38.cell? ⟨gb110,1,none⟩=some (.int .i64 ((rd_T47 l0 x9_1).f1)):=(blk_cell BK110.out 1).trans rfl;have hcz41_2:w38.cell? ⟨gb110,2,none⟩=some (.int .i64 ((rd_T47 l0 x9_1).f2)):=(blk_cell BK110.out 2).trans rfl;have hfz41_0:=blk_frozen BK110.out 0;have hfz41_1:=blk_frozen BK110.out 1;have hfz41_2:=blk_frozen BK110.out 2))
                  go_roundg k3
                  case measure=>have:=HK1.out;have:=HJ4.out;have:=HK3.out;omega
                  case rel=>exact⟨(wrap64 (x35_3+1)),(a6_),H',⟨by have:=HK1.out;have:=HJ4.out;have:=HK3.out;omega⟩,⟨(a13_ NB110_119.out BK110.out)⟩,⟨(a7_ GE110.out GE119.out)⟩⟩
                ·rw[if_neg c32]at H
                 have c32b0:(((rd_T47 l0 x9_1).f0) == ((rd_T47 y114 x35_3).f0))=false:=beq_eq_false_iff_ne.mpr c32
                 have c32b1:(((rd_T47 l0 x9_1).f0) != ((rd_T47 y114 x35_3).f0))=true:=bne_iff_ne.mpr c32
                 have H':=am_ H
                 clear H
                 have p118:0≤(x35_3:Int):=of_decide_eq_true (a4_)
                 have q118:x35_3<(y114.length:Int):=of_decide_eq_true (a4_)
                 obtain⟨ad118,e118,hx118_0,hx118_1,hx118_2⟩:=at_T47 HR117.out x35_3 p118 q118
                 obtain rfl:ad109=ad118:=(by injection e118)
                 replace hx118_0:=(HB.out.cell (World.block_lt_of_cell? w _ hx118_0)).trans hx118_0
                 replace hx118_1:=(HB.out.cell (World.block_lt_of_cell? w _ hx118_1)).trans hx118_1
                 replace hx118_2:=(HB.out.cell (World.block_lt_of_cell? w _ hx118_2)).trans hx118_2
                 replace p118:=eq_true p118
                 replace q118:=eq_true q118
                 go_wp2_with (first | ((with_reducible refine gate_dst (N:=6) rfl ?_);refine box_event ?hg (N:=6) ?hd (cs:= #[.int .i64 0, .int .i64 0, .int .i64 0]) (t:=47) ?hr ?_;(case hd=>rfl);(case hg=>rfl);(case hr=>exact a12_);intro gb119 hg w42 hbox hb;have BK119:=am_ (hbox);have GW119:=am_ ((by rw[hg];exact(below_size ((a1_ GE110.out))):w.heap.size≤gb119));have GE119:=am_ ((by rw[hg];exact(below_size ((a1_ GE110.out))):w.heap.size≤gb119));replace HB:=am_ (below_step ((a1_ GE110.out)) hb);have NB110_119:=am_ ((by rw[hg];exact Nat.ne_of_lt (blk_lt (g:=gb110) (o:= .cells #[.int .i64 ((rd_T47 l0 x9_1).f0), .int .i64 ((rd_T47 l0 x9_1).f1), .int .i64 ((rd_T47 l0 x9_1).f2)] 47 (0,0)) ((a3_ BK110.out))):gb110≠gb119));have NB119_110:=am_ ((by rw[hg];exact Nat.ne_of_gt (blk_lt (g:=gb110) (o:= .cells #[.int .i64 ((rd_T47 l0 x9_1).f0), .int .i64 ((rd_T47 l0 x9_1).f1), .int .i64 ((rd_T47 l0 x9_1).f2)] 47 (0,0)) ((a3_ BK110.out))):gb119≠gb110));replace BK110:=am_ (blk_below (g:=gb110) (o:= .cells #[.int .i64 ((rd_T47 l0 x9_1).f0), .int .i64 ((rd_T47 l0 x9_1).f1), .int .i64 ((rd_T47 l0 x9_1).f2)] 47 (0,0)) ((a3_ BK110.out)) hb);clear hb hbox hg;have hnb43:=NB119_110.out;have hnc43:=NB110_119.out;have hcz44_0:w42.cell? ⟨gb119,0,none⟩=some (.int .i64 0):=(blk_cell BK119.out 0).trans rfl;have hcz44_1:w42.cell? ⟨gb119,1,none⟩=some (.int .i64 0):=(blk_cell BK119.out 1).trans rfl;have hcz44_2:w42.cell? ⟨gb119,2,none⟩=some (.int .i64 0):=(blk_cell BK119.out 2).trans rfl;have hfz44_0:=blk_frozen BK119.out 0;have hfz44_1:=blk_frozen BK119.out 1;have hfz44_2:=blk_frozen BK119.out 2;have hcz45_0:w42.cell? ⟨gb110,0,none⟩=some (.int .i64 ((rd_T47 l0 x9_1).f0)):=(blk_cell BK110.out 0).trans rfl;have hcz45_1:w42.cell? ⟨gb110,1,none⟩=some (.int .i64 ((rd_T47 l0 x9_1).f1)):=(blk_cell BK110.out 1).trans rfl;have hcz45_2:w42.cell? ⟨gb110,2,none⟩=some (.int .i64 ((rd_T47 l0 x9_1).f2)):=(blk_cell BK110.out 2).trans rfl;have hfz45_0:=blk_frozen BK110.out 0;have hfz45_1:=blk_frozen BK110.out 1;have hfz45_2:=blk_frozen BK110.out 2))
                 go_roundg k3
                 case measure=>have:=HK1.out;have:=HJ4.out;have:=HK3.out;omega
                 case rel=>exact⟨(wrap64 (x35_3+1)),(a6_),H',⟨by have:=HK1.out;have:=HJ4.out;have:=HK3.out;omega⟩,⟨(a13_ NB110_119.out BK110.out)⟩,⟨(a7_ GE110.out GE119.out)⟩⟩
               ·rw[if_neg c31]at H
                exact absurd H (by simp)
              ·rw[if_neg c30]at H
               exact absurd H (by simp)
             ·rw[if_neg c29]at H
              have c29b0:decide (x35_3<(y114.length:Int))=false:=decide_eq_false c29
              clear c29
              have H':=am_ H
              clear H
              go_wp2
              go_roundg k3
              case measure=>have:=HK1.out;have:=HJ4.out;have:=HK3.out;omega
              case rel=>exact⟨(wrap64 (x9_1+1)),(a6_),H',⟨by have:=HK1.out;have:=HJ4.out;have:=HK3.out;omega⟩,⟨(a1_ GE110.out)⟩⟩
          ·rw[if_neg c27]at H
           exact absurd H (by simp)
         ·rw[if_neg c26]at H
          exact absurd H (by simp)
     ·rw[if_neg c4]at H
      exact absurd H (by simp)
    ·rw[if_neg c3]at H
     exact absurd H (by simp)
   ·rw[if_neg c2]at H
    have c2b0:decide (x9_1<(l0.length:Int))=false:=decide_eq_false c2
    clear c2
    obtain rfl:=Option.some.inj H
    go_wp2
    go_ret
    exact⟨a5_,a0_⟩

end Go.Proofs.Ytbbiihhaljigjaa.QFnExactMakeEdition
