/- Written by a program of this session (the kit's printer, with leaf contracts proved by hand put in): what each Go function computes, and that the call computes it. No condition but those that each theorem names. -/
import Derived.Test.YtplpjmhmochcfaaGreatQFnDifferencesx0
import Derived.Test.YtplpjmhmochcfaaGreatQFnDifferencesx2
import Derived.Test.YtplpjmhmochcfaaGreatQFnDifferencesx3
namespace Go.Proofs.YtplpjmhmochcfaaGreat.QFnDifferences
open Go.RowKit Go.Proofs.YtplpjmhmochcfaaGreatW.PrintWords Go.Proofs.YtplpjmhmochcfaaGreatW.PrintLast Go.Proofs.YtplpjmhmochcfaaGreatW.PrintMore
attribute [local go_sem] max2_int min2_int max_two min_two max_three min_three max_four min_four   -- for this text's walks alone
set_option linter.unusedVariables false
set_option linter.unusedSimpArgs false

/-! ### spec_shSorted: function 63 -/
mutual
def spec_shSorted.l0:Nat→List (S40)→List (S40)→Int→Int→Option ((List (S40))×Bool)
 | 0,_,_,_,_=>none
 | k+1,x4,x8,x9,x10=>if x10<x9 then(if 0≤x10 then(if x10<(x8.length:Int) then(spec_shSorted.l1 k x4 (x4.length:Int) x8 x9 x10 ((rd_T40 x8 x10).f0) ((rd_T40 x8 x10).f1) ((rd_T40 x8 x10).f2)) else(none)) else(none)) else((spec_shGood.f k x4).bind fun t128=>(if t128=true then(some (x4,true)) else(some (([]:List (S40)),false))))
def spec_shSorted.l1:Nat→List (S40)→Int→List (S40)→Int→Int→Int→Int→Int→Option ((List (S40))×Bool)
 | 0,_,_,_,_,_,_,_,_=>none
 | k+1,x4,x7,x8,x9,x10,x131000,x131001,x131002=>if x7>0 then(if 0≤(wrap64 (x7-1)) then(if(wrap64 (x7-1))<(x4.length:Int) then((spec_shBefore.f x131000 x131001 x131002 ((rd_T40 x4 (wrap64 (x7-1))).f0) ((rd_T40 x4 (wrap64 (x7-1))).f1) ((rd_T40 x4 (wrap64 (x7-1))).f2)).bind fun t132=>(if t132=true then(spec_shSorted.l1 k x4 (wrap64 (x7-1)) x8 x9 x10 x131000 x131001 x131002) else((some (([]:List (S40)):List (S40))).bind fun y133=>(if 0≤x7 then(if x7≤(x4.length:Int) then((some (x4.take (x7:Int).toNat:List (S40))).bind fun y136=>(if y133.length+y136.length<5864062014805 then((some (y133 ++ y136:List (S40))).bind fun y140=>((some (([(⟨x131000,x131001,x131002⟩:S40)]:List (S40)):List (S40))).bind fun y143=>(if y140.length+y143.length<5864062014805 then((some (y140 ++ y143:List (S40))).bind fun y146=>((some (x4.drop (x7:Int).toNat:List (S40))).bind fun y149=>(if y146.length+y149.length<5864062014805 then(spec_shSorted.l0 k (y146 ++ y149) x8 x9 (wrap64 (x10+1))) else(none)))) else(none)))) else(none))) else(none)) else(none))))) else(none)) else(none)) else((some (([]:List (S40)):List (S40))).bind fun y156=>(if 0≤x7 then(if x7≤(x4.length:Int) then((some (x4.take (x7:Int).toNat:List (S40))).bind fun y159=>(if y156.length+y159.length<5864062014805 then((some (y156 ++ y159:List (S40))).bind fun y163=>((some (([(⟨x131000,x131001,x131002⟩:S40)]:List (S40)):List (S40))).bind fun y166=>(if y163.length+y166.length<5864062014805 then((some (y163 ++ y166:List (S40))).bind fun y169=>((some (x4.drop (x7:Int).toNat:List (S40))).bind fun y172=>(if y169.length+y172.length<5864062014805 then(spec_shSorted.l0 k (y169 ++ y172) x8 x9 (wrap64 (x10+1))) else(none)))) else(none)))) else(none))) else(none)) else(none)))
end
def spec_shSorted.f (k:Nat) (l0:List (S40)):Option ((List (S40))×Bool):=spec_shSorted.l0 k ([]:List (S40)) l0 (l0.length:Int) 0
theorem spec_shSorted.mono_l:∀k,(∀y0 y1 y2 y3,LeO (spec_shSorted.l0 k y0 y1 y2 y3) (spec_shSorted.l0 (k+1) y0 y1 y2 y3))∧(∀y0 y1 y2 y3 y4 y5 y6 y7,LeO (spec_shSorted.l1 k y0 y1 y2 y3 y4 y5 y6 y7) (spec_shSorted.l1 (k+1) y0 y1 y2 y3 y4 y5 y6 y7))
 | 0=>⟨fun _ _ _ _ r h=>by simp[spec_shSorted.l0]at h,fun _ _ _ _ _ _ _ _ r h=>by simp[spec_shSorted.l1]at h⟩
 | k+1=>by
  obtain⟨ih0,ih1⟩:=spec_shSorted.mono_l k
  refine⟨?_,?_⟩
  intros
  unfold spec_shSorted.l0
  rotate_left
  intros
  unfold spec_shSorted.l1
  rotate_left
  all_goals repeat' first|(with_reducible first|exact ih0 _ _ _ _|exact ih1 _ _ _ _ _ _ _ _|exact spec_shGood.mono _ _|exact LeO.refl _|exact LeO.none _|refine LeO.ite ?_ ?_|refine LeO.bind ?_ (fun _=>?_))|exact ih0 _ _ _ _|exact ih1 _ _ _ _ _ _ _ _|exact spec_shGood.mono _ _|exact LeO.none _|refine LeO.ite ?_ ?_|refine LeO.bind ?_ (fun _=>?_)
theorem spec_shSorted.mono:∀a0 k,LeO (spec_shSorted.f k a0) (spec_shSorted.f (k+1) a0):=by
 intro a0 k
 obtain⟨ih0,ih1⟩:=spec_shSorted.mono_l k
 unfold spec_shSorted.f
 repeat' first
  |(with_reducible exact ih0 _ _ _ _)
  |(with_reducible exact ih1 _ _ _ _ _ _ _ _)
  |(with_reducible exact spec_shGood.mono _ _)
  |(with_reducible exact LeO.refl _)
  |(with_reducible exact LeO.none _)
  |(with_reducible refine LeO.ite ?_ ?_)
  |(with_reducible refine LeO.bind ?_ (fun _=>?_))
  |exact ih0 _ _ _ _
  |exact ih1 _ _ _ _ _ _ _ _
  |exact spec_shGood.mono _ _
  |exact LeO.none _
   | refine LeO.ite ?_ ?_
   | refine LeO.bind ?_ (fun _=>?_)
def spec_shSorted.T6:Bool×List (List Nat×List Nat):=(true, [([], []),([0], [0]),([1], [1]),([2], [2]),([2], [2]),([2], [2]),([5,2], [2,5]),([4,6,2], [2,4,6]),([7,2], [2,7]),([3,8,2,2], [2,3,8]),([2,9], [2,9])])
def spec_shSorted.B6:List Nat:=[0,1,3,7,7,7,39,119,247,511,1023]
theorem spec_shSorted.tab6:rtab .any (opsOf Tryz.f63 6)=spec_shSorted.T6:=by kernel_rfl
theorem spec_shSorted.bits6:waitsOk spec_shSorted.T6.2 spec_shSorted.B6=true:=by kernel_rfl
def spec_shSorted.T8:Bool×List (List Nat×List Nat):=(true, [([], []),([], []),([], []),([1,2], [1,2]),([0,3], [0,3]),([], []),([5], [5]),([4,6,4], [4,6]),([], []),([], []),([8,9], [8,9]),([7,10,7], [7,10]),([11,11,0,1,2,3,4,5,6,7,8,9,10,11], [1,8,11])])
def spec_shSorted.B8:List Nat:=[0,0,0,6,15,0,32,127,0,0,768,2047,4095]
theorem spec_shSorted.tab8:rtab .any (opsOf Tryz.f63 8)=spec_shSorted.T8:=by kernel_rfl
theorem spec_shSorted.bits8:waitsOk spec_shSorted.T8.2 spec_shSorted.B8=true:=by kernel_rfl
set_option maxHeartbeats 8000000 in
set_option maxRecDepth 100000 in
theorem spec_shSorted.calls (k:Nat) (A0:Option Addr) (c0:Nat) (l0:List (S40)) (r1:List (S40)) (r2:Bool) (w:World) (hr0:Kd.C k40 w A0 l0.length l0) (hc0:l0.length≤c0) (h:spec_shSorted.f k l0=some (r1,r2)) :
 Calls Tryz.prog 63 #[.slice A0 l0.length c0] w fun e w'=>∃v0_:Value,e = .returned (.tuple #[v0_, .bool r2])∧Kd.R k40 40 w' w.heap.size (fun _=>True) v0_ r1∧Below w.heap.size w w':=by
 have hu40:=Tryz.underlying40
 have HR0:=am_ hr0
 have HC0:=am_ hc0
 clear hr0 hc0
 have HB:=am_ (Below.refl w.heap.size w)
 have H:(spec_shSorted.l0 k ([]:List (S40)) l0 (l0.length:Int) 0)=some (r1,r2):=h
 clear h
 have H':=am_ H
 clear H
 go_enter Tryz.func63,Tryz.ntmps63
 go_wp2
 (try simp only[Act.put,List.setIfInBounds_toArray,List.set_cons_zero,List.set_cons_succ])
 go_loopg [4,10] k (fun kq v4 v10 w'=>∃(x4_1:List (S40)) (x10_1:Int),v10 = .int .i64 x10_1∧Aside0 (spec_shSorted.l0 kq x4_1 l0 (l0.length:Int) x10_1=some (r1,r2))∧Aside0 (kq≤k)∧Aside0 (Kd.R k40 40 w' w.heap.size (fun _=>True) v4 x4_1)∧Aside0 (Below w.heap.size w w'))
 case atStart=>exact⟨(([]:List (S40))),(0),(by first | rfl|(simp;done)|(simp[*];done)),H',⟨Nat.le_refl _⟩,⟨a23_⟩,⟨a1_⟩⟩
 case round=>
  clear H'
  obtain⟨x4_1,x10_1,rfl,HA,HK1,HO_4,HB⟩:=hrel
  cases gk with
  | zero=>exact absurd HA.out (by simp[spec_shSorted.l0])
  | succ k1=>
   have H:=HA.out
   clear HA
   simp only[spec_shSorted.l0]at H
   by_cases c2:x10_1<(l0.length:Int)
   ·rw[if_pos c2]at H
    have c2b0:decide (x10_1<(l0.length:Int))=true:=decide_eq_true c2
    clear c2
    by_cases c3:0≤x10_1
    ·rw[if_pos c3]at H
     have c3b0:decide (0≤x10_1)=true:=decide_eq_true c3
     clear c3
     by_cases c4:x10_1<(l0.length:Int)
     ·rw[if_pos c4]at H
      have c4b0:decide (x10_1<(l0.length:Int))=true:=decide_eq_true c4
      clear c4
      have H':=am_ H
      clear H
      have p129:0≤(x10_1:Int):=of_decide_eq_true (a12_)
      have q129:x10_1<(l0.length:Int):=of_decide_eq_true (a12_)
      obtain⟨ad129,e129,hx129_0,hx129_1,hx129_2⟩:=at_T40 HR0.out x10_1 p129 q129
      cases e129
      replace hx129_0:=(HB.out.cell (World.block_lt_of_cell? w _ hx129_0)).trans hx129_0
      replace hx129_1:=(HB.out.cell (World.block_lt_of_cell? w _ hx129_1)).trans hx129_1
      replace hx129_2:=(HB.out.cell (World.block_lt_of_cell? w _ hx129_2)).trans hx129_2
      replace p129:=eq_true p129
      replace q129:=eq_true q129
      go_wp2_with (first|((with_reducible refine gate_dst (N:=6) rfl ?_);refine box_event ?hg (N:=6) ?hd (cs:= #[.int .i64 0, .int .i64 0, .int .i64 0]) (t:=40) ?hr ?_;(case hd=>rfl);(case hg=>rfl);(case hr=>exact hr_);intro gb130 hg w5 hbox hb;replace HO_4:=am_ (Kd.R_below (Kd.R_elderB ((a0_ HO_4.out)) gb130 (Nat.le_of_eq hg.symm)) hb);have BK130:=am_ (hbox);have GW130:=am_ ((by rw[hg];exact(below_size (a1_)):w.heap.size≤gb130));have GE130:=am_ ((by rw[hg];exact(below_size (a1_)):w.heap.size≤gb130));replace HB:=am_ (below_step (a1_) hb);clear hb hbox hg;have hcz6_0:w5.cell? ⟨gb130,0,none⟩=some (.int .i64 0):=(blk_cell BK130.out 0).trans rfl;have hcz6_1:w5.cell? ⟨gb130,1,none⟩=some (.int .i64 0):=(blk_cell BK130.out 1).trans rfl;have hcz6_2:w5.cell? ⟨gb130,2,none⟩=some (.int .i64 0):=(blk_cell BK130.out 2).trans rfl;have hfz6_0:=blk_frozen BK130.out 0;have hfz6_1:=blk_frozen BK130.out 1;have hfz6_2:=blk_frozen BK130.out 2;obtain⟨Ao7,co7,eo7⟩:=Kd.R_slice HO_4.out;subst eo7))
      (try simp only[Act.put,List.setIfInBounds_toArray,List.set_cons_zero,List.set_cons_succ])
      go_loopg [7] k1 (fun kq v7 w'=>∃(x7_2:Int),v7 = .int .i64 x7_2∧Aside0 (spec_shSorted.l1 kq x4_1 x7_2 l0 (l0.length:Int) x10_1 ((rd_T40 l0 x10_1).f0) ((rd_T40 l0 x10_1).f1) ((rd_T40 l0 x10_1).f2)=some (r1,r2))∧Aside0 (kq≤k1)∧Aside0 (Kd.R k40 40 w' w.heap.size (fun k_=>k_≠gb130) (.slice Ao7 x4_1.length co7) x4_1)∧Aside0 (w'.heap[gb130]? = some (.cells #[.int .i64 ((rd_T40 l0 x10_1).f0), .int .i64 ((rd_T40 l0 x10_1).f1), .int .i64 ((rd_T40 l0 x10_1).f2)] 40 (0,0)))∧Aside0 (Below w.heap.size w w'))
      case atStart=>exact⟨((x4_1.length:Int)),(by first | rfl|(simp;done)|(simp[*];done)),H',⟨Nat.le_refl _⟩,⟨by(with_reducible repeat (first|apply Kd.R_alloc|apply Kd.R_drewN|apply Kd.R_drew));exact Kd.R_mono (Kd.R_far (p:=⟨gb130,2,none⟩) (Kd.R_far (p:=⟨gb130,1,none⟩) (Kd.R_far (p:=⟨gb130,0,none⟩) (Kd.R_mono HO_4.out (fun k_ hk=>(⟨hk,hk.2⟩:_∧k_≠gb130))) (fun _ hk=>hk.2) (.int .i64 ((rd_T40 l0 x10_1).f0))) (fun _ hk=>hk.2) (.int .i64 ((rd_T40 l0 x10_1).f1))) (fun _ hk=>hk.2) (.int .i64 ((rd_T40 l0 x10_1).f2))) (fun _ hk=>hk.1.2)⟩,⟨(a27_ BK130.out)⟩,⟨(a4_ GE130.out)⟩⟩
      case round=>
       clear H'
       try clear p1
       try clear q1
       try clear hx1
       try clear c2
       try clear c2b0
       try clear p2
       try clear c3
       try clear c3b0
       try clear c4
       try clear c4b0
       try clear c6
       try clear hcz6_0
       try clear hcz6_1
       try clear hcz6_2
       try clear hfz6_0
       try clear hfz6_1
       try clear hfz6_2
       try clear hx129_0
       try clear hx129_1
       try clear hx129_2
       try clear p129
       try clear q129
       obtain⟨x7_2,rfl,HA,HK2,HO_4,BK130,HB⟩:=hrel
       cases gk with
       | zero=>exact absurd HA.out (by simp[spec_shSorted.l1])
       | succ k2=>
        have H:=HA.out
        clear HA
        simp only[spec_shSorted.l1]at H
        by_cases c8:x7_2>0
        ·rw[if_pos c8]at H
         have c8b0:decide (0<x7_2)=true:=decide_eq_true c8
         clear c8
         obtain⟨ji9,hji9⟩:∃j_:Int,(wrap64 (x7_2-1))=j_:=⟨_,rfl⟩
         replace H:(if 0≤(ji9) then(if(ji9)<(x4_1.length:Int) then((spec_shBefore.f ((rd_T40 l0 x10_1).f0) ((rd_T40 l0 x10_1).f1) ((rd_T40 l0 x10_1).f2) ((rd_T40 x4_1 (ji9)).f0) ((rd_T40 x4_1 (ji9)).f1) ((rd_T40 x4_1 (ji9)).f2)).bind fun t132=>(if t132=true then(spec_shSorted.l1 k2 x4_1 ji9 l0 (l0.length:Int) x10_1 ((rd_T40 l0 x10_1).f0) ((rd_T40 l0 x10_1).f1) ((rd_T40 l0 x10_1).f2)) else((some (([]:List (S40)):List (S40))).bind fun y133=>(if 0≤x7_2 then(if x7_2≤(x4_1.length:Int) then((some (x4_1.take (x7_2:Int).toNat:List (S40))).bind fun y136=>(if y133.length+y136.length<5864062014805 then((some (y133 ++ y136:List (S40))).bind fun y140=>((some (([(⟨((rd_T40 l0 x10_1).f0),((rd_T40 l0 x10_1).f1),((rd_T40 l0 x10_1).f2)⟩:S40)]:List (S40)):List (S40))).bind fun y143=>(if y140.length+y143.length<5864062014805 then((some (y140 ++ y143:List (S40))).bind fun y146=>((some (x4_1.drop (x7_2:Int).toNat:List (S40))).bind fun y149=>(if y146.length+y149.length<5864062014805 then(spec_shSorted.l0 k2 (y146 ++ y149) l0 (l0.length:Int) (wrap64 (x10_1+1))) else(none)))) else(none)))) else(none))) else(none)) else(none))))) else(none)) else(none))=some (r1,r2):=by first|(rw[hji9]at H;exact H)|(simp only[hji9]at H ⊢;exact H)
         have hji9w:(IntKind.i64.wrap (x7_2-1))=ji9:=(i64_w _).trans hji9
         by_cases c10:0≤(ji9)
         ·rw[if_pos c10]at H
          have c10b0:decide (0≤(ji9))=true:=decide_eq_true c10
          clear c10
          by_cases c11:(ji9)<(x4_1.length:Int)
          ·rw[if_pos c11]at H
           have c11b0:decide ((ji9)<(x4_1.length:Int))=true:=decide_eq_true c11
           clear c11
           obtain⟨t132,A12,H⟩:=bo_ H
           try dsimp only at H
           by_cases c13:t132=true
           ·subst c13
            replace H:(spec_shSorted.l1 k2 x4_1 ji9 l0 (l0.length:Int) x10_1 ((rd_T40 l0 x10_1).f0) ((rd_T40 l0 x10_1).f1) ((rd_T40 l0 x10_1).f2))=some (r1,r2):=by rw[if_pos rfl]at H;exact H
            have H':=am_ H
            clear H
            try go_wp2
            replace HO_4:=am_ (Kd.R_drew HO_4.out)
            replace BK130:=am_ (blk_drew BK130.out)
            replace HB:=am_ (below_drew1 HB.out)
            have p131:0≤((ji9):Int):=of_decide_eq_true (a12_)
            have q131:(ji9)<(x4_1.length:Int):=of_decide_eq_true (a12_)
            obtain⟨ad131,e131,hx131_0,hx131_1,hx131_2⟩:=at_T40 (Kd.R_reads' HO_4.out).2.2 (ji9) p131 q131
            cases e131
            replace p131:=eq_true p131
            replace q131:=eq_true q131
            refine start_ (n:=11) (S:=fun w'=>w'.cell? ⟨gb130,0,none⟩=some (.int .i64 ((rd_T40 l0 x10_1).f0))∧w'.cell? ⟨gb130,1,none⟩=some (.int .i64 ((rd_T40 l0 x10_1).f1))∧w'.cell? ⟨gb130,2,none⟩=some (.int .i64 ((rd_T40 l0 x10_1).f2))∧w'.cell? (ad131.add (((ji9)).toNat*3))=some (.int .i64 ((rd_T40 x4_1 (ji9)).f0))∧w'.cell? ⟨(ad131.add (((ji9)).toNat*3)).block,(ad131.add (((ji9)).toNat*3)).off+1,none⟩=some (.int .i64 ((rd_T40 x4_1 (ji9)).f1))∧w'.cell? ⟨(ad131.add (((ji9)).toNat*3)).block,(ad131.add (((ji9)).toNat*3)).off+2,none⟩=some (.int .i64 ((rd_T40 x4_1 (ji9)).f2))) (ds:=[]) #[false,false,false,false,false,false,false,false,false,false,false] (by kernel_rfl) rfl rfl ⟨(blk_cell BK130.out 0).trans rfl,(blk_cell BK130.out 1).trans rfl,(blk_cell BK130.out 2).trans rfl,hx131_0,hx131_1,hx131_2⟩ (fun hHeld=>?_);refine with_tabW spec_shSorted.tab6 spec_shSorted.bits6 (fun HT_ HW_=>?_)
            generalize wr.drew=w14 at HO_4 BK130 HB hx131_0 hx131_1 hx131_2 hHeld ⊢
            refine pure_ (i:=0) (N:=some 16) (v:=?_) (a':=?_) #[true,false,false,false,false,false,false,false,false,false,false] rfl rfl (any_of HT_.out (by kernel_rfl)) (fun _ _ _ h=>h) (Or.inl ⟨by rfl,?_⟩) ?_ ?_
            rotate_left
            ·intro w'
             go_simp
             with_reducible rfl
            rotate_left
            ·simp only[Act.put,pu_]
             rfl
            refine pure_ (i:=1) (N:=some 17) (v:=?_) (a':=?_) #[true,true,false,false,false,false,false,false,false,false,false] rfl rfl (any_of HT_.out (by kernel_rfl)) (fun _ _ _ h=>h) (Or.inl ⟨by rfl,?_⟩) ?_ ?_
            rotate_left
            ·intro w'
             go_simp
             with_reducible rfl
            rotate_left
            ·simp only[Act.put,pu_]
             rfl
            refine pure_ (i:=2) (N:=some 18) (v:=?_) (a':=?_) #[true,true,true,false,false,false,false,false,false,false,false] rfl rfl (any_of HT_.out (by kernel_rfl)) (fun _ _ _ h=>h) (Or.inl ⟨by rfl,?_⟩) ?_ ?_
            rotate_left
            ·intro w'
             go_simp
             with_reducible rfl
            rotate_left
            ·simp only[Act.put,pu_]
             rfl
            refine pure_ (i:=4) (N:=some 20) (v:=?_) (a':=?_) #[true,true,true,false,true,false,false,false,false,false,false] rfl rfl (any_of HT_.out (by kernel_rfl)) (fun _ _ _ h=>h) (Or.inl ⟨by rfl,?_⟩) ?_ ?_
            rotate_left
            ·intro w'
             go_simp
             with_reducible rfl
            rotate_left
            ·simp only[Act.put,pu_]
             rfl
            refine pure_ (i:=5) (N:=some 21) (v:=?_) (a':=?_) #[true,true,true,false,true,true,false,false,false,false,false] rfl rfl (any_of HT_.out (by kernel_rfl)) (fun _ _ _ h=>h) (Or.inl ⟨by rfl,?_⟩) ?_ ?_
            rotate_left
            ·intro w'
             go_simp
             with_reducible rfl
            rotate_left
            ·simp only[Act.put,pu_]
             rfl
            refine pure_ (i:=6) (N:=some 22) (v:=?_) (a':=?_) #[true,true,true,false,true,true,true,false,false,false,false] rfl rfl (any_of HT_.out (by kernel_rfl)) (fun _ _ _ h=>h) (Or.inl ⟨by rfl,?_⟩) ?_ ?_
            rotate_left
            ·intro w'
             go_simp
             with_reducible rfl
            rotate_left
            ·simp only[Act.put,pu_]
             rfl
            refine pure_ (i:=7) (N:=some 23) (v:=?_) (a':=?_) #[true,true,true,false,true,true,true,true,false,false,false] rfl rfl (any_of HT_.out (by kernel_rfl)) (fun _ _ _ h=>h) (Or.inl ⟨by rfl,?_⟩) ?_ ?_
            rotate_left
            ·intro w'
             go_simp
             with_reducible rfl
            rotate_left
            ·simp only[Act.put,pu_]
             rfl
            refine take_ (i:=3) (N:=some 19) (v:=?_) (a':=?_) #[true,true,true,true,true,true,true,true,false,false,false] rfl rfl (take_ofW HT_.out HW_.out (by kernel_rfl)) (fun _ _ _ h=>h) (Or.inl ⟨by rfl,?_⟩) hHeld ?_ ?_
            rotate_left
            ·rintro w' ⟨s0,s1,s2,s3,s4,s5⟩
             go_simp
             with_reducible rfl
            rotate_left
            ·simp only[Act.put,pu_]
             rfl
            refine take_ (i:=8) (N:=some 24) (v:=?_) (a':=?_) #[true,true,true,true,true,true,true,true,true,false,false] rfl rfl (take_ofW HT_.out HW_.out (by kernel_rfl)) (fun _ _ _ h=>h) (Or.inl ⟨by rfl,?_⟩) hHeld ?_ ?_
            rotate_left
            ·rintro w' ⟨s0,s1,s2,s3,s4,s5⟩
             go_simp
             with_reducible rfl
            rotate_left
            ·simp only[Act.put,pu_]
             rfl
            refine one_ (i:=9) (N:=some 25) #[true,true,true,true,true,true,true,true,true,true,false] rfl rfl (one_of HT_.out (by kernel_rfl)) (by decide) (fun K hK=>?_)
            refine goes_ Tryz.func100 (by kernel_rfl) rfl #[.agg #[.int .i64 ((rd_T40 l0 x10_1).f0), .int .i64 ((rd_T40 l0 x10_1).f1), .int .i64 ((rd_T40 l0 x10_1).f2)], .agg #[.int .i64 ((rd_T40 x4_1 (ji9)).f0), .int .i64 ((rd_T40 x4_1 (ji9)).f1), .int .i64 ((rd_T40 x4_1 (ji9)).f2)]] (by rfl) rfl rfl (by(try simp only[List.map_toArray,List.map_cons,List.map_nil]);first | done|(simp only[hji9];rfl) | rfl|(simp only[List.length_drop,List.length_take];rfl)) ?_
            with_reducible refine(spec_shBefore.calls ((rd_T40 l0 x10_1).f0) ((rd_T40 l0 x10_1).f1) ((rd_T40 l0 x10_1).f2) ((rd_T40 x4_1 (ji9)).f0) ((rd_T40 x4_1 (ji9)).f1) ((rd_T40 x4_1 (ji9)).f2) true _ A12.out).mono ?_
            rintro e w15 ⟨rfl,hb⟩
            have HS3_:=(hb.cell (World.block_lt_of_cell? _ _ (hHeld.2.2.2.1))).trans (hHeld.2.2.2.1)
            have HS4_:=(hb.cell (World.block_lt_of_cell? _ _ (hHeld.2.2.2.2.1))).trans (hHeld.2.2.2.2.1)
            have HS5_:=(hb.cell (World.block_lt_of_cell? _ _ (hHeld.2.2.2.2.2))).trans (hHeld.2.2.2.2.2)
            refine⟨_,rfl,?_⟩
            replace HO_4:=am_ (Kd.R_below ((a0_ HO_4.out)) hb)
            replace BK130:=am_ (blk_below (g:=gb130) (o:= .cells #[.int .i64 ((rd_T40 l0 x10_1).f0), .int .i64 ((rd_T40 l0 x10_1).f1), .int .i64 ((rd_T40 l0 x10_1).f2)] 40 (0,0)) ((a5_ BK130.out)) hb)
            replace HB:=am_ (below_step ((a4_ GE130.out)) hb)
            (try clear hb)
            (try clear hb2)
            (try clear hk)
            (try clear hi)
            refine hK.out _ _ ⟨(blk_cell BK130.out 0).trans rfl,(blk_cell BK130.out 1).trans rfl,(blk_cell BK130.out 2).trans rfl,HS3_,HS4_,HS5_⟩ (fun hHeld=>?_)
            clear hK K
            refine norm_ (a':=?_) ?_ ?_
            rotate_left
            ·show Act.put _ (some 25) _=_
             simp only[Act.put,pu_]
             rfl
            refine pure_ (i:=10) (N:=some 26) (v:=?_) (a':=?_) #[true,true,true,true,true,true,true,true,true,true,true] rfl rfl (any_of HT_.out (by kernel_rfl)) (fun _ _ _ h=>h) (Or.inl ⟨by rfl,?_⟩) ?_ ?_
            rotate_left
            ·intro w'
             go_simp
             with_reducible rfl
            rotate_left
            ·simp only[Act.put,pu_]
             rfl
            refine done_ (done_of HT_.out (by kernel_rfl)) ?_
            try go_wp2
            go_roundg k2
            case measure=>have:=HK1.out;have:=HK2.out;omega
            case rel=>exact⟨(ji9),(by first | rfl|(simp;done)|(simp only[← hji9]<;>(first|rfl | simp))|(simp[*];done)),H',⟨by have:=HK1.out;have:=HK2.out;omega⟩,⟨(a0_ HO_4.out)⟩,⟨(a5_ BK130.out)⟩,⟨(a4_ GE130.out)⟩⟩
           ·replace c13:=Bool.eq_false_iff.mpr c13
            subst c13
            replace H:((some (([]:List (S40)):List (S40))).bind fun y133=>(if 0≤x7_2 then(if x7_2≤(x4_1.length:Int) then((some (x4_1.take (x7_2:Int).toNat:List (S40))).bind fun y136=>(if y133.length+y136.length<5864062014805 then((some (y133 ++ y136:List (S40))).bind fun y140=>((some (([(⟨((rd_T40 l0 x10_1).f0),((rd_T40 l0 x10_1).f1),((rd_T40 l0 x10_1).f2)⟩:S40)]:List (S40)):List (S40))).bind fun y143=>(if y140.length+y143.length<5864062014805 then((some (y140 ++ y143:List (S40))).bind fun y146=>((some (x4_1.drop (x7_2:Int).toNat:List (S40))).bind fun y149=>(if y146.length+y149.length<5864062014805 then(spec_shSorted.l0 k2 (y146 ++ y149) l0 (l0.length:Int) (wrap64 (x10_1+1))) else(none)))) else(none)))) else(none))) else(none)) else(none)))=some (r1,r2):=by rw[if_neg (show ¬(false=true) by decide)]at H;exact H
            obtain⟨y133,hy133⟩:∃y_:List (S40),y_=(([]:List (S40))):=⟨_,rfl⟩
            replace H:(if 0≤x7_2 then(if x7_2≤(x4_1.length:Int) then((some (x4_1.take (x7_2:Int).toNat:List (S40))).bind fun y136=>(if y133.length+y136.length<5864062014805 then((some (y133 ++ y136:List (S40))).bind fun y140=>((some (([(⟨((rd_T40 l0 x10_1).f0),((rd_T40 l0 x10_1).f1),((rd_T40 l0 x10_1).f2)⟩:S40)]:List (S40)):List (S40))).bind fun y143=>(if y140.length+y143.length<5864062014805 then((some (y140 ++ y143:List (S40))).bind fun y146=>((some (x4_1.drop (x7_2:Int).toNat:List (S40))).bind fun y149=>(if y146.length+y149.length<5864062014805 then(spec_shSorted.l0 k2 (y146 ++ y149) l0 (l0.length:Int) (wrap64 (x10_1+1))) else(none)))) else(none)))) else(none))) else(none)) else(none))=some (r1,r2):=by first|(rw[hy133];with_reducible exact H)|(have H2_:=(Option.bind_some _ _).symm.trans H;rw[hy133];with_reducible exact H2_)|(have H2_:=(Option.bind_some _ _).symm.trans H;with_reducible exact H2_) | with_reducible exact H|(rw[hy133];exact H)|exact H
            have Ny133:=am_ hy133
            clear hy133
            by_cases c16:0≤x7_2
            ·rw[if_pos c16]at H
             have c16b0:=eq_true c16
             have c16b1:decide (0≤x7_2)=true:=decide_eq_true c16
             clear c16
             by_cases c17:x7_2≤(x4_1.length:Int)
             ·rw[if_pos c17]at H
              have c17b0:=eq_true c17
              have c17b1:decide (x7_2≤(x4_1.length:Int))=true:=decide_eq_true c17
              clear c17
              obtain⟨y136,hy136⟩:∃y_:List (S40),y_=(x4_1.take (x7_2:Int).toNat):=⟨_,rfl⟩
              replace H:(if y133.length+y136.length<5864062014805 then((some (y133 ++ y136:List (S40))).bind fun y140=>((some (([(⟨((rd_T40 l0 x10_1).f0),((rd_T40 l0 x10_1).f1),((rd_T40 l0 x10_1).f2)⟩:S40)]:List (S40)):List (S40))).bind fun y143=>(if y140.length+y143.length<5864062014805 then((some (y140 ++ y143:List (S40))).bind fun y146=>((some (x4_1.drop (x7_2:Int).toNat:List (S40))).bind fun y149=>(if y146.length+y149.length<5864062014805 then(spec_shSorted.l0 k2 (y146 ++ y149) l0 (l0.length:Int) (wrap64 (x10_1+1))) else(none)))) else(none)))) else(none))=some (r1,r2):=by first|(rw[hy136];with_reducible exact H)|(have H2_:=(Option.bind_some _ _).symm.trans H;rw[hy136];with_reducible exact H2_)|(have H2_:=(Option.bind_some _ _).symm.trans H;with_reducible exact H2_) | with_reducible exact H|(rw[hy136];exact H)|exact H
              have Ny136:=am_ hy136
              clear hy136
              by_cases c18:y133.length+y136.length<5864062014805
              ·rw[if_pos c18]at H
               have LMc18:=am_ c18
               clear c18
               obtain⟨y140,hy140⟩:∃y_:List (S40),y_=(y133 ++ y136):=⟨_,rfl⟩
               replace H:((some (([(⟨((rd_T40 l0 x10_1).f0),((rd_T40 l0 x10_1).f1),((rd_T40 l0 x10_1).f2)⟩:S40)]:List (S40)):List (S40))).bind fun y143=>(if y140.length+y143.length<5864062014805 then((some (y140 ++ y143:List (S40))).bind fun y146=>((some (x4_1.drop (x7_2:Int).toNat:List (S40))).bind fun y149=>(if y146.length+y149.length<5864062014805 then(spec_shSorted.l0 k2 (y146 ++ y149) l0 (l0.length:Int) (wrap64 (x10_1+1))) else(none)))) else(none)))=some (r1,r2):=by first|(rw[hy140];with_reducible exact H)|(have H2_:=(Option.bind_some _ _).symm.trans H;rw[hy140];with_reducible exact H2_)|(have H2_:=(Option.bind_some _ _).symm.trans H;with_reducible exact H2_) | with_reducible exact H|(rw[hy140];exact H)|exact H
               have Ny140:=am_ hy140
               clear hy140
               obtain⟨y143,hy143⟩:∃y_:List (S40),y_=(([(⟨((rd_T40 l0 x10_1).f0),((rd_T40 l0 x10_1).f1),((rd_T40 l0 x10_1).f2)⟩:S40)]:List (S40))):=⟨_,rfl⟩
               replace H:(if y140.length+y143.length<5864062014805 then((some (y140 ++ y143:List (S40))).bind fun y146=>((some (x4_1.drop (x7_2:Int).toNat:List (S40))).bind fun y149=>(if y146.length+y149.length<5864062014805 then(spec_shSorted.l0 k2 (y146 ++ y149) l0 (l0.length:Int) (wrap64 (x10_1+1))) else(none)))) else(none))=some (r1,r2):=by first|(rw[hy143];with_reducible exact H)|(have H2_:=(Option.bind_some _ _).symm.trans H;rw[hy143];with_reducible exact H2_)|(have H2_:=(Option.bind_some _ _).symm.trans H;with_reducible exact H2_) | with_reducible exact H|(rw[hy143];exact H)|exact H
               have Ny143:=am_ hy143
               clear hy143
               by_cases c19:y140.length+y143.length<5864062014805
               ·rw[if_pos c19]at H
                have LMc19:=am_ c19
                clear c19
                obtain⟨y146,hy146⟩:∃y_:List (S40),y_=(y140 ++ y143):=⟨_,rfl⟩
                replace H:((some (x4_1.drop (x7_2:Int).toNat:List (S40))).bind fun y149=>(if y146.length+y149.length<5864062014805 then(spec_shSorted.l0 k2 (y146 ++ y149) l0 (l0.length:Int) (wrap64 (x10_1+1))) else(none)))=some (r1,r2):=by first|(rw[hy146];with_reducible exact H)|(have H2_:=(Option.bind_some _ _).symm.trans H;rw[hy146];with_reducible exact H2_)|(have H2_:=(Option.bind_some _ _).symm.trans H;with_reducible exact H2_) | with_reducible exact H|(rw[hy146];exact H)|exact H
                have Ny146:=am_ hy146
                clear hy146
                have c20b0:=eq_true (of_decide_eq_true (a12_):0≤x7_2)
                have c21b0:=eq_true (of_decide_eq_true (a12_):x7_2≤(x4_1.length:Int))
                obtain⟨y149,hy149⟩:∃y_:List (S40),y_=(x4_1.drop (x7_2:Int).toNat):=⟨_,rfl⟩
                replace H:(if y146.length+y149.length<5864062014805 then(spec_shSorted.l0 k2 (y146 ++ y149) l0 (l0.length:Int) (wrap64 (x10_1+1))) else(none))=some (r1,r2):=by first|(rw[hy149];with_reducible exact H)|(have H2_:=(Option.bind_some _ _).symm.trans H;rw[hy149];with_reducible exact H2_)|(have H2_:=(Option.bind_some _ _).symm.trans H;with_reducible exact H2_) | with_reducible exact H|(rw[hy149];exact H)|exact H
                have Ny149:=am_ hy149
                clear hy149
                by_cases c22:y146.length+y149.length<5864062014805
                ·rw[if_pos c22]at H
                 have LMc22:=am_ c22
                 clear c22
                 obtain⟨y153,hy153⟩:∃y_:List (S40),y_=(y146 ++ y149):=⟨_,rfl⟩
                 replace H:(spec_shSorted.l0 k2 y153 l0 (l0.length:Int) (wrap64 (x10_1+1)))=some (r1,r2):=by first|(rw[hy153];with_reducible exact H)|(have H2_:=(Option.bind_some _ _).symm.trans H;rw[hy153];with_reducible exact H2_)|(have H2_:=(Option.bind_some _ _).symm.trans H;with_reducible exact H2_) | with_reducible exact H|(rw[hy153];exact H)|exact H
                 have Ny153:=am_ hy153
                 clear hy153
                 have H':=am_ H
                 clear H
                 try go_wp2
                 replace HO_4:=am_ (Kd.R_drew HO_4.out)
                 replace BK130:=am_ (blk_drew BK130.out)
                 replace HB:=am_ (below_drew1 HB.out)
                 have p131:0≤((ji9):Int):=of_decide_eq_true (a12_)
                 have q131:(ji9)<(x4_1.length:Int):=of_decide_eq_true (a12_)
                 obtain⟨ad131,e131,hx131_0,hx131_1,hx131_2⟩:=at_T40 (Kd.R_reads' HO_4.out).2.2 (ji9) p131 q131
                 cases e131
                 replace p131:=eq_true p131
                 replace q131:=eq_true q131
                 refine start_ (n:=11) (S:=fun w'=>w'.cell? ⟨gb130,0,none⟩=some (.int .i64 ((rd_T40 l0 x10_1).f0))∧w'.cell? ⟨gb130,1,none⟩=some (.int .i64 ((rd_T40 l0 x10_1).f1))∧w'.cell? ⟨gb130,2,none⟩=some (.int .i64 ((rd_T40 l0 x10_1).f2))∧w'.cell? (ad131.add (((ji9)).toNat*3))=some (.int .i64 ((rd_T40 x4_1 (ji9)).f0))∧w'.cell? ⟨(ad131.add (((ji9)).toNat*3)).block,(ad131.add (((ji9)).toNat*3)).off+1,none⟩=some (.int .i64 ((rd_T40 x4_1 (ji9)).f1))∧w'.cell? ⟨(ad131.add (((ji9)).toNat*3)).block,(ad131.add (((ji9)).toNat*3)).off+2,none⟩=some (.int .i64 ((rd_T40 x4_1 (ji9)).f2))) (ds:=[]) #[false,false,false,false,false,false,false,false,false,false,false] (by kernel_rfl) rfl rfl ⟨(blk_cell BK130.out 0).trans rfl,(blk_cell BK130.out 1).trans rfl,(blk_cell BK130.out 2).trans rfl,hx131_0,hx131_1,hx131_2⟩ (fun hHeld=>?_);refine with_tabW spec_shSorted.tab6 spec_shSorted.bits6 (fun HT_ HW_=>?_)
                 generalize wr.drew=w23 at HO_4 BK130 HB hx131_0 hx131_1 hx131_2 hHeld ⊢
                 refine pure_ (i:=0) (N:=some 16) (v:=?_) (a':=?_) #[true,false,false,false,false,false,false,false,false,false,false] rfl rfl (any_of HT_.out (by kernel_rfl)) (fun _ _ _ h=>h) (Or.inl ⟨by rfl,?_⟩) ?_ ?_
                 rotate_left
                 ·intro w'
                  go_simp
                  with_reducible rfl
                 rotate_left
                 ·simp only[Act.put,pu_]
                  rfl
                 refine pure_ (i:=1) (N:=some 17) (v:=?_) (a':=?_) #[true,true,false,false,false,false,false,false,false,false,false] rfl rfl (any_of HT_.out (by kernel_rfl)) (fun _ _ _ h=>h) (Or.inl ⟨by rfl,?_⟩) ?_ ?_
                 rotate_left
                 ·intro w'
                  go_simp
                  with_reducible rfl
                 rotate_left
                 ·simp only[Act.put,pu_]
                  rfl
                 refine pure_ (i:=2) (N:=some 18) (v:=?_) (a':=?_) #[true,true,true,false,false,false,false,false,false,false,false] rfl rfl (any_of HT_.out (by kernel_rfl)) (fun _ _ _ h=>h) (Or.inl ⟨by rfl,?_⟩) ?_ ?_
                 rotate_left
                 ·intro w'
                  go_simp
                  with_reducible rfl
                 rotate_left
                 ·simp only[Act.put,pu_]
                  rfl
                 refine pure_ (i:=4) (N:=some 20) (v:=?_) (a':=?_) #[true,true,true,false,true,false,false,false,false,false,false] rfl rfl (any_of HT_.out (by kernel_rfl)) (fun _ _ _ h=>h) (Or.inl ⟨by rfl,?_⟩) ?_ ?_
                 rotate_left
                 ·intro w'
                  go_simp
                  with_reducible rfl
                 rotate_left
                 ·simp only[Act.put,pu_]
                  rfl
                 refine pure_ (i:=5) (N:=some 21) (v:=?_) (a':=?_) #[true,true,true,false,true,true,false,false,false,false,false] rfl rfl (any_of HT_.out (by kernel_rfl)) (fun _ _ _ h=>h) (Or.inl ⟨by rfl,?_⟩) ?_ ?_
                 rotate_left
                 ·intro w'
                  go_simp
                  with_reducible rfl
                 rotate_left
                 ·simp only[Act.put,pu_]
                  rfl
                 refine pure_ (i:=6) (N:=some 22) (v:=?_) (a':=?_) #[true,true,true,false,true,true,true,false,false,false,false] rfl rfl (any_of HT_.out (by kernel_rfl)) (fun _ _ _ h=>h) (Or.inl ⟨by rfl,?_⟩) ?_ ?_
                 rotate_left
                 ·intro w'
                  go_simp
                  with_reducible rfl
                 rotate_left
                 ·simp only[Act.put,pu_]
                  rfl
                 refine pure_ (i:=7) (N:=some 23) (v:=?_) (a':=?_) #[true,true,true,false,true,true,true,true,false,false,false] rfl rfl (any_of HT_.out (by kernel_rfl)) (fun _ _ _ h=>h) (Or.inl ⟨by rfl,?_⟩) ?_ ?_
                 rotate_left
                 ·intro w'
                  go_simp
                  with_reducible rfl
                 rotate_left
                 ·simp only[Act.put,pu_]
                  rfl
                 refine take_ (i:=3) (N:=some 19) (v:=?_) (a':=?_) #[true,true,true,true,true,true,true,true,false,false,false] rfl rfl (take_ofW HT_.out HW_.out (by kernel_rfl)) (fun _ _ _ h=>h) (Or.inl ⟨by rfl,?_⟩) hHeld ?_ ?_
                 rotate_left
                 ·rintro w' ⟨s0,s1,s2,s3,s4,s5⟩
                  go_simp
                  with_reducible rfl
                 rotate_left
                 ·simp only[Act.put,pu_]
                  rfl
                 refine take_ (i:=8) (N:=some 24) (v:=?_) (a':=?_) #[true,true,true,true,true,true,true,true,true,false,false] rfl rfl (take_ofW HT_.out HW_.out (by kernel_rfl)) (fun _ _ _ h=>h) (Or.inl ⟨by rfl,?_⟩) hHeld ?_ ?_
                 rotate_left
                 ·rintro w' ⟨s0,s1,s2,s3,s4,s5⟩
                  go_simp
                  with_reducible rfl
                 rotate_left
                 ·simp only[Act.put,pu_]
                  rfl
                 refine one_ (i:=9) (N:=some 25) #[true,true,true,true,true,true,true,true,true,true,false] rfl rfl (one_of HT_.out (by kernel_rfl)) (by decide) (fun K hK=>?_)
                 refine goes_ Tryz.func100 (by kernel_rfl) rfl #[.agg #[.int .i64 ((rd_T40 l0 x10_1).f0), .int .i64 ((rd_T40 l0 x10_1).f1), .int .i64 ((rd_T40 l0 x10_1).f2)], .agg #[.int .i64 ((rd_T40 x4_1 (ji9)).f0), .int .i64 ((rd_T40 x4_1 (ji9)).f1), .int .i64 ((rd_T40 x4_1 (ji9)).f2)]] (by rfl) rfl rfl (by(try simp only[List.map_toArray,List.map_cons,List.map_nil]);first | done|(simp only[hji9];rfl) | rfl|(simp only[List.length_drop,List.length_take];rfl)) ?_
                 with_reducible refine(spec_shBefore.calls ((rd_T40 l0 x10_1).f0) ((rd_T40 l0 x10_1).f1) ((rd_T40 l0 x10_1).f2) ((rd_T40 x4_1 (ji9)).f0) ((rd_T40 x4_1 (ji9)).f1) ((rd_T40 x4_1 (ji9)).f2) false _ A12.out).mono ?_
                 rintro e w24 ⟨rfl,hb⟩
                 have HS3_:=(hb.cell (World.block_lt_of_cell? _ _ (hHeld.2.2.2.1))).trans (hHeld.2.2.2.1)
                 have HS4_:=(hb.cell (World.block_lt_of_cell? _ _ (hHeld.2.2.2.2.1))).trans (hHeld.2.2.2.2.1)
                 have HS5_:=(hb.cell (World.block_lt_of_cell? _ _ (hHeld.2.2.2.2.2))).trans (hHeld.2.2.2.2.2)
                 refine⟨_,rfl,?_⟩
                 replace HO_4:=am_ (Kd.R_below ((a0_ HO_4.out)) hb)
                 replace BK130:=am_ (blk_below (g:=gb130) (o:= .cells #[.int .i64 ((rd_T40 l0 x10_1).f0), .int .i64 ((rd_T40 l0 x10_1).f1), .int .i64 ((rd_T40 l0 x10_1).f2)] 40 (0,0)) ((a5_ BK130.out)) hb)
                 replace HB:=am_ (below_step ((a4_ GE130.out)) hb)
                 (try clear hb)
                 (try clear hb2)
                 (try clear hk)
                 (try clear hi)
                 refine hK.out _ _ ⟨(blk_cell BK130.out 0).trans rfl,(blk_cell BK130.out 1).trans rfl,(blk_cell BK130.out 2).trans rfl,HS3_,HS4_,HS5_⟩ (fun hHeld=>?_)
                 clear hK K
                 refine norm_ (a':=?_) ?_ ?_
                 rotate_left
                 ·show Act.put _ (some 25) _=_
                  simp only[Act.put,pu_]
                  rfl
                 refine pure_ (i:=10) (N:=some 26) (v:=?_) (a':=?_) #[true,true,true,true,true,true,true,true,true,true,true] rfl rfl (any_of HT_.out (by kernel_rfl)) (fun _ _ _ h=>h) (Or.inl ⟨by rfl,?_⟩) ?_ ?_
                 rotate_left
                 ·intro w'
                  go_simp
                  with_reducible rfl
                 rotate_left
                 ·simp only[Act.put,pu_]
                  rfl
                 refine done_ (done_of HT_.out (by kernel_rfl)) ?_
                 try go_wp2
                 replace HO_4:=am_ (Kd.R_drew HO_4.out)
                 replace BK130:=am_ (blk_drew BK130.out)
                 replace HB:=am_ (below_drew1 HB.out)
                 have q26:(x7_2:Int)≤((x4_1.length:Int):Int):=of_decide_eq_true (a12_)
                 obtain⟨i026,hi026,_,hsz26,_⟩:=info_parts info40
                 have hroom26:x4_1.length≤co7:=(Kd.R_reads' HO_4.out).2.1
                 have hC26:Kd.C k40 _ (some ad131) x4_1.length x4_1:=(Kd.R_reads' HO_4.out).2.2
                 have hcut26:=cut_to (P:=Tryz.prog) 24 40 .i64 Tryz.underlying24 hi026 (some ad131) x4_1.length co7 x7_2 (of_decide_eq_true (a12_)) q26 hroom26
                 have hr26:=Kd.C_take (m:=(x7_2:Int).toNat) hC26 (by omega)
                 have hy26:y136.length=(x7_2:Int).toNat:=(by rw[Ny136.out,List.length_take];omega)
                 rw[← Ny136.out]at hr26
                 rw[← hy26]at hcut26
                 have HR139:=am_ hr26
                 have HC139:=am_ (show y136.length≤co7 from by omega)
                 clear hr26 hC26 hroom26 hi026 hsz26
                 have KY26:=am_ hy26
                 clear hy26
                 have KL26:=am_ (show(x7_2:Int).toNat≤x4_1.length from by omega)
                 replace q26:=eq_true q26
                 have q27:(x7_2:Int)≤((x4_1.length:Int):Int):=of_decide_eq_true (a12_)
                 obtain⟨i027,hi027,_,hsz27,_⟩:=info_parts info40
                 have hroom27:x4_1.length≤co7:=(Kd.R_reads' HO_4.out).2.1
                 have hC27:Kd.C k40 _ (some ad131) x4_1.length x4_1:=(Kd.R_reads' HO_4.out).2.2
                 have q027:(0:Int)≤(x7_2:Int):=of_decide_eq_true (a12_)
                 have hcut27:=cut_from (P:=Tryz.prog) 24 40 .i64 Tryz.underlying24 hi027 3 hsz27 (some ad131) x4_1.length co7 x7_2 q027 q27
                 have hr27:=Kd.C_drop (m:=(x7_2:Int).toNat) (c:=co7) hC27 (by omega) hroom27
                 obtain⟨A27,hA27⟩:∃A1,A1=(if co7=(x7_2:Int).toNat then(some ad131) else((some ad131):Option Addr).map (·.add ((x7_2:Int).toNat*3))):=⟨_,rfl⟩
                 obtain⟨c27,hc27⟩:∃c1,c1=co7-(x7_2:Int).toNat:=⟨_,rfl⟩
                 have hy27:y149.length=x4_1.length-(x7_2:Int).toNat:=(by rw[Ny149.out,List.length_drop]<;>omega)
                 rw[show(x4_1).drop (x7_2:Int).toNat=y149 from Ny149.out.symm]at hr27
                 replace hr27:Kd.C k40 _ A27 y149.length y149:=(by rw[hA27];exact hr27)
                 rw[← hy27, ← hA27, ← hc27]at hcut27
                 have HR152:=am_ hr27
                 have HC152:=am_ (show y149.length≤c27 from by rw[hy27,hc27];exact Nat.sub_le_sub_right hroom27 _)
                 clear hr27 hC27 hroom27 hi027 hsz27 hc27
                 have KY27:=am_ hy27
                 have KA27:=am_ hA27
                 clear hy27 hA27
                 have KL27:=am_ (show(x7_2:Int).toNat≤x4_1.length from by omega)
                 replace q27:=eq_true q27
                 refine start_ (n:=13) (S:=fun w'=>w'.cell? ⟨gb130,0,none⟩=some (.int .i64 ((rd_T40 l0 x10_1).f0))∧w'.cell? ⟨gb130,1,none⟩=some (.int .i64 ((rd_T40 l0 x10_1).f1))∧w'.cell? ⟨gb130,2,none⟩=some (.int .i64 ((rd_T40 l0 x10_1).f2))) (ds:=[]) #[false,false,false,false,false,false,false,false,false,false,false,false,false] (by kernel_rfl) rfl rfl ⟨(blk_cell BK130.out 0).trans rfl,(blk_cell BK130.out 1).trans rfl,(blk_cell BK130.out 2).trans rfl⟩ (fun hHeld=>?_);refine with_tabW spec_shSorted.tab8 spec_shSorted.bits8 (fun HT_ HW_=>?_)
                 generalize w24.drew=w25 at HO_4 BK130 HB HR139 HR152 hHeld ⊢
                 refine pure_ (i:=1) (N:=some 30) (v:=?_) (a':=?_) #[false,true,false,false,false,false,false,false,false,false,false,false,false] rfl rfl (any_of HT_.out (by kernel_rfl)) (fun _ _ _ h=>h) (Or.inl ⟨by rfl,?_⟩) ?_ ?_
                 rotate_left
                 ·intro w'
                  go_simp
                  with_reducible rfl
                 rotate_left
                 ·simp only[Act.put,pu_]
                  rfl
                 refine pure_ (i:=2) (N:=some 31) (v:=?_) (a':=?_) #[false,true,true,false,false,false,false,false,false,false,false,false,false] rfl rfl (any_of HT_.out (by kernel_rfl)) (fun _ _ _ h=>h) (Or.inl ⟨by rfl,?_⟩) ?_ ?_
                 rotate_left
                 ·intro w'
                  go_simp
                  with_reducible rfl
                 rotate_left
                 ·simp only[Act.put,pu_]
                  rfl
                 refine pure_ (i:=3) (N:=some 32) (v:=?_) (a':=?_) #[false,true,true,true,false,false,false,false,false,false,false,false,false] rfl rfl (any_of HT_.out (by kernel_rfl)) (fun _ _ _ h=>h) (Or.inl ⟨by rfl,?_⟩) ?_ ?_
                 rotate_left
                 ·intro w'
                  go_simp
                  with_reducible rfl
                 rotate_left
                 ·simp only[Act.put,pu_]
                  rfl
                 refine pure_ (i:=8) (N:=some 37) (v:=?_) (a':=?_) #[false,true,true,true,false,false,false,false,true,false,false,false,false] rfl rfl (any_of HT_.out (by kernel_rfl)) (fun _ _ _ h=>h) (Or.inl ⟨by rfl,?_⟩) ?_ ?_
                 rotate_left
                 ·intro w'
                  go_simp
                  with_reducible rfl
                 rotate_left
                 ·simp only[Act.put,pu_]
                  rfl
                 refine pure_ (i:=9) (N:=some 38) (v:=?_) (a':=?_) #[false,true,true,true,false,false,false,false,true,true,false,false,false] rfl rfl (any_of HT_.out (by kernel_rfl)) (fun _ _ _ h=>h) (Or.inl ⟨by rfl,?_⟩) ?_ ?_
                 rotate_left
                 ·intro w'
                  go_simp
                  with_reducible rfl
                 rotate_left
                 ·simp only[Act.put,pu_]
                  rfl
                 refine pure_ (i:=10) (N:=some 39) (v:=?_) (a':=?_) #[false,true,true,true,false,false,false,false,true,true,true,false,false] rfl rfl (any_of HT_.out (by kernel_rfl)) (fun _ _ _ h=>h) (Or.inl ⟨by rfl,?_⟩) ?_ ?_
                 rotate_left
                 ·intro w'
                  go_simp
                  with_reducible rfl
                 rotate_left
                 ·simp only[Act.put,pu_]
                  rfl
                 refine take_ (i:=5) (N:=some 34) (v:=?_) (a':=?_) #[false,true,true,true,false,true,false,false,true,true,true,false,false] rfl rfl (take_ofW HT_.out HW_.out (by kernel_rfl)) (fun _ _ _ h=>h) (Or.inl ⟨by rfl,?_⟩) hHeld ?_ ?_
                 rotate_left
                 ·rintro w' ⟨s0,s1,s2⟩
                  go_simp
                  with_reducible rfl
                 rotate_left
                 ·simp only[Act.put,pu_]
                  rfl
                 refine join_ (σ:=Value×Value×Value) 3 #[true,true,true,true,true,true,true,false,true,true,true,false,false] (fun s_=> [(29,s_.1),(33,s_.2.1),(35,s_.2.2)]) (fun s_ w'=>(w'.cell? ⟨gb130,0,none⟩=some (.int .i64 ((rd_T40 l0 x10_1).f0))∧w'.cell? ⟨gb130,1,none⟩=some (.int .i64 ((rd_T40 l0 x10_1).f1))∧w'.cell? ⟨gb130,2,none⟩=some (.int .i64 ((rd_T40 l0 x10_1).f2)))∧(Kd.R k40 40 w' w.heap.size (fun k_=>some k_≠(s_.2.2:Value).ownBlock∧some k_≠(.slice (some ad131) x4_1.length co7:Value).ownBlock∧k_≠gb130) s_.2.1 y140)∧(Kd.R k40 40 w' w.heap.size (fun k_=>some k_≠(s_.2.1:Value).ownBlock∧some k_≠(.slice (some ad131) x4_1.length co7:Value).ownBlock∧k_≠gb130) s_.2.2 y143)∧(Kd.R k40 40 w' w.heap.size (fun k_=>some k_≠(s_.2.1:Value).ownBlock∧some k_≠(s_.2.2:Value).ownBlock∧k_≠gb130) (.slice (some ad131) x4_1.length co7) x4_1)∧(w'.heap[gb130]? = some (.cells #[.int .i64 ((rd_T40 l0 x10_1).f0), .int .i64 ((rd_T40 l0 x10_1).f1), .int .i64 ((rd_T40 l0 x10_1).f2)] 40 (0,0)))∧(Below w.heap.size w w')) ?_ ?_
                 rotate_left
                 ·intro hCont
                  refine two_ (i:=0) (j:=6) (Ni:=some 29) (Nj:=some 35) #[true,true,true,true,false,true,false,false,true,true,true,false,false] #[false,true,true,true,false,true,true,false,true,true,true,false,false] rfl rfl rfl rfl (two_of HT_.out (by kernel_rfl)) (by decide) (by decide) (fun K hK=>?_) (fun K hK=>?_)
                  ·skip
                   refine Kd.R_lit_step k40 _ 40 ?hg (N:=29) ?hd (xs:=([]:List (S40))) (inner:=[]) (ok:=fun _=>True) (okp:=fun _=>True) ?hr ?hp (fun _ hk=>hk) trivial (Below.refl _ _) (Nat.le_refl _) (by simp) ?_;(case hd=>rfl);(case hg=>rfl);(case hr=>exact hr_);(case hp=>exact(Reps.none _ _))
                   intro v134 w28 ho29 hb hg_ hnew_
                   clear hg_ hnew_
                   (first|rw[← Ny133.out]at ho29|(simp only[Int.reduceToNat]at ho29;rw[← Ny133.out]at ho29))
                   have HO135:=am_ (Kd.R_lower (Kd.R_newB (Kd.R_new' ho29 (Kd.R_lt ((a0_ HO_4.out)))) (g:=gb130) (o:= .cells #[.int .i64 ((rd_T40 l0 x10_1).f0), .int .i64 ((rd_T40 l0 x10_1).f1), .int .i64 ((rd_T40 l0 x10_1).f2)] 40 (0,0)) ((a5_ BK130.out))) (below_size ((a4_ GE130.out))))
                   replace HO_4:=am_ (Kd.R_elder' ((a0_ HO_4.out)) (Kd.R_base ho29) hb)
                   replace BK130:=am_ (blk_below (g:=gb130) (o:= .cells #[.int .i64 ((rd_T40 l0 x10_1).f0), .int .i64 ((rd_T40 l0 x10_1).f1), .int .i64 ((rd_T40 l0 x10_1).f2)] 40 (0,0)) ((a5_ BK130.out)) hb)
                   replace HR139:=am_ (Kd.C_below ((a13_ HR139.out)) hb)
                   replace HR152:=am_ (Kd.C_below ((a13_ HR152.out)) hb)
                   replace HB:=am_ (below_step ((a4_ GE130.out)) hb)
                   clear hb ho29
                   refine hK.out _ _ ⟨(blk_cell BK130.out 0).trans rfl,(blk_cell BK130.out 1).trans rfl,(blk_cell BK130.out 2).trans rfl⟩ (fun hHeld=>?_)
                   clear hK K
                   refine norm_ (a':=?_) ?_ ?_
                   rotate_left
                   ·show Act.put _ (some 29) _=_
                    simp only[Act.put,pu_]
                    rfl
                   refine two_ (i:=4) (j:=6) (Ni:=some 33) (Nj:=some 35) #[true,true,true,true,true,true,false,false,true,true,true,false,false] #[true,true,true,true,false,true,true,false,true,true,true,false,false] rfl rfl rfl rfl (two_of HT_.out (by kernel_rfl)) (by decide) (by decide) (fun K hK=>?_) (fun K hK=>?_)
                   ·skip
                    refine Kd.R_append_rows_step k40 (w0:=w) w.heap.size (by rfl) (.tmp 29) (.tmp 32) 24 40 (.agg #[(.int .i64 0),(.int .i64 0),(.int .i64 0)]) 24 rfl Tryz.underlying24 info40 rfl (by decide) (by omega) v134 y133 y136 _ _ _ (fun k_=>some k_≠(.slice (some ad131) x4_1.length co7:Value).ownBlock∧k_≠gb130) (fun _=>False) rfl rfl ?aO ?aR (fun _ _ h=>h) (fun _ h=>h.elim) ?aF ?aB ?aS ?aL ?_
                    (case aR=>exact(a14_ HR139.out))
                    (case aB=>exact((a4_ GE130.out)))
                    (case aF=>exact(fun k_ hk=>⟨Kd.fresh' (Kd.R_lt ((a0_ HO_4.out))) k_ hk,Kd.freshB (g:=gb130) (o:= .cells #[.int .i64 ((rd_T40 l0 x10_1).f0), .int .i64 ((rd_T40 l0 x10_1).f1), .int .i64 ((rd_T40 l0 x10_1).f2)] 40 (0,0)) ((a5_ BK130.out)) k_ hk⟩))
                    (case aO=>exact((a39_ HO135.out)))
                    (case aS=>exact(below_size ((a4_ GE130.out))))
                    (case aL=>have:=LMc18.out;omega)
                    intro v141 w30 ho hb hg hat
                    rw[← Ny140.out]at ho
                    have n0_:=am_ (Kd.R_after (ok:=(fun k_=>k_≠gb130)) ((a0_ HO_4.out)) hg hat)
                    have n1_:=am_ (blk_grown (g:=gb130) (o:= .cells #[.int .i64 ((rd_T40 l0 x10_1).f0), .int .i64 ((rd_T40 l0 x10_1).f1), .int .i64 ((rd_T40 l0 x10_1).f2)] 40 (0,0)) ((a5_ BK130.out)) hg (Kd.R_away HO135.out (fun _ hk=>hk.2)))
                    have n2_:=am_ (hb)
                    have n3_:=am_ ((show Kd.C k40 w30 (some ad131) y136.length y136 from by rw[Ny136.out];exact Kd.C_take (m:=(x7_2:Int).toNat) ((Kd.R_reads' (Kd.R_after (ok:=(fun k_=>k_≠gb130)) ((a0_ HO_4.out)) hg hat)).2.2) KL26.out))
                    have n4_:=am_ ((show Kd.C k40 w30 A27 y149.length y149 from by rw[Ny149.out,KA27.out];exact Kd.C_drop (m:=(x7_2:Int).toNat) (c:=co7) ((Kd.R_reads' (Kd.R_after (ok:=(fun k_=>k_≠gb130)) ((a0_ HO_4.out)) hg hat)).2.2) KL27.out ((Kd.R_reads' (Kd.R_after (ok:=(fun k_=>k_≠gb130)) ((a0_ HO_4.out)) hg hat)).2.1)))
                    have n5_:=am_ (ho)
                    clear HO_4 BK130 HB HR139 HR152 HO135
                    have HO_4:=n0_
                    have BK130:=n1_
                    have HB:=n2_
                    have HR139:=n3_
                    have HR152:=n4_
                    have HO142:=n5_
                    clear n0_ n1_ n2_ n3_ n4_ n5_ ho hb hg hat
                    refine hK.out _ _ ⟨(blk_cell BK130.out 0).trans rfl,(blk_cell BK130.out 1).trans rfl,(blk_cell BK130.out 2).trans rfl⟩ (fun hHeld=>?_)
                    clear hK K
                    refine norm_ (a':=?_) ?_ ?_
                    rotate_left
                    ·show Act.put _ (some 33) _=_
                     simp only[Act.put,pu_]
                     rfl
                    refine one_ (i:=6) (N:=some 35) #[true,true,true,true,true,true,true,false,true,true,true,false,false] rfl rfl (one_of HT_.out (by kernel_rfl)) (by decide) (fun K hK=>?_)
                    refine Kd.R_lit_step k40 _ 40 ?hg (N:=35) ?hd (xs:=([(⟨((rd_T40 l0 x10_1).f0),((rd_T40 l0 x10_1).f1),((rd_T40 l0 x10_1).f2)⟩:S40)]:List (S40))) (inner:=[.int .i64 ((rd_T40 l0 x10_1).f0), .int .i64 ((rd_T40 l0 x10_1).f1), .int .i64 ((rd_T40 l0 x10_1).f2)]) (ok:=fun _=>True) (okp:=fun _=>True) ?hr ?hp (fun _ hk=>hk) trivial (Below.refl _ _) (Nat.le_refl _) (by simp) ?_;(case hd=>rfl);(case hg=>rfl);(case hr=>exact hr_);(case hp=>exact(Reps.c3 (show Kd.M k40 _ _ _ (⟨((rd_T40 l0 x10_1).f0),((rd_T40 l0 x10_1).f1),((rd_T40 l0 x10_1).f2)⟩:S40) [.int .i64 ((rd_T40 l0 x10_1).f0), .int .i64 ((rd_T40 l0 x10_1).f1), .int .i64 ((rd_T40 l0 x10_1).f2)] from(k40_mkM _ _ _ (⟨((rd_T40 l0 x10_1).f0),((rd_T40 l0 x10_1).f1),((rd_T40 l0 x10_1).f2)⟩:S40) )) (Reps.none _ _)))
                    intro v144 w31 ho32 hb hg_ hnew_
                    clear hg_ hnew_
                    (first|rw[← Ny143.out]at ho32|(simp only[Int.reduceToNat]at ho32;rw[← Ny143.out]at ho32))
                    have HO145:=am_ (Kd.R_lower (Kd.R_newB (Kd.R_new' (Kd.R_new' ho32 (Kd.R_lt ((a0_ HO_4.out)))) (Kd.R_lt ((a0_ HO142.out)))) (g:=gb130) (o:= .cells #[.int .i64 ((rd_T40 l0 x10_1).f0), .int .i64 ((rd_T40 l0 x10_1).f1), .int .i64 ((rd_T40 l0 x10_1).f2)] 40 (0,0)) ((a5_ BK130.out))) (below_size ((a4_ GE130.out))))
                    replace HO_4:=am_ (Kd.R_elder' ((a0_ HO_4.out)) (Kd.R_base ho32) hb)
                    replace HO142:=am_ (Kd.R_elder' ((a0_ HO142.out)) (Kd.R_base ho32) hb)
                    replace BK130:=am_ (blk_below (g:=gb130) (o:= .cells #[.int .i64 ((rd_T40 l0 x10_1).f0), .int .i64 ((rd_T40 l0 x10_1).f1), .int .i64 ((rd_T40 l0 x10_1).f2)] 40 (0,0)) ((a5_ BK130.out)) hb)
                    replace HR139:=am_ (Kd.C_below ((a13_ HR139.out)) hb)
                    replace HR152:=am_ (Kd.C_below ((a13_ HR152.out)) hb)
                    replace HB:=am_ (below_step ((a4_ GE130.out)) hb)
                    clear hb ho32
                    refine hK.out _ _ ⟨(blk_cell BK130.out 0).trans rfl,(blk_cell BK130.out 1).trans rfl,(blk_cell BK130.out 2).trans rfl⟩ (fun hHeld=>?_)
                    clear hK K
                    refine norm_ (a':=?_) ?_ ?_
                    rotate_left
                    ·show Act.put _ (some 35) _=_
                     simp only[Act.put,pu_]
                     rfl
                    exact norm_ (by simp only[putAll,Act.put,List.setIfInBounds_toArray,List.set_cons_zero,List.set_cons_succ]) (hCont (v134,v141,v144) _ ⟨hHeld,((a33_ HO142.out)),(by(with_reducible repeat (first|apply Kd.R_alloc|apply Kd.R_drewN|apply Kd.R_drew));exact Kd.R_mono HO145.out (fun _ hk=>⟨hk.1.2,⟨hk.1.1.2,hk.2⟩⟩)),(by(with_reducible repeat (first|apply Kd.R_alloc|apply Kd.R_drewN|apply Kd.R_drew));exact Kd.R_mono HO_4.out (fun _ hk=>⟨hk.1.2,⟨hk.2,hk.1.1⟩⟩)),((a5_ BK130.out)),((a4_ GE130.out))⟩)
                   ·skip
                    refine Kd.R_lit_step k40 _ 40 ?hg (N:=35) ?hd (xs:=([(⟨((rd_T40 l0 x10_1).f0),((rd_T40 l0 x10_1).f1),((rd_T40 l0 x10_1).f2)⟩:S40)]:List (S40))) (inner:=[.int .i64 ((rd_T40 l0 x10_1).f0), .int .i64 ((rd_T40 l0 x10_1).f1), .int .i64 ((rd_T40 l0 x10_1).f2)]) (ok:=fun _=>True) (okp:=fun _=>True) ?hr ?hp (fun _ hk=>hk) trivial (Below.refl _ _) (Nat.le_refl _) (by simp) ?_;(case hd=>rfl);(case hg=>rfl);(case hr=>exact hr_);(case hp=>exact(Reps.c3 (show Kd.M k40 _ _ _ (⟨((rd_T40 l0 x10_1).f0),((rd_T40 l0 x10_1).f1),((rd_T40 l0 x10_1).f2)⟩:S40) [.int .i64 ((rd_T40 l0 x10_1).f0), .int .i64 ((rd_T40 l0 x10_1).f1), .int .i64 ((rd_T40 l0 x10_1).f2)] from(k40_mkM _ _ _ (⟨((rd_T40 l0 x10_1).f0),((rd_T40 l0 x10_1).f1),((rd_T40 l0 x10_1).f2)⟩:S40) )) (Reps.none _ _)))
                    intro v144 w30 ho31 hb hg_ hnew_
                    clear hg_ hnew_
                    (first|rw[← Ny143.out]at ho31|(simp only[Int.reduceToNat]at ho31;rw[← Ny143.out]at ho31))
                    have HO145:=am_ (Kd.R_lower (Kd.R_newB (Kd.R_new' (Kd.R_new' ho31 (Kd.R_lt ((a0_ HO_4.out)))) (Kd.R_lt ((a0_ HO135.out)))) (g:=gb130) (o:= .cells #[.int .i64 ((rd_T40 l0 x10_1).f0), .int .i64 ((rd_T40 l0 x10_1).f1), .int .i64 ((rd_T40 l0 x10_1).f2)] 40 (0,0)) ((a5_ BK130.out))) (below_size ((a4_ GE130.out))))
                    replace HO_4:=am_ (Kd.R_elder' ((a0_ HO_4.out)) (Kd.R_base ho31) hb)
                    replace HO135:=am_ (Kd.R_elder' ((a0_ HO135.out)) (Kd.R_base ho31) hb)
                    replace BK130:=am_ (blk_below (g:=gb130) (o:= .cells #[.int .i64 ((rd_T40 l0 x10_1).f0), .int .i64 ((rd_T40 l0 x10_1).f1), .int .i64 ((rd_T40 l0 x10_1).f2)] 40 (0,0)) ((a5_ BK130.out)) hb)
                    replace HR139:=am_ (Kd.C_below ((a13_ HR139.out)) hb)
                    replace HR152:=am_ (Kd.C_below ((a13_ HR152.out)) hb)
                    replace HB:=am_ (below_step ((a4_ GE130.out)) hb)
                    clear hb ho31
                    refine hK.out _ _ ⟨(blk_cell BK130.out 0).trans rfl,(blk_cell BK130.out 1).trans rfl,(blk_cell BK130.out 2).trans rfl⟩ (fun hHeld=>?_)
                    clear hK K
                    refine norm_ (a':=?_) ?_ ?_
                    rotate_left
                    ·show Act.put _ (some 35) _=_
                     simp only[Act.put,pu_]
                     rfl
                    refine one_ (i:=4) (N:=some 33) #[true,true,true,true,true,true,true,false,true,true,true,false,false] rfl rfl (one_of HT_.out (by kernel_rfl)) (by decide) (fun K hK=>?_)
                    refine Kd.R_append_rows_step k40 (w0:=w) w.heap.size (by rfl) (.tmp 29) (.tmp 32) 24 40 (.agg #[(.int .i64 0),(.int .i64 0),(.int .i64 0)]) 24 rfl Tryz.underlying24 info40 rfl (by decide) (by omega) v134 y133 y136 _ _ _ (fun k_=>some k_≠(.slice (some ad131) x4_1.length co7:Value).ownBlock∧some k_≠(v144:Value).ownBlock∧k_≠gb130) (fun _=>False) rfl rfl ?aO ?aR (fun _ _ h=>h) (fun _ h=>h.elim) ?aF ?aB ?aS ?aL ?_
                    (case aR=>exact(a14_ HR139.out))
                    (case aB=>exact((a4_ GE130.out)))
                    (case aF=>exact(fun k_ hk=>⟨Kd.fresh' (Kd.R_lt ((a0_ HO_4.out))) k_ hk,Kd.fresh' (Kd.R_lt ((a0_ HO145.out))) k_ hk,Kd.freshB (g:=gb130) (o:= .cells #[.int .i64 ((rd_T40 l0 x10_1).f0), .int .i64 ((rd_T40 l0 x10_1).f1), .int .i64 ((rd_T40 l0 x10_1).f2)] 40 (0,0)) ((a5_ BK130.out)) k_ hk⟩))
                    (case aO=>exact(by(with_reducible repeat (first|apply Kd.R_alloc|apply Kd.R_drewN|apply Kd.R_drew));exact Kd.R_mono HO135.out (fun _ hk=>⟨hk.1.1.2,⟨hk.2,hk.1.2⟩⟩)))
                    (case aS=>exact(below_size ((a4_ GE130.out))))
                    (case aL=>have:=LMc18.out;omega)
                    intro v141 w32 ho hb hg hat
                    rw[← Ny140.out]at ho
                    have n0_:=am_ (Kd.R_after (ok:=(fun k_=>some k_≠(v144:Value).ownBlock∧k_≠gb130)) ((a36_ HO_4.out)) hg hat)
                    have n1_:=am_ (blk_grown (g:=gb130) (o:= .cells #[.int .i64 ((rd_T40 l0 x10_1).f0), .int .i64 ((rd_T40 l0 x10_1).f1), .int .i64 ((rd_T40 l0 x10_1).f2)] 40 (0,0)) ((a5_ BK130.out)) hg (Kd.R_away HO135.out (fun _ hk=>hk.1.2)))
                    have n2_:=am_ (Kd.R_after (ok:=(fun k_=>some k_≠(.slice (some ad131) x4_1.length co7:Value).ownBlock∧k_≠gb130)) (by(with_reducible repeat (first|apply Kd.R_alloc|apply Kd.R_drewN|apply Kd.R_drew));exact Kd.R_mono HO145.out (fun _ hk=>⟨⟨hk.1.1.2,hk.2⟩,hk.1.2⟩)) hg hat)
                    have n3_:=am_ (hb)
                    have n4_:=am_ ((show Kd.C k40 w32 (some ad131) y136.length y136 from by rw[Ny136.out];exact Kd.C_take (m:=(x7_2:Int).toNat) ((Kd.R_reads' (Kd.R_after (ok:=(fun k_=>some k_≠(v144:Value).ownBlock∧k_≠gb130)) ((a36_ HO_4.out)) hg hat)).2.2) KL26.out))
                    have n5_:=am_ ((show Kd.C k40 w32 A27 y149.length y149 from by rw[Ny149.out,KA27.out];exact Kd.C_drop (m:=(x7_2:Int).toNat) (c:=co7) ((Kd.R_reads' (Kd.R_after (ok:=(fun k_=>some k_≠(v144:Value).ownBlock∧k_≠gb130)) ((a36_ HO_4.out)) hg hat)).2.2) KL27.out ((Kd.R_reads' (Kd.R_after (ok:=(fun k_=>some k_≠(v144:Value).ownBlock∧k_≠gb130)) ((a36_ HO_4.out)) hg hat)).2.1)))
                    have n6_:=am_ (ho)
                    clear HO_4 BK130 HO145 HB HR139 HR152 HO135
                    have HO_4:=n0_
                    have BK130:=n1_
                    have HO145:=n2_
                    have HB:=n3_
                    have HR139:=n4_
                    have HR152:=n5_
                    have HO142:=n6_
                    clear n0_ n1_ n2_ n3_ n4_ n5_ n6_ ho hb hg hat
                    refine hK.out _ _ ⟨(blk_cell BK130.out 0).trans rfl,(blk_cell BK130.out 1).trans rfl,(blk_cell BK130.out 2).trans rfl⟩ (fun hHeld=>?_)
                    clear hK K
                    refine norm_ (a':=?_) ?_ ?_
                    rotate_left
                    ·show Act.put _ (some 33) _=_
                     simp only[Act.put,pu_]
                     rfl
                    exact norm_ (by simp only[putAll,Act.put,List.setIfInBounds_toArray,List.set_cons_zero,List.set_cons_succ]) (hCont (v134,v141,v144) _ ⟨hHeld,((a41_ HO142.out)),((a33_ HO145.out)),((a33_ HO_4.out)),((a5_ BK130.out)),((a4_ GE130.out))⟩)
                  ·skip
                   refine Kd.R_lit_step k40 _ 40 ?hg (N:=35) ?hd (xs:=([(⟨((rd_T40 l0 x10_1).f0),((rd_T40 l0 x10_1).f1),((rd_T40 l0 x10_1).f2)⟩:S40)]:List (S40))) (inner:=[.int .i64 ((rd_T40 l0 x10_1).f0), .int .i64 ((rd_T40 l0 x10_1).f1), .int .i64 ((rd_T40 l0 x10_1).f2)]) (ok:=fun _=>True) (okp:=fun _=>True) ?hr ?hp (fun _ hk=>hk) trivial (Below.refl _ _) (Nat.le_refl _) (by simp) ?_;(case hd=>rfl);(case hg=>rfl);(case hr=>exact hr_);(case hp=>exact(Reps.c3 (show Kd.M k40 _ _ _ (⟨((rd_T40 l0 x10_1).f0),((rd_T40 l0 x10_1).f1),((rd_T40 l0 x10_1).f2)⟩:S40) [.int .i64 ((rd_T40 l0 x10_1).f0), .int .i64 ((rd_T40 l0 x10_1).f1), .int .i64 ((rd_T40 l0 x10_1).f2)] from(k40_mkM _ _ _ (⟨((rd_T40 l0 x10_1).f0),((rd_T40 l0 x10_1).f1),((rd_T40 l0 x10_1).f2)⟩:S40) )) (Reps.none _ _)))
                   intro v144 w28 ho29 hb hg_ hnew_
                   clear hg_ hnew_
                   (first|rw[← Ny143.out]at ho29|(simp only[Int.reduceToNat]at ho29;rw[← Ny143.out]at ho29))
                   have HO145:=am_ (Kd.R_lower (Kd.R_newB (Kd.R_new' ho29 (Kd.R_lt ((a0_ HO_4.out)))) (g:=gb130) (o:= .cells #[.int .i64 ((rd_T40 l0 x10_1).f0), .int .i64 ((rd_T40 l0 x10_1).f1), .int .i64 ((rd_T40 l0 x10_1).f2)] 40 (0,0)) ((a5_ BK130.out))) (below_size ((a4_ GE130.out))))
                   replace HO_4:=am_ (Kd.R_elder' ((a0_ HO_4.out)) (Kd.R_base ho29) hb)
                   replace BK130:=am_ (blk_below (g:=gb130) (o:= .cells #[.int .i64 ((rd_T40 l0 x10_1).f0), .int .i64 ((rd_T40 l0 x10_1).f1), .int .i64 ((rd_T40 l0 x10_1).f2)] 40 (0,0)) ((a5_ BK130.out)) hb)
                   replace HR139:=am_ (Kd.C_below ((a13_ HR139.out)) hb)
                   replace HR152:=am_ (Kd.C_below ((a13_ HR152.out)) hb)
                   replace HB:=am_ (below_step ((a4_ GE130.out)) hb)
                   clear hb ho29
                   refine hK.out _ _ ⟨(blk_cell BK130.out 0).trans rfl,(blk_cell BK130.out 1).trans rfl,(blk_cell BK130.out 2).trans rfl⟩ (fun hHeld=>?_)
                   clear hK K
                   refine norm_ (a':=?_) ?_ ?_
                   rotate_left
                   ·show Act.put _ (some 35) _=_
                    simp only[Act.put,pu_]
                    rfl
                   refine one_ (i:=0) (N:=some 29) #[true,true,true,true,false,true,true,false,true,true,true,false,false] rfl rfl (one_of HT_.out (by kernel_rfl)) (by decide) (fun K hK=>?_)
                   refine Kd.R_lit_step k40 _ 40 ?hg (N:=29) ?hd (xs:=([]:List (S40))) (inner:=[]) (ok:=fun _=>True) (okp:=fun _=>True) ?hr ?hp (fun _ hk=>hk) trivial (Below.refl _ _) (Nat.le_refl _) (by simp) ?_;(case hd=>rfl);(case hg=>rfl);(case hr=>exact hr_);(case hp=>exact(Reps.none _ _))
                   intro v134 w30 ho31 hb hg_ hnew_
                   clear hg_ hnew_
                   (first|rw[← Ny133.out]at ho31|(simp only[Int.reduceToNat]at ho31;rw[← Ny133.out]at ho31))
                   have HO135:=am_ (Kd.R_lower (Kd.R_newB (Kd.R_new' (Kd.R_new' ho31 (Kd.R_lt ((a0_ HO_4.out)))) (Kd.R_lt ((a0_ HO145.out)))) (g:=gb130) (o:= .cells #[.int .i64 ((rd_T40 l0 x10_1).f0), .int .i64 ((rd_T40 l0 x10_1).f1), .int .i64 ((rd_T40 l0 x10_1).f2)] 40 (0,0)) ((a5_ BK130.out))) (below_size ((a4_ GE130.out))))
                   replace HO_4:=am_ (Kd.R_elder' ((a0_ HO_4.out)) (Kd.R_base ho31) hb)
                   replace HO145:=am_ (Kd.R_elder' ((a0_ HO145.out)) (Kd.R_base ho31) hb)
                   replace BK130:=am_ (blk_below (g:=gb130) (o:= .cells #[.int .i64 ((rd_T40 l0 x10_1).f0), .int .i64 ((rd_T40 l0 x10_1).f1), .int .i64 ((rd_T40 l0 x10_1).f2)] 40 (0,0)) ((a5_ BK130.out)) hb)
                   replace HR139:=am_ (Kd.C_below ((a13_ HR139.out)) hb)
                   replace HR152:=am_ (Kd.C_below ((a13_ HR152.out)) hb)
                   replace HB:=am_ (below_step ((a4_ GE130.out)) hb)
                   clear hb ho31
                   refine hK.out _ _ ⟨(blk_cell BK130.out 0).trans rfl,(blk_cell BK130.out 1).trans rfl,(blk_cell BK130.out 2).trans rfl⟩ (fun hHeld=>?_)
                   clear hK K
                   refine norm_ (a':=?_) ?_ ?_
                   rotate_left
                   ·show Act.put _ (some 29) _=_
                    simp only[Act.put,pu_]
                    rfl
                   refine one_ (i:=4) (N:=some 33) #[true,true,true,true,true,true,true,false,true,true,true,false,false] rfl rfl (one_of HT_.out (by kernel_rfl)) (by decide) (fun K hK=>?_)
                   refine Kd.R_append_rows_step k40 (w0:=w) w.heap.size (by rfl) (.tmp 29) (.tmp 32) 24 40 (.agg #[(.int .i64 0),(.int .i64 0),(.int .i64 0)]) 24 rfl Tryz.underlying24 info40 rfl (by decide) (by omega) v134 y133 y136 _ _ _ (fun k_=>some k_≠(.slice (some ad131) x4_1.length co7:Value).ownBlock∧some k_≠(v144:Value).ownBlock∧k_≠gb130) (fun _=>False) rfl rfl ?aO ?aR (fun _ _ h=>h) (fun _ h=>h.elim) ?aF ?aB ?aS ?aL ?_
                   (case aR=>exact(a14_ HR139.out))
                   (case aB=>exact((a4_ GE130.out)))
                   (case aF=>exact(fun k_ hk=>⟨Kd.fresh' (Kd.R_lt ((a0_ HO_4.out))) k_ hk,Kd.fresh' (Kd.R_lt ((a0_ HO145.out))) k_ hk,Kd.freshB (g:=gb130) (o:= .cells #[.int .i64 ((rd_T40 l0 x10_1).f0), .int .i64 ((rd_T40 l0 x10_1).f1), .int .i64 ((rd_T40 l0 x10_1).f2)] 40 (0,0)) ((a5_ BK130.out)) k_ hk⟩))
                   (case aO=>exact((a44_ HO135.out)))
                   (case aS=>exact(below_size ((a4_ GE130.out))))
                   (case aL=>have:=LMc18.out;omega)
                   intro v141 w32 ho hb hg hat
                   rw[← Ny140.out]at ho
                   have n0_:=am_ (Kd.R_after (ok:=(fun k_=>some k_≠(v144:Value).ownBlock∧k_≠gb130)) ((a37_ HO_4.out)) hg hat)
                   have n1_:=am_ (blk_grown (g:=gb130) (o:= .cells #[.int .i64 ((rd_T40 l0 x10_1).f0), .int .i64 ((rd_T40 l0 x10_1).f1), .int .i64 ((rd_T40 l0 x10_1).f2)] 40 (0,0)) ((a5_ BK130.out)) hg (Kd.R_away HO135.out (fun _ hk=>hk.2)))
                   have n2_:=am_ (Kd.R_after (ok:=(fun k_=>some k_≠(.slice (some ad131) x4_1.length co7:Value).ownBlock∧k_≠gb130)) ((a42_ HO145.out)) hg hat)
                   have n3_:=am_ (hb)
                   have n4_:=am_ ((show Kd.C k40 w32 (some ad131) y136.length y136 from by rw[Ny136.out];exact Kd.C_take (m:=(x7_2:Int).toNat) ((Kd.R_reads' (Kd.R_after (ok:=(fun k_=>some k_≠(v144:Value).ownBlock∧k_≠gb130)) ((a37_ HO_4.out)) hg hat)).2.2) KL26.out))
                   have n5_:=am_ ((show Kd.C k40 w32 A27 y149.length y149 from by rw[Ny149.out,KA27.out];exact Kd.C_drop (m:=(x7_2:Int).toNat) (c:=co7) ((Kd.R_reads' (Kd.R_after (ok:=(fun k_=>some k_≠(v144:Value).ownBlock∧k_≠gb130)) ((a37_ HO_4.out)) hg hat)).2.2) KL27.out ((Kd.R_reads' (Kd.R_after (ok:=(fun k_=>some k_≠(v144:Value).ownBlock∧k_≠gb130)) ((a37_ HO_4.out)) hg hat)).2.1)))
                   have n6_:=am_ (ho)
                   clear HO_4 BK130 HO145 HB HR139 HR152 HO135
                   have HO_4:=n0_
                   have BK130:=n1_
                   have HO145:=n2_
                   have HB:=n3_
                   have HR139:=n4_
                   have HR152:=n5_
                   have HO142:=n6_
                   clear n0_ n1_ n2_ n3_ n4_ n5_ n6_ ho hb hg hat
                   refine hK.out _ _ ⟨(blk_cell BK130.out 0).trans rfl,(blk_cell BK130.out 1).trans rfl,(blk_cell BK130.out 2).trans rfl⟩ (fun hHeld=>?_)
                   clear hK K
                   refine norm_ (a':=?_) ?_ ?_
                   rotate_left
                   ·show Act.put _ (some 33) _=_
                    simp only[Act.put,pu_]
                    rfl
                   exact norm_ (by simp only[putAll,Act.put,List.setIfInBounds_toArray,List.set_cons_zero,List.set_cons_succ]) (hCont (v134,v141,v144) _ ⟨hHeld,((a41_ HO142.out)),((a33_ HO145.out)),((a33_ HO_4.out)),((a5_ BK130.out)),((a4_ GE130.out))⟩)
                 rintro⟨v134,v141,v144⟩ w33 ⟨hS_,h0_,h1_,h2_,h3_,h4_⟩
                 have n0_:Aside0 (Kd.R k40 40 w33 w.heap.size (fun k_=>some k_≠(v144:Value).ownBlock∧some k_≠(.slice (some ad131) x4_1.length co7:Value).ownBlock∧k_≠gb130) v141 y140):=⟨h0_⟩
                 have n1_:Aside0 (Kd.R k40 40 w33 w.heap.size (fun k_=>some k_≠(v141:Value).ownBlock∧some k_≠(.slice (some ad131) x4_1.length co7:Value).ownBlock∧k_≠gb130) v144 y143):=⟨h1_⟩
                 have n2_:Aside0 (Kd.R k40 40 w33 w.heap.size (fun k_=>some k_≠(v141:Value).ownBlock∧some k_≠(v144:Value).ownBlock∧k_≠gb130) (.slice (some ad131) x4_1.length co7) x4_1):=⟨h2_⟩
                 have n3_:Aside0 (w33.heap[gb130]? = some (.cells #[.int .i64 ((rd_T40 l0 x10_1).f0), .int .i64 ((rd_T40 l0 x10_1).f1), .int .i64 ((rd_T40 l0 x10_1).f2)] 40 (0,0))):=⟨h3_⟩
                 have n4_:Aside0 (Below w.heap.size w w33):=⟨h4_⟩
                 clear HO_4 BK130 HB h0_ h1_ h2_ h3_ h4_
                 have HO142:=n0_
                 have HO145:=n1_
                 have HO_4:=n2_
                 have BK130:=n3_
                 have HB:=n4_
                 clear n0_ n1_ n2_ n3_ n4_
                 have hHeld:w33.cell? ⟨gb130,0,none⟩=some (.int .i64 ((rd_T40 l0 x10_1).f0))∧w33.cell? ⟨gb130,1,none⟩=some (.int .i64 ((rd_T40 l0 x10_1).f1))∧w33.cell? ⟨gb130,2,none⟩=some (.int .i64 ((rd_T40 l0 x10_1).f2)):=hS_
                 have HR139:=am_ (show Kd.C k40 w33 (some ad131) y136.length y136 from by rw[Ny136.out];exact Kd.C_take (m:=(x7_2:Int).toNat) ((Kd.R_reads' HO_4.out).2.2) KL26.out)
                 have HR152:=am_ (show Kd.C k40 w33 A27 y149.length y149 from by rw[Ny149.out,KA27.out];exact Kd.C_drop (m:=(x7_2:Int).toNat) (c:=co7) ((Kd.R_reads' HO_4.out).2.2) KL27.out ((Kd.R_reads' HO_4.out).2.1))
                 obtain⟨Ao35,co35,eo35⟩:=Kd.R_slice HO145.out
                 (first|subst eo35|(injection eo35 with f1_ f2_ f3_;have f4_:=f1_.symm;have f5_:=f3_.symm;clear f1_ f2_ f3_;subst f4_;subst f5_))
                 refine norm_ (a':=?_) ?_ ?_
                 rotate_left
                 ·simp only[putAll,Act.put,List.setIfInBounds_toArray,List.set_cons_zero,List.set_cons_succ]
                  rfl
                 refine one_ (i:=7) (N:=some 36) #[true,true,true,true,true,true,true,true,true,true,true,false,false] rfl rfl (one_of HT_.out (by kernel_rfl)) (by decide) (fun K hK=>?_)
                 refine Kd.R_append_rows_step k40 (w0:=w) w.heap.size (by rfl) (.tmp 33) (.tmp 35) 24 40 (.agg #[(.int .i64 0),(.int .i64 0),(.int .i64 0)]) 24 rfl Tryz.underlying24 info40 rfl (by decide) (by omega) v141 y140 y143 _ _ _ (fun k_=>some k_≠(.slice (some ad131) x4_1.length co7:Value).ownBlock∧some k_≠(.slice Ao35 y143.length co35:Value).ownBlock∧k_≠gb130) (fun _=>False) rfl rfl ?aO ?aR (fun _ _ h=>h) (fun _ h=>h.elim) ?aF ?aB ?aS ?aL ?_
                 (case aR=>exact(a8_ HO145.out))
                 (case aB=>exact((a4_ GE130.out)))
                 (case aF=>exact(fun k_ hk=>⟨Kd.fresh' (Kd.R_lt ((a0_ HO_4.out))) k_ hk,Kd.fresh' (Kd.R_lt ((a0_ HO145.out))) k_ hk,Kd.freshB (g:=gb130) (o:= .cells #[.int .i64 ((rd_T40 l0 x10_1).f0), .int .i64 ((rd_T40 l0 x10_1).f1), .int .i64 ((rd_T40 l0 x10_1).f2)] 40 (0,0)) ((a5_ BK130.out)) k_ hk⟩))
                 (case aO=>exact((a41_ HO142.out)))
                 (case aS=>exact(below_size ((a4_ GE130.out))))
                 (case aL=>have:=LMc19.out;omega)
                 intro v147 w34 ho hb hg hat
                 rw[← Ny146.out]at ho
                 have n0_:=am_ (Kd.R_after (ok:=(fun k_=>some k_≠(.slice Ao35 y143.length co35:Value).ownBlock∧k_≠gb130)) ((a34_ HO_4.out)) hg hat)
                 have n1_:=am_ (blk_grown (g:=gb130) (o:= .cells #[.int .i64 ((rd_T40 l0 x10_1).f0), .int .i64 ((rd_T40 l0 x10_1).f1), .int .i64 ((rd_T40 l0 x10_1).f2)] 40 (0,0)) ((a5_ BK130.out)) hg (Kd.R_away HO142.out (fun _ hk=>hk.2.2)))
                 have n2_:=am_ (Kd.R_after (ok:=(fun k_=>some k_≠(.slice (some ad131) x4_1.length co7:Value).ownBlock∧k_≠gb130)) ((a34_ HO145.out)) hg hat)
                 have n3_:=am_ (hb)
                 have n4_:=am_ ((show Kd.C k40 w34 (some ad131) y136.length y136 from by rw[Ny136.out];exact Kd.C_take (m:=(x7_2:Int).toNat) ((Kd.R_reads' (Kd.R_after (ok:=(fun k_=>some k_≠(.slice Ao35 y143.length co35:Value).ownBlock∧k_≠gb130)) ((a34_ HO_4.out)) hg hat)).2.2) KL26.out))
                 have n5_:=am_ ((show Kd.C k40 w34 A27 y149.length y149 from by rw[Ny149.out,KA27.out];exact Kd.C_drop (m:=(x7_2:Int).toNat) (c:=co7) ((Kd.R_reads' (Kd.R_after (ok:=(fun k_=>some k_≠(.slice Ao35 y143.length co35:Value).ownBlock∧k_≠gb130)) ((a34_ HO_4.out)) hg hat)).2.2) KL27.out ((Kd.R_reads' (Kd.R_after (ok:=(fun k_=>some k_≠(.slice Ao35 y143.length co35:Value).ownBlock∧k_≠gb130)) ((a34_ HO_4.out)) hg hat)).2.1)))
                 have n6_:=am_ (ho)
                 clear HO_4 BK130 HO145 HB HR139 HR152 HO142
                 have HO_4:=n0_
                 have BK130:=n1_
                 have HO145:=n2_
                 have HB:=n3_
                 have HR139:=n4_
                 have HR152:=n5_
                 have HO148:=n6_
                 clear n0_ n1_ n2_ n3_ n4_ n5_ n6_ ho hb hg hat
                 refine hK.out _ _ ⟨(blk_cell BK130.out 0).trans rfl,(blk_cell BK130.out 1).trans rfl,(blk_cell BK130.out 2).trans rfl⟩ (fun hHeld=>?_)
                 clear hK K
                 refine norm_ (a':=?_) ?_ ?_
                 rotate_left
                 ·show Act.put _ (some 36) _=_
                  simp only[Act.put,pu_]
                  rfl
                 refine one_ (i:=11) (N:=some 40) #[true,true,true,true,true,true,true,true,true,true,true,true,false] rfl rfl (one_of HT_.out (by kernel_rfl)) (by decide) (fun K hK=>?_)
                 refine Kd.R_append_rows_step k40 (w0:=w) w.heap.size (by rfl) (.tmp 36) (.tmp 39) 24 40 (.agg #[(.int .i64 0),(.int .i64 0),(.int .i64 0)]) 24 rfl Tryz.underlying24 info40 rfl (by decide) (by omega) v147 y146 y149 _ _ _ (fun k_=>some k_≠(.slice (some ad131) x4_1.length co7:Value).ownBlock∧some k_≠(.slice Ao35 y143.length co35:Value).ownBlock∧k_≠gb130) (fun _=>False) rfl rfl ?aO ?aR (fun _ _ h=>h) (fun _ h=>h.elim) ?aF ?aB ?aS ?aL ?_
                 (case aR=>exact(a14_ HR152.out))
                 (case aB=>exact((a4_ GE130.out)))
                 (case aF=>exact(fun k_ hk=>⟨Kd.fresh' (Kd.R_lt ((a0_ HO_4.out))) k_ hk,Kd.fresh' (Kd.R_lt ((a0_ HO145.out))) k_ hk,Kd.freshB (g:=gb130) (o:= .cells #[.int .i64 ((rd_T40 l0 x10_1).f0), .int .i64 ((rd_T40 l0 x10_1).f1), .int .i64 ((rd_T40 l0 x10_1).f2)] 40 (0,0)) ((a5_ BK130.out)) k_ hk⟩))
                 (case aO=>exact((a0_ HO148.out)))
                 (case aS=>exact(below_size ((a4_ GE130.out))))
                 (case aL=>have:=LMc22.out;omega)
                 intro v154 w36 ho hb hg hat
                 rw[← Ny153.out]at ho
                 have n0_:=am_ (Kd.R_after (ok:=(fun k_=>some k_≠(.slice Ao35 y143.length co35:Value).ownBlock∧k_≠gb130)) ((a0_ HO_4.out)) hg hat)
                 have n1_:=am_ (blk_grown (g:=gb130) (o:= .cells #[.int .i64 ((rd_T40 l0 x10_1).f0), .int .i64 ((rd_T40 l0 x10_1).f1), .int .i64 ((rd_T40 l0 x10_1).f2)] 40 (0,0)) ((a5_ BK130.out)) hg (Kd.R_away HO148.out (fun _ hk=>hk.2.2)))
                 have n2_:=am_ (Kd.R_after (ok:=(fun k_=>some k_≠(.slice (some ad131) x4_1.length co7:Value).ownBlock∧k_≠gb130)) ((a0_ HO145.out)) hg hat)
                 have n3_:=am_ (hb)
                 have n4_:=am_ ((show Kd.C k40 w36 (some ad131) y136.length y136 from by rw[Ny136.out];exact Kd.C_take (m:=(x7_2:Int).toNat) ((Kd.R_reads' (Kd.R_after (ok:=(fun k_=>some k_≠(.slice Ao35 y143.length co35:Value).ownBlock∧k_≠gb130)) ((a0_ HO_4.out)) hg hat)).2.2) KL26.out))
                 have n5_:=am_ ((show Kd.C k40 w36 A27 y149.length y149 from by rw[Ny149.out,KA27.out];exact Kd.C_drop (m:=(x7_2:Int).toNat) (c:=co7) ((Kd.R_reads' (Kd.R_after (ok:=(fun k_=>some k_≠(.slice Ao35 y143.length co35:Value).ownBlock∧k_≠gb130)) ((a0_ HO_4.out)) hg hat)).2.2) KL27.out ((Kd.R_reads' (Kd.R_after (ok:=(fun k_=>some k_≠(.slice Ao35 y143.length co35:Value).ownBlock∧k_≠gb130)) ((a0_ HO_4.out)) hg hat)).2.1)))
                 have n6_:=am_ (ho)
                 clear HO_4 BK130 HO145 HB HR139 HR152 HO148
                 have HO_4:=n0_
                 have BK130:=n1_
                 have HO145:=n2_
                 have HB:=n3_
                 have HR139:=n4_
                 have HR152:=n5_
                 have HO155:=n6_
                 clear n0_ n1_ n2_ n3_ n4_ n5_ n6_ ho hb hg hat
                 refine hK.out _ _ ⟨(blk_cell BK130.out 0).trans rfl,(blk_cell BK130.out 1).trans rfl,(blk_cell BK130.out 2).trans rfl⟩ (fun hHeld=>?_)
                 clear hK K
                 refine norm_ (a':=?_) ?_ ?_
                 rotate_left
                 ·show Act.put _ (some 40) _=_
                  simp only[Act.put,pu_]
                  rfl
                 refine pure_ (i:=12) (N:=some 4) (v:=?_) (a':=?_) #[true,true,true,true,true,true,true,true,true,true,true,true,true] rfl rfl (any_of HT_.out (by kernel_rfl)) (fun _ _ _ h=>h) (Or.inl ⟨by rfl,?_⟩) ?_ ?_
                 rotate_left
                 ·intro w'
                  go_simp
                  with_reducible rfl
                 rotate_left
                 ·simp only[Act.put,pu_]
                  rfl
                 refine done_ (done_of HT_.out (by kernel_rfl)) ?_
                 try go_wp2
                 go_roundg k2
                 case measure=>have:=HK1.out;have:=HK2.out;omega
                 case rel=>exact⟨(y153),(wrap64 (x10_1+1)),(by first | rfl|(simp;done)|(simp[*];done)),H',⟨by have:=HK1.out;have:=HK2.out;omega⟩,⟨(a25_ HO155.out)⟩,⟨(a4_ GE130.out)⟩⟩
                ·rw[if_neg c22]at H
                 exact absurd H (by simp)
               ·rw[if_neg c19]at H
                exact absurd H (by simp)
              ·rw[if_neg c18]at H
               exact absurd H (by simp)
             ·rw[if_neg c17]at H
              exact absurd H (by simp)
            ·rw[if_neg c16]at H
             exact absurd H (by simp)
          ·rw[if_neg c11]at H
           exact absurd H (by simp)
         ·rw[if_neg c10]at H
          exact absurd H (by simp)
        ·rw[if_neg c8]at H
         have c8b0:decide (0<x7_2)=false:=decide_eq_false c8
         clear c8
         obtain⟨y156,hy156⟩:∃y_:List (S40),y_=(([]:List (S40))):=⟨_,rfl⟩
         replace H:(if 0≤x7_2 then(if x7_2≤(x4_1.length:Int) then((some (x4_1.take (x7_2:Int).toNat:List (S40))).bind fun y159=>(if y156.length+y159.length<5864062014805 then((some (y156 ++ y159:List (S40))).bind fun y163=>((some (([(⟨((rd_T40 l0 x10_1).f0),((rd_T40 l0 x10_1).f1),((rd_T40 l0 x10_1).f2)⟩:S40)]:List (S40)):List (S40))).bind fun y166=>(if y163.length+y166.length<5864062014805 then((some (y163 ++ y166:List (S40))).bind fun y169=>((some (x4_1.drop (x7_2:Int).toNat:List (S40))).bind fun y172=>(if y169.length+y172.length<5864062014805 then(spec_shSorted.l0 k2 (y169 ++ y172) l0 (l0.length:Int) (wrap64 (x10_1+1))) else(none)))) else(none)))) else(none))) else(none)) else(none))=some (r1,r2):=by first|(rw[hy156];with_reducible exact H)|(have H2_:=(Option.bind_some _ _).symm.trans H;rw[hy156];with_reducible exact H2_)|(have H2_:=(Option.bind_some _ _).symm.trans H;with_reducible exact H2_) | with_reducible exact H|(rw[hy156];exact H)|exact H
         have Ny156:=am_ hy156
         clear hy156
         by_cases c37:0≤x7_2
         ·rw[if_pos c37]at H
          have c37b0:=eq_true c37
          have c37b1:decide (0≤x7_2)=true:=decide_eq_true c37
          clear c37
          by_cases c38:x7_2≤(x4_1.length:Int)
          ·rw[if_pos c38]at H
           have c38b0:=eq_true c38
           have c38b1:decide (x7_2≤(x4_1.length:Int))=true:=decide_eq_true c38
           clear c38
           obtain⟨y159,hy159⟩:∃y_:List (S40),y_=(x4_1.take (x7_2:Int).toNat):=⟨_,rfl⟩
           replace H:(if y156.length+y159.length<5864062014805 then((some (y156 ++ y159:List (S40))).bind fun y163=>((some (([(⟨((rd_T40 l0 x10_1).f0),((rd_T40 l0 x10_1).f1),((rd_T40 l0 x10_1).f2)⟩:S40)]:List (S40)):List (S40))).bind fun y166=>(if y163.length+y166.length<5864062014805 then((some (y163 ++ y166:List (S40))).bind fun y169=>((some (x4_1.drop (x7_2:Int).toNat:List (S40))).bind fun y172=>(if y169.length+y172.length<5864062014805 then(spec_shSorted.l0 k2 (y169 ++ y172) l0 (l0.length:Int) (wrap64 (x10_1+1))) else(none)))) else(none)))) else(none))=some (r1,r2):=by first|(rw[hy159];with_reducible exact H)|(have H2_:=(Option.bind_some _ _).symm.trans H;rw[hy159];with_reducible exact H2_)|(have H2_:=(Option.bind_some _ _).symm.trans H;with_reducible exact H2_) | with_reducible exact H|(rw[hy159];exact H)|exact H
           have Ny159:=am_ hy159
           clear hy159
           by_cases c39:y156.length+y159.length<5864062014805
           ·rw[if_pos c39]at H
            have LMc39:=am_ c39
            clear c39
            obtain⟨y163,hy163⟩:∃y_:List (S40),y_=(y156 ++ y159):=⟨_,rfl⟩
            replace H:((some (([(⟨((rd_T40 l0 x10_1).f0),((rd_T40 l0 x10_1).f1),((rd_T40 l0 x10_1).f2)⟩:S40)]:List (S40)):List (S40))).bind fun y166=>(if y163.length+y166.length<5864062014805 then((some (y163 ++ y166:List (S40))).bind fun y169=>((some (x4_1.drop (x7_2:Int).toNat:List (S40))).bind fun y172=>(if y169.length+y172.length<5864062014805 then(spec_shSorted.l0 k2 (y169 ++ y172) l0 (l0.length:Int) (wrap64 (x10_1+1))) else(none)))) else(none)))=some (r1,r2):=by first|(rw[hy163];with_reducible exact H)|(have H2_:=(Option.bind_some _ _).symm.trans H;rw[hy163];with_reducible exact H2_)|(have H2_:=(Option.bind_some _ _).symm.trans H;with_reducible exact H2_) | with_reducible exact H|(rw[hy163];exact H)|exact H
            have Ny163:=am_ hy163
            clear hy163
            obtain⟨y166,hy166⟩:∃y_:List (S40),y_=(([(⟨((rd_T40 l0 x10_1).f0),((rd_T40 l0 x10_1).f1),((rd_T40 l0 x10_1).f2)⟩:S40)]:List (S40))):=⟨_,rfl⟩
            replace H:(if y163.length+y166.length<5864062014805 then((some (y163 ++ y166:List (S40))).bind fun y169=>((some (x4_1.drop (x7_2:Int).toNat:List (S40))).bind fun y172=>(if y169.length+y172.length<5864062014805 then(spec_shSorted.l0 k2 (y169 ++ y172) l0 (l0.length:Int) (wrap64 (x10_1+1))) else(none)))) else(none))=some (r1,r2):=by first|(rw[hy166];with_reducible exact H)|(have H2_:=(Option.bind_some _ _).symm.trans H;rw[hy166];with_reducible exact H2_)|(have H2_:=(Option.bind_some _ _).symm.trans H;with_reducible exact H2_) | with_reducible exact H|(rw[hy166];exact H)|exact H
            have Ny166:=am_ hy166
            clear hy166
            by_cases c40:y163.length+y166.length<5864062014805
            ·rw[if_pos c40]at H
             have LMc40:=am_ c40
             clear c40
             obtain⟨y169,hy169⟩:∃y_:List (S40),y_=(y163 ++ y166):=⟨_,rfl⟩
             replace H:((some (x4_1.drop (x7_2:Int).toNat:List (S40))).bind fun y172=>(if y169.length+y172.length<5864062014805 then(spec_shSorted.l0 k2 (y169 ++ y172) l0 (l0.length:Int) (wrap64 (x10_1+1))) else(none)))=some (r1,r2):=by first|(rw[hy169];with_reducible exact H)|(have H2_:=(Option.bind_some _ _).symm.trans H;rw[hy169];with_reducible exact H2_)|(have H2_:=(Option.bind_some _ _).symm.trans H;with_reducible exact H2_) | with_reducible exact H|(rw[hy169];exact H)|exact H
             have Ny169:=am_ hy169
             clear hy169
             have c41b0:=eq_true (of_decide_eq_true (a12_):0≤x7_2)
             have c42b0:=eq_true (of_decide_eq_true (a12_):x7_2≤(x4_1.length:Int))
             obtain⟨y172,hy172⟩:∃y_:List (S40),y_=(x4_1.drop (x7_2:Int).toNat):=⟨_,rfl⟩
             replace H:(if y169.length+y172.length<5864062014805 then(spec_shSorted.l0 k2 (y169 ++ y172) l0 (l0.length:Int) (wrap64 (x10_1+1))) else(none))=some (r1,r2):=by first|(rw[hy172];with_reducible exact H)|(have H2_:=(Option.bind_some _ _).symm.trans H;rw[hy172];with_reducible exact H2_)|(have H2_:=(Option.bind_some _ _).symm.trans H;with_reducible exact H2_) | with_reducible exact H|(rw[hy172];exact H)|exact H
             have Ny172:=am_ hy172
             clear hy172
             by_cases c43:y169.length+y172.length<5864062014805
             ·rw[if_pos c43]at H
              have LMc43:=am_ c43
              clear c43
              obtain⟨y176,hy176⟩:∃y_:List (S40),y_=(y169 ++ y172):=⟨_,rfl⟩
              replace H:(spec_shSorted.l0 k2 y176 l0 (l0.length:Int) (wrap64 (x10_1+1)))=some (r1,r2):=by first|(rw[hy176];with_reducible exact H)|(have H2_:=(Option.bind_some _ _).symm.trans H;rw[hy176];with_reducible exact H2_)|(have H2_:=(Option.bind_some _ _).symm.trans H;with_reducible exact H2_) | with_reducible exact H|(rw[hy176];exact H)|exact H
              have Ny176:=am_ hy176
              clear hy176
              have H':=am_ H
              clear H
              try go_wp2
              replace HO_4:=am_ (Kd.R_drew HO_4.out)
              replace BK130:=am_ (blk_drew BK130.out)
              replace HB:=am_ (below_drew1 HB.out)
              refine start_ (n:=11) (S:=fun w'=>True) (ds:=[]) #[false,false,false,false,false,false,false,false,false,false,false] (by kernel_rfl) rfl rfl trivial (fun hHeld=>?_);refine with_tabW spec_shSorted.tab6 spec_shSorted.bits6 (fun HT_ HW_=>?_)
              generalize wr.drew=w44 at HO_4 BK130 HB hHeld ⊢
              refine pure_ (i:=0) (N:=some 16) (v:=?_) (a':=?_) #[true,false,false,false,false,false,false,false,false,false,false] rfl rfl (any_of HT_.out (by kernel_rfl)) (fun _ _ _ h=>h) (Or.inl ⟨by rfl,?_⟩) ?_ ?_
              rotate_left
              ·intro w'
               go_simp
               with_reducible rfl
              rotate_left
              ·simp only[Act.put,pu_]
               rfl
              refine pure_ (i:=1) (N:=some 17) (v:=?_) (a':=?_) #[true,true,false,false,false,false,false,false,false,false,false] rfl rfl (any_of HT_.out (by kernel_rfl)) (fun _ _ _ h=>h) (Or.inl ⟨by rfl,?_⟩) ?_ ?_
              rotate_left
              ·intro w'
               go_simp
               with_reducible rfl
              rotate_left
              ·simp only[Act.put,pu_]
               rfl
              refine pure_ (i:=2) (N:=some 18) (v:=?_) (a':=?_) #[true,true,true,false,false,false,false,false,false,false,false] rfl rfl (any_of HT_.out (by kernel_rfl)) (fun _ _ _ h=>h) (Or.inl ⟨by rfl,?_⟩) ?_ ?_
              rotate_left
              ·intro w'
               go_simp
               with_reducible rfl
              rotate_left
              ·simp only[Act.put,pu_]
               rfl
              refine pure_ (i:=3) (N:=some 19) (v:=undef) (a':=?_) #[true,true,true,true,false,false,false,false,false,false,false] rfl rfl (any_of HT_.out (by kernel_rfl)) (fun _ _ _ h=>h) (Or.inr ⟨by rfl,rfl⟩) ?_ ?_
              rotate_left
              ·simp only[Act.put,pu_]
               rfl
              refine pure_ (i:=4) (N:=some 20) (v:=undef) (a':=?_) #[true,true,true,true,true,false,false,false,false,false,false] rfl rfl (any_of HT_.out (by kernel_rfl)) (fun _ _ _ h=>h) (Or.inr ⟨by rfl,rfl⟩) ?_ ?_
              rotate_left
              ·simp only[Act.put,pu_]
               rfl
              refine pure_ (i:=5) (N:=some 21) (v:=undef) (a':=?_) #[true,true,true,true,true,true,false,false,false,false,false] rfl rfl (any_of HT_.out (by kernel_rfl)) (fun _ _ _ h=>h) (Or.inr ⟨by rfl,rfl⟩) ?_ ?_
              rotate_left
              ·simp only[Act.put,pu_]
               rfl
              refine pure_ (i:=6) (N:=some 22) (v:=undef) (a':=?_) #[true,true,true,true,true,true,true,false,false,false,false] rfl rfl (any_of HT_.out (by kernel_rfl)) (fun _ _ _ h=>h) (Or.inr ⟨by rfl,rfl⟩) ?_ ?_
              rotate_left
              ·simp only[Act.put,pu_]
               rfl
              refine pure_ (i:=7) (N:=some 23) (v:=undef) (a':=?_) #[true,true,true,true,true,true,true,true,false,false,false] rfl rfl (any_of HT_.out (by kernel_rfl)) (fun _ _ _ h=>h) (Or.inr ⟨by rfl,rfl⟩) ?_ ?_
              rotate_left
              ·simp only[Act.put,pu_]
               rfl
              refine pure_ (i:=8) (N:=some 24) (v:=undef) (a':=?_) #[true,true,true,true,true,true,true,true,true,false,false] rfl rfl (any_of HT_.out (by kernel_rfl)) (fun _ _ _ h=>h) (Or.inr ⟨by rfl,rfl⟩) ?_ ?_
              rotate_left
              ·simp only[Act.put,pu_]
               rfl
              refine pure_ (i:=9) (N:=some 25) (v:=undef) (a':=?_) #[true,true,true,true,true,true,true,true,true,true,false] rfl rfl (any_of HT_.out (by kernel_rfl)) (fun _ _ _ h=>h) (Or.inr ⟨by rfl,rfl⟩) ?_ ?_
              rotate_left
              ·simp only[Act.put,pu_]
               rfl
              refine pure_ (i:=10) (N:=some 26) (v:=?_) (a':=?_) #[true,true,true,true,true,true,true,true,true,true,true] rfl rfl (any_of HT_.out (by kernel_rfl)) (fun _ _ _ h=>h) (Or.inl ⟨by rfl,?_⟩) ?_ ?_
              rotate_left
              ·intro w'
               go_simp
               with_reducible rfl
              rotate_left
              ·simp only[Act.put,pu_]
               rfl
              refine done_ (done_of HT_.out (by kernel_rfl)) ?_
              try go_wp2
              replace HO_4:=am_ (Kd.R_drew HO_4.out)
              replace BK130:=am_ (blk_drew BK130.out)
              replace HB:=am_ (below_drew1 HB.out)
              have q46:(x7_2:Int)≤((x4_1.length:Int):Int):=of_decide_eq_true (a12_)
              obtain⟨i046,hi046,_,hsz46,_⟩:=info_parts info40
              have hroom46:x4_1.length≤co7:=(Kd.R_reads' HO_4.out).2.1
              have hC46:Kd.C k40 _ Ao7 x4_1.length x4_1:=(Kd.R_reads' HO_4.out).2.2
              have hcut46:=cut_to (P:=Tryz.prog) 24 40 .i64 Tryz.underlying24 hi046 Ao7 x4_1.length co7 x7_2 (of_decide_eq_true (a12_)) q46 hroom46
              have hr46:=Kd.C_take (m:=(x7_2:Int).toNat) hC46 (by omega)
              have hy46:y159.length=(x7_2:Int).toNat:=(by rw[Ny159.out,List.length_take];omega)
              rw[← Ny159.out]at hr46
              rw[← hy46]at hcut46
              have HR162:=am_ hr46
              have HC162:=am_ (show y159.length≤co7 from by omega)
              clear hr46 hC46 hroom46 hi046 hsz46
              have KY46:=am_ hy46
              clear hy46
              have KL46:=am_ (show(x7_2:Int).toNat≤x4_1.length from by omega)
              replace q46:=eq_true q46
              have q47:(x7_2:Int)≤((x4_1.length:Int):Int):=of_decide_eq_true (a12_)
              obtain⟨i047,hi047,_,hsz47,_⟩:=info_parts info40
              have hroom47:x4_1.length≤co7:=(Kd.R_reads' HO_4.out).2.1
              have hC47:Kd.C k40 _ Ao7 x4_1.length x4_1:=(Kd.R_reads' HO_4.out).2.2
              have q047:(0:Int)≤(x7_2:Int):=of_decide_eq_true (a12_)
              have hcut47:=cut_from (P:=Tryz.prog) 24 40 .i64 Tryz.underlying24 hi047 3 hsz47 Ao7 x4_1.length co7 x7_2 q047 q47
              have hr47:=Kd.C_drop (m:=(x7_2:Int).toNat) (c:=co7) hC47 (by omega) hroom47
              obtain⟨A47,hA47⟩:∃A1,A1=(if co7=(x7_2:Int).toNat then Ao7 else(Ao7:Option Addr).map (·.add ((x7_2:Int).toNat*3))):=⟨_,rfl⟩
              obtain⟨c47,hc47⟩:∃c1,c1=co7-(x7_2:Int).toNat:=⟨_,rfl⟩
              have hy47:y172.length=x4_1.length-(x7_2:Int).toNat:=(by rw[Ny172.out,List.length_drop]<;>omega)
              rw[show(x4_1).drop (x7_2:Int).toNat=y172 from Ny172.out.symm]at hr47
              replace hr47:Kd.C k40 _ A47 y172.length y172:=(by rw[hA47];exact hr47)
              rw[← hy47, ← hA47, ← hc47]at hcut47
              have HR175:=am_ hr47
              have HC175:=am_ (show y172.length≤c47 from by rw[hy47,hc47];exact Nat.sub_le_sub_right hroom47 _)
              clear hr47 hC47 hroom47 hi047 hsz47 hc47
              have KY47:=am_ hy47
              have KA47:=am_ hA47
              clear hy47 hA47
              have KL47:=am_ (show(x7_2:Int).toNat≤x4_1.length from by omega)
              replace q47:=eq_true q47
              refine start_ (n:=13) (S:=fun w'=>w'.cell? ⟨gb130,0,none⟩=some (.int .i64 ((rd_T40 l0 x10_1).f0))∧w'.cell? ⟨gb130,1,none⟩=some (.int .i64 ((rd_T40 l0 x10_1).f1))∧w'.cell? ⟨gb130,2,none⟩=some (.int .i64 ((rd_T40 l0 x10_1).f2))) (ds:=[]) #[false,false,false,false,false,false,false,false,false,false,false,false,false] (by kernel_rfl) rfl rfl ⟨(blk_cell BK130.out 0).trans rfl,(blk_cell BK130.out 1).trans rfl,(blk_cell BK130.out 2).trans rfl⟩ (fun hHeld=>?_);refine with_tabW spec_shSorted.tab8 spec_shSorted.bits8 (fun HT_ HW_=>?_)
              generalize w44.drew=w45 at HO_4 BK130 HB HR162 HR175 hHeld ⊢
              refine pure_ (i:=1) (N:=some 30) (v:=?_) (a':=?_) #[false,true,false,false,false,false,false,false,false,false,false,false,false] rfl rfl (any_of HT_.out (by kernel_rfl)) (fun _ _ _ h=>h) (Or.inl ⟨by rfl,?_⟩) ?_ ?_
              rotate_left
              ·intro w'
               go_simp
               with_reducible rfl
              rotate_left
              ·simp only[Act.put,pu_]
               rfl
              refine pure_ (i:=2) (N:=some 31) (v:=?_) (a':=?_) #[false,true,true,false,false,false,false,false,false,false,false,false,false] rfl rfl (any_of HT_.out (by kernel_rfl)) (fun _ _ _ h=>h) (Or.inl ⟨by rfl,?_⟩) ?_ ?_
              rotate_left
              ·intro w'
               go_simp
               with_reducible rfl
              rotate_left
              ·simp only[Act.put,pu_]
               rfl
              refine pure_ (i:=3) (N:=some 32) (v:=?_) (a':=?_) #[false,true,true,true,false,false,false,false,false,false,false,false,false] rfl rfl (any_of HT_.out (by kernel_rfl)) (fun _ _ _ h=>h) (Or.inl ⟨by rfl,?_⟩) ?_ ?_
              rotate_left
              ·intro w'
               go_simp
               with_reducible rfl
              rotate_left
              ·simp only[Act.put,pu_]
               rfl
              refine pure_ (i:=8) (N:=some 37) (v:=?_) (a':=?_) #[false,true,true,true,false,false,false,false,true,false,false,false,false] rfl rfl (any_of HT_.out (by kernel_rfl)) (fun _ _ _ h=>h) (Or.inl ⟨by rfl,?_⟩) ?_ ?_
              rotate_left
              ·intro w'
               go_simp
               with_reducible rfl
              rotate_left
              ·simp only[Act.put,pu_]
               rfl
              refine pure_ (i:=9) (N:=some 38) (v:=?_) (a':=?_) #[false,true,true,true,false,false,false,false,true,true,false,false,false] rfl rfl (any_of HT_.out (by kernel_rfl)) (fun _ _ _ h=>h) (Or.inl ⟨by rfl,?_⟩) ?_ ?_
              rotate_left
              ·intro w'
               go_simp
               with_reducible rfl
              rotate_left
              ·simp only[Act.put,pu_]
               rfl
              refine pure_ (i:=10) (N:=some 39) (v:=?_) (a':=?_) #[false,true,true,true,false,false,false,false,true,true,true,false,false] rfl rfl (any_of HT_.out (by kernel_rfl)) (fun _ _ _ h=>h) (Or.inl ⟨by rfl,?_⟩) ?_ ?_
              rotate_left
              ·intro w'
               go_simp
               with_reducible rfl
              rotate_left
              ·simp only[Act.put,pu_]
               rfl
              refine take_ (i:=5) (N:=some 34) (v:=?_) (a':=?_) #[false,true,true,true,false,true,false,false,true,true,true,false,false] rfl rfl (take_ofW HT_.out HW_.out (by kernel_rfl)) (fun _ _ _ h=>h) (Or.inl ⟨by rfl,?_⟩) hHeld ?_ ?_
              rotate_left
              ·rintro w' ⟨s0,s1,s2⟩
               go_simp
               with_reducible rfl
              rotate_left
              ·simp only[Act.put,pu_]
               rfl
              refine join_ (σ:=Value×Value×Value) 3 #[true,true,true,true,true,true,true,false,true,true,true,false,false] (fun s_=> [(29,s_.1),(33,s_.2.1),(35,s_.2.2)]) (fun s_ w'=>(w'.cell? ⟨gb130,0,none⟩=some (.int .i64 ((rd_T40 l0 x10_1).f0))∧w'.cell? ⟨gb130,1,none⟩=some (.int .i64 ((rd_T40 l0 x10_1).f1))∧w'.cell? ⟨gb130,2,none⟩=some (.int .i64 ((rd_T40 l0 x10_1).f2)))∧(Kd.R k40 40 w' w.heap.size (fun k_=>some k_≠(s_.2.2:Value).ownBlock∧some k_≠(.slice Ao7 x4_1.length co7:Value).ownBlock∧k_≠gb130) s_.2.1 y163)∧(Kd.R k40 40 w' w.heap.size (fun k_=>some k_≠(s_.2.1:Value).ownBlock∧some k_≠(.slice Ao7 x4_1.length co7:Value).ownBlock∧k_≠gb130) s_.2.2 y166)∧(Kd.R k40 40 w' w.heap.size (fun k_=>some k_≠(s_.2.1:Value).ownBlock∧some k_≠(s_.2.2:Value).ownBlock∧k_≠gb130) (.slice Ao7 x4_1.length co7) x4_1)∧(w'.heap[gb130]? = some (.cells #[.int .i64 ((rd_T40 l0 x10_1).f0), .int .i64 ((rd_T40 l0 x10_1).f1), .int .i64 ((rd_T40 l0 x10_1).f2)] 40 (0,0)))∧(Below w.heap.size w w')) ?_ ?_
              rotate_left
              ·intro hCont
               refine two_ (i:=0) (j:=6) (Ni:=some 29) (Nj:=some 35) #[true,true,true,true,false,true,false,false,true,true,true,false,false] #[false,true,true,true,false,true,true,false,true,true,true,false,false] rfl rfl rfl rfl (two_of HT_.out (by kernel_rfl)) (by decide) (by decide) (fun K hK=>?_) (fun K hK=>?_)
               ·skip
                refine Kd.R_lit_step k40 _ 40 ?hg (N:=29) ?hd (xs:=([]:List (S40))) (inner:=[]) (ok:=fun _=>True) (okp:=fun _=>True) ?hr ?hp (fun _ hk=>hk) trivial (Below.refl _ _) (Nat.le_refl _) (by simp) ?_;(case hd=>rfl);(case hg=>rfl);(case hr=>exact hr_);(case hp=>exact(Reps.none _ _))
                intro v157 w48 ho49 hb hg_ hnew_
                clear hg_ hnew_
                (first|rw[← Ny156.out]at ho49|(simp only[Int.reduceToNat]at ho49;rw[← Ny156.out]at ho49))
                have HO158:=am_ (Kd.R_lower (Kd.R_newB (Kd.R_new' ho49 (Kd.R_lt ((a0_ HO_4.out)))) (g:=gb130) (o:= .cells #[.int .i64 ((rd_T40 l0 x10_1).f0), .int .i64 ((rd_T40 l0 x10_1).f1), .int .i64 ((rd_T40 l0 x10_1).f2)] 40 (0,0)) ((a5_ BK130.out))) (below_size ((a4_ GE130.out))))
                replace HO_4:=am_ (Kd.R_elder' ((a0_ HO_4.out)) (Kd.R_base ho49) hb)
                replace BK130:=am_ (blk_below (g:=gb130) (o:= .cells #[.int .i64 ((rd_T40 l0 x10_1).f0), .int .i64 ((rd_T40 l0 x10_1).f1), .int .i64 ((rd_T40 l0 x10_1).f2)] 40 (0,0)) ((a5_ BK130.out)) hb)
                replace HR162:=am_ (Kd.C_below ((a13_ HR162.out)) hb)
                replace HR175:=am_ (Kd.C_below ((a13_ HR175.out)) hb)
                replace HB:=am_ (below_step ((a4_ GE130.out)) hb)
                clear hb ho49
                refine hK.out _ _ ⟨(blk_cell BK130.out 0).trans rfl,(blk_cell BK130.out 1).trans rfl,(blk_cell BK130.out 2).trans rfl⟩ (fun hHeld=>?_)
                clear hK K
                refine norm_ (a':=?_) ?_ ?_
                rotate_left
                ·show Act.put _ (some 29) _=_
                 simp only[Act.put,pu_]
                 rfl
                refine two_ (i:=4) (j:=6) (Ni:=some 33) (Nj:=some 35) #[true,true,true,true,true,true,false,false,true,true,true,false,false] #[true,true,true,true,false,true,true,false,true,true,true,false,false] rfl rfl rfl rfl (two_of HT_.out (by kernel_rfl)) (by decide) (by decide) (fun K hK=>?_) (fun K hK=>?_)
                ·skip
                 refine Kd.R_append_rows_step k40 (w0:=w) w.heap.size (by rfl) (.tmp 29) (.tmp 32) 24 40 (.agg #[(.int .i64 0),(.int .i64 0),(.int .i64 0)]) 24 rfl Tryz.underlying24 info40 rfl (by decide) (by omega) v157 y156 y159 _ _ _ (fun k_=>some k_≠(.slice Ao7 x4_1.length co7:Value).ownBlock∧k_≠gb130) (fun _=>False) rfl rfl ?aO ?aR (fun _ _ h=>h) (fun _ h=>h.elim) ?aF ?aB ?aS ?aL ?_
                 (case aR=>exact(a14_ HR162.out))
                 (case aB=>exact((a4_ GE130.out)))
                 (case aF=>exact(fun k_ hk=>⟨Kd.fresh' (Kd.R_lt ((a0_ HO_4.out))) k_ hk,Kd.freshB (g:=gb130) (o:= .cells #[.int .i64 ((rd_T40 l0 x10_1).f0), .int .i64 ((rd_T40 l0 x10_1).f1), .int .i64 ((rd_T40 l0 x10_1).f2)] 40 (0,0)) ((a5_ BK130.out)) k_ hk⟩))
                 (case aO=>exact((a39_ HO158.out)))
                 (case aS=>exact(below_size ((a4_ GE130.out))))
                 (case aL=>have:=LMc39.out;omega)
                 intro v164 w50 ho hb hg hat
                 rw[← Ny163.out]at ho
                 have n0_:=am_ (Kd.R_after (ok:=(fun k_=>k_≠gb130)) ((a0_ HO_4.out)) hg hat)
                 have n1_:=am_ (blk_grown (g:=gb130) (o:= .cells #[.int .i64 ((rd_T40 l0 x10_1).f0), .int .i64 ((rd_T40 l0 x10_1).f1), .int .i64 ((rd_T40 l0 x10_1).f2)] 40 (0,0)) ((a5_ BK130.out)) hg (Kd.R_away HO158.out (fun _ hk=>hk.2)))
                 have n2_:=am_ (hb)
                 have n3_:=am_ ((show Kd.C k40 w50 Ao7 y159.length y159 from by rw[Ny159.out];exact Kd.C_take (m:=(x7_2:Int).toNat) ((Kd.R_reads' (Kd.R_after (ok:=(fun k_=>k_≠gb130)) ((a0_ HO_4.out)) hg hat)).2.2) KL46.out))
                 have n4_:=am_ ((show Kd.C k40 w50 A47 y172.length y172 from by rw[Ny172.out,KA47.out];exact Kd.C_drop (m:=(x7_2:Int).toNat) (c:=co7) ((Kd.R_reads' (Kd.R_after (ok:=(fun k_=>k_≠gb130)) ((a0_ HO_4.out)) hg hat)).2.2) KL47.out ((Kd.R_reads' (Kd.R_after (ok:=(fun k_=>k_≠gb130)) ((a0_ HO_4.out)) hg hat)).2.1)))
                 have n5_:=am_ (ho)
                 clear HO_4 BK130 HB HR162 HR175 HO158
                 have HO_4:=n0_
                 have BK130:=n1_
                 have HB:=n2_
                 have HR162:=n3_
                 have HR175:=n4_
                 have HO165:=n5_
                 clear n0_ n1_ n2_ n3_ n4_ n5_ ho hb hg hat
                 refine hK.out _ _ ⟨(blk_cell BK130.out 0).trans rfl,(blk_cell BK130.out 1).trans rfl,(blk_cell BK130.out 2).trans rfl⟩ (fun hHeld=>?_)
                 clear hK K
                 refine norm_ (a':=?_) ?_ ?_
                 rotate_left
                 ·show Act.put _ (some 33) _=_
                  simp only[Act.put,pu_]
                  rfl
                 refine one_ (i:=6) (N:=some 35) #[true,true,true,true,true,true,true,false,true,true,true,false,false] rfl rfl (one_of HT_.out (by kernel_rfl)) (by decide) (fun K hK=>?_)
                 refine Kd.R_lit_step k40 _ 40 ?hg (N:=35) ?hd (xs:=([(⟨((rd_T40 l0 x10_1).f0),((rd_T40 l0 x10_1).f1),((rd_T40 l0 x10_1).f2)⟩:S40)]:List (S40))) (inner:=[.int .i64 ((rd_T40 l0 x10_1).f0), .int .i64 ((rd_T40 l0 x10_1).f1), .int .i64 ((rd_T40 l0 x10_1).f2)]) (ok:=fun _=>True) (okp:=fun _=>True) ?hr ?hp (fun _ hk=>hk) trivial (Below.refl _ _) (Nat.le_refl _) (by simp) ?_;(case hd=>rfl);(case hg=>rfl);(case hr=>exact hr_);(case hp=>exact(Reps.c3 (show Kd.M k40 _ _ _ (⟨((rd_T40 l0 x10_1).f0),((rd_T40 l0 x10_1).f1),((rd_T40 l0 x10_1).f2)⟩:S40) [.int .i64 ((rd_T40 l0 x10_1).f0), .int .i64 ((rd_T40 l0 x10_1).f1), .int .i64 ((rd_T40 l0 x10_1).f2)] from(k40_mkM _ _ _ (⟨((rd_T40 l0 x10_1).f0),((rd_T40 l0 x10_1).f1),((rd_T40 l0 x10_1).f2)⟩:S40) )) (Reps.none _ _)))
                 intro v167 w51 ho52 hb hg_ hnew_
                 clear hg_ hnew_
                 (first|rw[← Ny166.out]at ho52|(simp only[Int.reduceToNat]at ho52;rw[← Ny166.out]at ho52))
                 have HO168:=am_ (Kd.R_lower (Kd.R_newB (Kd.R_new' (Kd.R_new' ho52 (Kd.R_lt ((a0_ HO_4.out)))) (Kd.R_lt ((a0_ HO165.out)))) (g:=gb130) (o:= .cells #[.int .i64 ((rd_T40 l0 x10_1).f0), .int .i64 ((rd_T40 l0 x10_1).f1), .int .i64 ((rd_T40 l0 x10_1).f2)] 40 (0,0)) ((a5_ BK130.out))) (below_size ((a4_ GE130.out))))
                 replace HO_4:=am_ (Kd.R_elder' ((a0_ HO_4.out)) (Kd.R_base ho52) hb)
                 replace HO165:=am_ (Kd.R_elder' ((a0_ HO165.out)) (Kd.R_base ho52) hb)
                 replace BK130:=am_ (blk_below (g:=gb130) (o:= .cells #[.int .i64 ((rd_T40 l0 x10_1).f0), .int .i64 ((rd_T40 l0 x10_1).f1), .int .i64 ((rd_T40 l0 x10_1).f2)] 40 (0,0)) ((a5_ BK130.out)) hb)
                 replace HR162:=am_ (Kd.C_below ((a13_ HR162.out)) hb)
                 replace HR175:=am_ (Kd.C_below ((a13_ HR175.out)) hb)
                 replace HB:=am_ (below_step ((a4_ GE130.out)) hb)
                 clear hb ho52
                 refine hK.out _ _ ⟨(blk_cell BK130.out 0).trans rfl,(blk_cell BK130.out 1).trans rfl,(blk_cell BK130.out 2).trans rfl⟩ (fun hHeld=>?_)
                 clear hK K
                 refine norm_ (a':=?_) ?_ ?_
                 rotate_left
                 ·show Act.put _ (some 35) _=_
                  simp only[Act.put,pu_]
                  rfl
                 exact norm_ (by simp only[putAll,Act.put,List.setIfInBounds_toArray,List.set_cons_zero,List.set_cons_succ]) (hCont (v157,v164,v167) _ ⟨hHeld,((a33_ HO165.out)),(by(with_reducible repeat (first|apply Kd.R_alloc|apply Kd.R_drewN|apply Kd.R_drew));exact Kd.R_mono HO168.out (fun _ hk=>⟨hk.1.2,⟨hk.1.1.2,hk.2⟩⟩)),(by(with_reducible repeat (first|apply Kd.R_alloc|apply Kd.R_drewN|apply Kd.R_drew));exact Kd.R_mono HO_4.out (fun _ hk=>⟨hk.1.2,⟨hk.2,hk.1.1⟩⟩)),((a5_ BK130.out)),((a4_ GE130.out))⟩)
                ·skip
                 refine Kd.R_lit_step k40 _ 40 ?hg (N:=35) ?hd (xs:=([(⟨((rd_T40 l0 x10_1).f0),((rd_T40 l0 x10_1).f1),((rd_T40 l0 x10_1).f2)⟩:S40)]:List (S40))) (inner:=[.int .i64 ((rd_T40 l0 x10_1).f0), .int .i64 ((rd_T40 l0 x10_1).f1), .int .i64 ((rd_T40 l0 x10_1).f2)]) (ok:=fun _=>True) (okp:=fun _=>True) ?hr ?hp (fun _ hk=>hk) trivial (Below.refl _ _) (Nat.le_refl _) (by simp) ?_;(case hd=>rfl);(case hg=>rfl);(case hr=>exact hr_);(case hp=>exact(Reps.c3 (show Kd.M k40 _ _ _ (⟨((rd_T40 l0 x10_1).f0),((rd_T40 l0 x10_1).f1),((rd_T40 l0 x10_1).f2)⟩:S40) [.int .i64 ((rd_T40 l0 x10_1).f0), .int .i64 ((rd_T40 l0 x10_1).f1), .int .i64 ((rd_T40 l0 x10_1).f2)] from(k40_mkM _ _ _ (⟨((rd_T40 l0 x10_1).f0),((rd_T40 l0 x10_1).f1),((rd_T40 l0 x10_1).f2)⟩:S40) )) (Reps.none _ _)))
                 intro v167 w50 ho51 hb hg_ hnew_
                 clear hg_ hnew_
                 (first|rw[← Ny166.out]at ho51|(simp only[Int.reduceToNat]at ho51;rw[← Ny166.out]at ho51))
                 have HO168:=am_ (Kd.R_lower (Kd.R_newB (Kd.R_new' (Kd.R_new' ho51 (Kd.R_lt ((a0_ HO_4.out)))) (Kd.R_lt ((a0_ HO158.out)))) (g:=gb130) (o:= .cells #[.int .i64 ((rd_T40 l0 x10_1).f0), .int .i64 ((rd_T40 l0 x10_1).f1), .int .i64 ((rd_T40 l0 x10_1).f2)] 40 (0,0)) ((a5_ BK130.out))) (below_size ((a4_ GE130.out))))
                 replace HO_4:=am_ (Kd.R_elder' ((a0_ HO_4.out)) (Kd.R_base ho51) hb)
                 replace HO158:=am_ (Kd.R_elder' ((a0_ HO158.out)) (Kd.R_base ho51) hb)
                 replace BK130:=am_ (blk_below (g:=gb130) (o:= .cells #[.int .i64 ((rd_T40 l0 x10_1).f0), .int .i64 ((rd_T40 l0 x10_1).f1), .int .i64 ((rd_T40 l0 x10_1).f2)] 40 (0,0)) ((a5_ BK130.out)) hb)
                 replace HR162:=am_ (Kd.C_below ((a13_ HR162.out)) hb)
                 replace HR175:=am_ (Kd.C_below ((a13_ HR175.out)) hb)
                 replace HB:=am_ (below_step ((a4_ GE130.out)) hb)
                 clear hb ho51
                 refine hK.out _ _ ⟨(blk_cell BK130.out 0).trans rfl,(blk_cell BK130.out 1).trans rfl,(blk_cell BK130.out 2).trans rfl⟩ (fun hHeld=>?_)
                 clear hK K
                 refine norm_ (a':=?_) ?_ ?_
                 rotate_left
                 ·show Act.put _ (some 35) _=_
                  simp only[Act.put,pu_]
                  rfl
                 refine one_ (i:=4) (N:=some 33) #[true,true,true,true,true,true,true,false,true,true,true,false,false] rfl rfl (one_of HT_.out (by kernel_rfl)) (by decide) (fun K hK=>?_)
                 refine Kd.R_append_rows_step k40 (w0:=w) w.heap.size (by rfl) (.tmp 29) (.tmp 32) 24 40 (.agg #[(.int .i64 0),(.int .i64 0),(.int .i64 0)]) 24 rfl Tryz.underlying24 info40 rfl (by decide) (by omega) v157 y156 y159 _ _ _ (fun k_=>some k_≠(.slice Ao7 x4_1.length co7:Value).ownBlock∧some k_≠(v167:Value).ownBlock∧k_≠gb130) (fun _=>False) rfl rfl ?aO ?aR (fun _ _ h=>h) (fun _ h=>h.elim) ?aF ?aB ?aS ?aL ?_
                 (case aR=>exact(a14_ HR162.out))
                 (case aB=>exact((a4_ GE130.out)))
                 (case aF=>exact(fun k_ hk=>⟨Kd.fresh' (Kd.R_lt ((a0_ HO_4.out))) k_ hk,Kd.fresh' (Kd.R_lt ((a0_ HO168.out))) k_ hk,Kd.freshB (g:=gb130) (o:= .cells #[.int .i64 ((rd_T40 l0 x10_1).f0), .int .i64 ((rd_T40 l0 x10_1).f1), .int .i64 ((rd_T40 l0 x10_1).f2)] 40 (0,0)) ((a5_ BK130.out)) k_ hk⟩))
                 (case aO=>exact(by(with_reducible repeat (first|apply Kd.R_alloc|apply Kd.R_drewN|apply Kd.R_drew));exact Kd.R_mono HO158.out (fun _ hk=>⟨hk.1.1.2,⟨hk.2,hk.1.2⟩⟩)))
                 (case aS=>exact(below_size ((a4_ GE130.out))))
                 (case aL=>have:=LMc39.out;omega)
                 intro v164 w52 ho hb hg hat
                 rw[← Ny163.out]at ho
                 have n0_:=am_ (Kd.R_after (ok:=(fun k_=>some k_≠(v167:Value).ownBlock∧k_≠gb130)) ((a36_ HO_4.out)) hg hat)
                 have n1_:=am_ (blk_grown (g:=gb130) (o:= .cells #[.int .i64 ((rd_T40 l0 x10_1).f0), .int .i64 ((rd_T40 l0 x10_1).f1), .int .i64 ((rd_T40 l0 x10_1).f2)] 40 (0,0)) ((a5_ BK130.out)) hg (Kd.R_away HO158.out (fun _ hk=>hk.1.2)))
                 have n2_:=am_ (Kd.R_after (ok:=(fun k_=>some k_≠(.slice Ao7 x4_1.length co7:Value).ownBlock∧k_≠gb130)) (by(with_reducible repeat (first|apply Kd.R_alloc|apply Kd.R_drewN|apply Kd.R_drew));exact Kd.R_mono HO168.out (fun _ hk=>⟨⟨hk.1.1.2,hk.2⟩,hk.1.2⟩)) hg hat)
                 have n3_:=am_ (hb)
                 have n4_:=am_ ((show Kd.C k40 w52 Ao7 y159.length y159 from by rw[Ny159.out];exact Kd.C_take (m:=(x7_2:Int).toNat) ((Kd.R_reads' (Kd.R_after (ok:=(fun k_=>some k_≠(v167:Value).ownBlock∧k_≠gb130)) ((a36_ HO_4.out)) hg hat)).2.2) KL46.out))
                 have n5_:=am_ ((show Kd.C k40 w52 A47 y172.length y172 from by rw[Ny172.out,KA47.out];exact Kd.C_drop (m:=(x7_2:Int).toNat) (c:=co7) ((Kd.R_reads' (Kd.R_after (ok:=(fun k_=>some k_≠(v167:Value).ownBlock∧k_≠gb130)) ((a36_ HO_4.out)) hg hat)).2.2) KL47.out ((Kd.R_reads' (Kd.R_after (ok:=(fun k_=>some k_≠(v167:Value).ownBlock∧k_≠gb130)) ((a36_ HO_4.out)) hg hat)).2.1)))
                 have n6_:=am_ (ho)
                 clear HO_4 BK130 HO168 HB HR162 HR175 HO158
                 have HO_4:=n0_
                 have BK130:=n1_
                 have HO168:=n2_
                 have HB:=n3_
                 have HR162:=n4_
                 have HR175:=n5_
                 have HO165:=n6_
                 clear n0_ n1_ n2_ n3_ n4_ n5_ n6_ ho hb hg hat
                 refine hK.out _ _ ⟨(blk_cell BK130.out 0).trans rfl,(blk_cell BK130.out 1).trans rfl,(blk_cell BK130.out 2).trans rfl⟩ (fun hHeld=>?_)
                 clear hK K
                 refine norm_ (a':=?_) ?_ ?_
                 rotate_left
                 ·show Act.put _ (some 33) _=_
                  simp only[Act.put,pu_]
                  rfl
                 exact norm_ (by simp only[putAll,Act.put,List.setIfInBounds_toArray,List.set_cons_zero,List.set_cons_succ]) (hCont (v157,v164,v167) _ ⟨hHeld,((a41_ HO165.out)),((a33_ HO168.out)),((a33_ HO_4.out)),((a5_ BK130.out)),((a4_ GE130.out))⟩)
               ·skip
                refine Kd.R_lit_step k40 _ 40 ?hg (N:=35) ?hd (xs:=([(⟨((rd_T40 l0 x10_1).f0),((rd_T40 l0 x10_1).f1),((rd_T40 l0 x10_1).f2)⟩:S40)]:List (S40))) (inner:=[.int .i64 ((rd_T40 l0 x10_1).f0), .int .i64 ((rd_T40 l0 x10_1).f1), .int .i64 ((rd_T40 l0 x10_1).f2)]) (ok:=fun _=>True) (okp:=fun _=>True) ?hr ?hp (fun _ hk=>hk) trivial (Below.refl _ _) (Nat.le_refl _) (by simp) ?_;(case hd=>rfl);(case hg=>rfl);(case hr=>exact hr_);(case hp=>exact(Reps.c3 (show Kd.M k40 _ _ _ (⟨((rd_T40 l0 x10_1).f0),((rd_T40 l0 x10_1).f1),((rd_T40 l0 x10_1).f2)⟩:S40) [.int .i64 ((rd_T40 l0 x10_1).f0), .int .i64 ((rd_T40 l0 x10_1).f1), .int .i64 ((rd_T40 l0 x10_1).f2)] from(k40_mkM _ _ _ (⟨((rd_T40 l0 x10_1).f0),((rd_T40 l0 x10_1).f1),((rd_T40 l0 x10_1).f2)⟩:S40) )) (Reps.none _ _)))
                intro v167 w48 ho49 hb hg_ hnew_
                clear hg_ hnew_
                (first|rw[← Ny166.out]at ho49|(simp only[Int.reduceToNat]at ho49;rw[← Ny166.out]at ho49))
                have HO168:=am_ (Kd.R_lower (Kd.R_newB (Kd.R_new' ho49 (Kd.R_lt ((a0_ HO_4.out)))) (g:=gb130) (o:= .cells #[.int .i64 ((rd_T40 l0 x10_1).f0), .int .i64 ((rd_T40 l0 x10_1).f1), .int .i64 ((rd_T40 l0 x10_1).f2)] 40 (0,0)) ((a5_ BK130.out))) (below_size ((a4_ GE130.out))))
                replace HO_4:=am_ (Kd.R_elder' ((a0_ HO_4.out)) (Kd.R_base ho49) hb)
                replace BK130:=am_ (blk_below (g:=gb130) (o:= .cells #[.int .i64 ((rd_T40 l0 x10_1).f0), .int .i64 ((rd_T40 l0 x10_1).f1), .int .i64 ((rd_T40 l0 x10_1).f2)] 40 (0,0)) ((a5_ BK130.out)) hb)
                replace HR162:=am_ (Kd.C_below ((a13_ HR162.out)) hb)
                replace HR175:=am_ (Kd.C_below ((a13_ HR175.out)) hb)
                replace HB:=am_ (below_step ((a4_ GE130.out)) hb)
                clear hb ho49
                refine hK.out _ _ ⟨(blk_cell BK130.out 0).trans rfl,(blk_cell BK130.out 1).trans rfl,(blk_cell BK130.out 2).trans rfl⟩ (fun hHeld=>?_)
                clear hK K
                refine norm_ (a':=?_) ?_ ?_
                rotate_left
                ·show Act.put _ (some 35) _=_
                 simp only[Act.put,pu_]
                 rfl
                refine one_ (i:=0) (N:=some 29) #[true,true,true,true,false,true,true,false,true,true,true,false,false] rfl rfl (one_of HT_.out (by kernel_rfl)) (by decide) (fun K hK=>?_)
                refine Kd.R_lit_step k40 _ 40 ?hg (N:=29) ?hd (xs:=([]:List (S40))) (inner:=[]) (ok:=fun _=>True) (okp:=fun _=>True) ?hr ?hp (fun _ hk=>hk) trivial (Below.refl _ _) (Nat.le_refl _) (by simp) ?_;(case hd=>rfl);(case hg=>rfl);(case hr=>exact hr_);(case hp=>exact(Reps.none _ _))
                intro v157 w50 ho51 hb hg_ hnew_
                clear hg_ hnew_
                (first|rw[← Ny156.out]at ho51|(simp only[Int.reduceToNat]at ho51;rw[← Ny156.out]at ho51))
                have HO158:=am_ (Kd.R_lower (Kd.R_newB (Kd.R_new' (Kd.R_new' ho51 (Kd.R_lt ((a0_ HO_4.out)))) (Kd.R_lt ((a0_ HO168.out)))) (g:=gb130) (o:= .cells #[.int .i64 ((rd_T40 l0 x10_1).f0), .int .i64 ((rd_T40 l0 x10_1).f1), .int .i64 ((rd_T40 l0 x10_1).f2)] 40 (0,0)) ((a5_ BK130.out))) (below_size ((a4_ GE130.out))))
                replace HO_4:=am_ (Kd.R_elder' ((a0_ HO_4.out)) (Kd.R_base ho51) hb)
                replace HO168:=am_ (Kd.R_elder' ((a0_ HO168.out)) (Kd.R_base ho51) hb)
                replace BK130:=am_ (blk_below (g:=gb130) (o:= .cells #[.int .i64 ((rd_T40 l0 x10_1).f0), .int .i64 ((rd_T40 l0 x10_1).f1), .int .i64 ((rd_T40 l0 x10_1).f2)] 40 (0,0)) ((a5_ BK130.out)) hb)
                replace HR162:=am_ (Kd.C_below ((a13_ HR162.out)) hb)
                replace HR175:=am_ (Kd.C_below ((a13_ HR175.out)) hb)
                replace HB:=am_ (below_step ((a4_ GE130.out)) hb)
                clear hb ho51
                refine hK.out _ _ ⟨(blk_cell BK130.out 0).trans rfl,(blk_cell BK130.out 1).trans rfl,(blk_cell BK130.out 2).trans rfl⟩ (fun hHeld=>?_)
                clear hK K
                refine norm_ (a':=?_) ?_ ?_
                rotate_left
                ·show Act.put _ (some 29) _=_
                 simp only[Act.put,pu_]
                 rfl
                refine one_ (i:=4) (N:=some 33) #[true,true,true,true,true,true,true,false,true,true,true,false,false] rfl rfl (one_of HT_.out (by kernel_rfl)) (by decide) (fun K hK=>?_)
                refine Kd.R_append_rows_step k40 (w0:=w) w.heap.size (by rfl) (.tmp 29) (.tmp 32) 24 40 (.agg #[(.int .i64 0),(.int .i64 0),(.int .i64 0)]) 24 rfl Tryz.underlying24 info40 rfl (by decide) (by omega) v157 y156 y159 _ _ _ (fun k_=>some k_≠(.slice Ao7 x4_1.length co7:Value).ownBlock∧some k_≠(v167:Value).ownBlock∧k_≠gb130) (fun _=>False) rfl rfl ?aO ?aR (fun _ _ h=>h) (fun _ h=>h.elim) ?aF ?aB ?aS ?aL ?_
                (case aR=>exact(a14_ HR162.out))
                (case aB=>exact((a4_ GE130.out)))
                (case aF=>exact(fun k_ hk=>⟨Kd.fresh' (Kd.R_lt ((a0_ HO_4.out))) k_ hk,Kd.fresh' (Kd.R_lt ((a0_ HO168.out))) k_ hk,Kd.freshB (g:=gb130) (o:= .cells #[.int .i64 ((rd_T40 l0 x10_1).f0), .int .i64 ((rd_T40 l0 x10_1).f1), .int .i64 ((rd_T40 l0 x10_1).f2)] 40 (0,0)) ((a5_ BK130.out)) k_ hk⟩))
                (case aO=>exact((a44_ HO158.out)))
                (case aS=>exact(below_size ((a4_ GE130.out))))
                (case aL=>have:=LMc39.out;omega)
                intro v164 w52 ho hb hg hat
                rw[← Ny163.out]at ho
                have n0_:=am_ (Kd.R_after (ok:=(fun k_=>some k_≠(v167:Value).ownBlock∧k_≠gb130)) ((a37_ HO_4.out)) hg hat)
                have n1_:=am_ (blk_grown (g:=gb130) (o:= .cells #[.int .i64 ((rd_T40 l0 x10_1).f0), .int .i64 ((rd_T40 l0 x10_1).f1), .int .i64 ((rd_T40 l0 x10_1).f2)] 40 (0,0)) ((a5_ BK130.out)) hg (Kd.R_away HO158.out (fun _ hk=>hk.2)))
                have n2_:=am_ (Kd.R_after (ok:=(fun k_=>some k_≠(.slice Ao7 x4_1.length co7:Value).ownBlock∧k_≠gb130)) ((a42_ HO168.out)) hg hat)
                have n3_:=am_ (hb)
                have n4_:=am_ ((show Kd.C k40 w52 Ao7 y159.length y159 from by rw[Ny159.out];exact Kd.C_take (m:=(x7_2:Int).toNat) ((Kd.R_reads' (Kd.R_after (ok:=(fun k_=>some k_≠(v167:Value).ownBlock∧k_≠gb130)) ((a37_ HO_4.out)) hg hat)).2.2) KL46.out))
                have n5_:=am_ ((show Kd.C k40 w52 A47 y172.length y172 from by rw[Ny172.out,KA47.out];exact Kd.C_drop (m:=(x7_2:Int).toNat) (c:=co7) ((Kd.R_reads' (Kd.R_after (ok:=(fun k_=>some k_≠(v167:Value).ownBlock∧k_≠gb130)) ((a37_ HO_4.out)) hg hat)).2.2) KL47.out ((Kd.R_reads' (Kd.R_after (ok:=(fun k_=>some k_≠(v167:Value).ownBlock∧k_≠gb130)) ((a37_ HO_4.out)) hg hat)).2.1)))
                have n6_:=am_ (ho)
                clear HO_4 BK130 HO168 HB HR162 HR175 HO158
                have HO_4:=n0_
                have BK130:=n1_
                have HO168:=n2_
                have HB:=n3_
                have HR162:=n4_
                have HR175:=n5_
                have HO165:=n6_
                clear n0_ n1_ n2_ n3_ n4_ n5_ n6_ ho hb hg hat
                refine hK.out _ _ ⟨(blk_cell BK130.out 0).trans rfl,(blk_cell BK130.out 1).trans rfl,(blk_cell BK130.out 2).trans rfl⟩ (fun hHeld=>?_)
                clear hK K
                refine norm_ (a':=?_) ?_ ?_
                rotate_left
                ·show Act.put _ (some 33) _=_
                 simp only[Act.put,pu_]
                 rfl
                exact norm_ (by simp only[putAll,Act.put,List.setIfInBounds_toArray,List.set_cons_zero,List.set_cons_succ]) (hCont (v157,v164,v167) _ ⟨hHeld,((a41_ HO165.out)),((a33_ HO168.out)),((a33_ HO_4.out)),((a5_ BK130.out)),((a4_ GE130.out))⟩)
              rintro⟨v157,v164,v167⟩ w53 ⟨hS_,h0_,h1_,h2_,h3_,h4_⟩
              have n0_:Aside0 (Kd.R k40 40 w53 w.heap.size (fun k_=>some k_≠(v167:Value).ownBlock∧some k_≠(.slice Ao7 x4_1.length co7:Value).ownBlock∧k_≠gb130) v164 y163):=⟨h0_⟩
              have n1_:Aside0 (Kd.R k40 40 w53 w.heap.size (fun k_=>some k_≠(v164:Value).ownBlock∧some k_≠(.slice Ao7 x4_1.length co7:Value).ownBlock∧k_≠gb130) v167 y166):=⟨h1_⟩
              have n2_:Aside0 (Kd.R k40 40 w53 w.heap.size (fun k_=>some k_≠(v164:Value).ownBlock∧some k_≠(v167:Value).ownBlock∧k_≠gb130) (.slice Ao7 x4_1.length co7) x4_1):=⟨h2_⟩
              have n3_:Aside0 (w53.heap[gb130]? = some (.cells #[.int .i64 ((rd_T40 l0 x10_1).f0), .int .i64 ((rd_T40 l0 x10_1).f1), .int .i64 ((rd_T40 l0 x10_1).f2)] 40 (0,0))):=⟨h3_⟩
              have n4_:Aside0 (Below w.heap.size w w53):=⟨h4_⟩
              clear HO_4 BK130 HB h0_ h1_ h2_ h3_ h4_
              have HO165:=n0_
              have HO168:=n1_
              have HO_4:=n2_
              have BK130:=n3_
              have HB:=n4_
              clear n0_ n1_ n2_ n3_ n4_
              have hHeld:w53.cell? ⟨gb130,0,none⟩=some (.int .i64 ((rd_T40 l0 x10_1).f0))∧w53.cell? ⟨gb130,1,none⟩=some (.int .i64 ((rd_T40 l0 x10_1).f1))∧w53.cell? ⟨gb130,2,none⟩=some (.int .i64 ((rd_T40 l0 x10_1).f2)):=hS_
              have HR162:=am_ (show Kd.C k40 w53 Ao7 y159.length y159 from by rw[Ny159.out];exact Kd.C_take (m:=(x7_2:Int).toNat) ((Kd.R_reads' HO_4.out).2.2) KL46.out)
              have HR175:=am_ (show Kd.C k40 w53 A47 y172.length y172 from by rw[Ny172.out,KA47.out];exact Kd.C_drop (m:=(x7_2:Int).toNat) (c:=co7) ((Kd.R_reads' HO_4.out).2.2) KL47.out ((Kd.R_reads' HO_4.out).2.1))
              obtain⟨Ao55,co55,eo55⟩:=Kd.R_slice HO168.out
              (first|subst eo55|(injection eo55 with f1_ f2_ f3_;have f4_:=f1_.symm;have f5_:=f3_.symm;clear f1_ f2_ f3_;subst f4_;subst f5_))
              refine norm_ (a':=?_) ?_ ?_
              rotate_left
              ·simp only[putAll,Act.put,List.setIfInBounds_toArray,List.set_cons_zero,List.set_cons_succ]
               rfl
              refine one_ (i:=7) (N:=some 36) #[true,true,true,true,true,true,true,true,true,true,true,false,false] rfl rfl (one_of HT_.out (by kernel_rfl)) (by decide) (fun K hK=>?_)
              refine Kd.R_append_rows_step k40 (w0:=w) w.heap.size (by rfl) (.tmp 33) (.tmp 35) 24 40 (.agg #[(.int .i64 0),(.int .i64 0),(.int .i64 0)]) 24 rfl Tryz.underlying24 info40 rfl (by decide) (by omega) v164 y163 y166 _ _ _ (fun k_=>some k_≠(.slice Ao7 x4_1.length co7:Value).ownBlock∧some k_≠(.slice Ao55 y166.length co55:Value).ownBlock∧k_≠gb130) (fun _=>False) rfl rfl ?aO ?aR (fun _ _ h=>h) (fun _ h=>h.elim) ?aF ?aB ?aS ?aL ?_
              (case aR=>exact(a8_ HO168.out))
              (case aB=>exact((a4_ GE130.out)))
              (case aF=>exact(fun k_ hk=>⟨Kd.fresh' (Kd.R_lt ((a0_ HO_4.out))) k_ hk,Kd.fresh' (Kd.R_lt ((a0_ HO168.out))) k_ hk,Kd.freshB (g:=gb130) (o:= .cells #[.int .i64 ((rd_T40 l0 x10_1).f0), .int .i64 ((rd_T40 l0 x10_1).f1), .int .i64 ((rd_T40 l0 x10_1).f2)] 40 (0,0)) ((a5_ BK130.out)) k_ hk⟩))
              (case aO=>exact((a41_ HO165.out)))
              (case aS=>exact(below_size ((a4_ GE130.out))))
              (case aL=>have:=LMc40.out;omega)
              intro v170 w54 ho hb hg hat
              rw[← Ny169.out]at ho
              have n0_:=am_ (Kd.R_after (ok:=(fun k_=>some k_≠(.slice Ao55 y166.length co55:Value).ownBlock∧k_≠gb130)) ((a34_ HO_4.out)) hg hat)
              have n1_:=am_ (blk_grown (g:=gb130) (o:= .cells #[.int .i64 ((rd_T40 l0 x10_1).f0), .int .i64 ((rd_T40 l0 x10_1).f1), .int .i64 ((rd_T40 l0 x10_1).f2)] 40 (0,0)) ((a5_ BK130.out)) hg (Kd.R_away HO165.out (fun _ hk=>hk.2.2)))
              have n2_:=am_ (Kd.R_after (ok:=(fun k_=>some k_≠(.slice Ao7 x4_1.length co7:Value).ownBlock∧k_≠gb130)) ((a34_ HO168.out)) hg hat)
              have n3_:=am_ (hb)
              have n4_:=am_ ((show Kd.C k40 w54 Ao7 y159.length y159 from by rw[Ny159.out];exact Kd.C_take (m:=(x7_2:Int).toNat) ((Kd.R_reads' (Kd.R_after (ok:=(fun k_=>some k_≠(.slice Ao55 y166.length co55:Value).ownBlock∧k_≠gb130)) ((a34_ HO_4.out)) hg hat)).2.2) KL46.out))
              have n5_:=am_ ((show Kd.C k40 w54 A47 y172.length y172 from by rw[Ny172.out,KA47.out];exact Kd.C_drop (m:=(x7_2:Int).toNat) (c:=co7) ((Kd.R_reads' (Kd.R_after (ok:=(fun k_=>some k_≠(.slice Ao55 y166.length co55:Value).ownBlock∧k_≠gb130)) ((a34_ HO_4.out)) hg hat)).2.2) KL47.out ((Kd.R_reads' (Kd.R_after (ok:=(fun k_=>some k_≠(.slice Ao55 y166.length co55:Value).ownBlock∧k_≠gb130)) ((a34_ HO_4.out)) hg hat)).2.1)))
              have n6_:=am_ (ho)
              clear HO_4 BK130 HO168 HB HR162 HR175 HO165
              have HO_4:=n0_
              have BK130:=n1_
              have HO168:=n2_
              have HB:=n3_
              have HR162:=n4_
              have HR175:=n5_
              have HO171:=n6_
              clear n0_ n1_ n2_ n3_ n4_ n5_ n6_ ho hb hg hat
              refine hK.out _ _ ⟨(blk_cell BK130.out 0).trans rfl,(blk_cell BK130.out 1).trans rfl,(blk_cell BK130.out 2).trans rfl⟩ (fun hHeld=>?_)
              clear hK K
              refine norm_ (a':=?_) ?_ ?_
              rotate_left
              ·show Act.put _ (some 36) _=_
               simp only[Act.put,pu_]
               rfl
              refine one_ (i:=11) (N:=some 40) #[true,true,true,true,true,true,true,true,true,true,true,true,false] rfl rfl (one_of HT_.out (by kernel_rfl)) (by decide) (fun K hK=>?_)
              refine Kd.R_append_rows_step k40 (w0:=w) w.heap.size (by rfl) (.tmp 36) (.tmp 39) 24 40 (.agg #[(.int .i64 0),(.int .i64 0),(.int .i64 0)]) 24 rfl Tryz.underlying24 info40 rfl (by decide) (by omega) v170 y169 y172 _ _ _ (fun k_=>some k_≠(.slice Ao7 x4_1.length co7:Value).ownBlock∧some k_≠(.slice Ao55 y166.length co55:Value).ownBlock∧k_≠gb130) (fun _=>False) rfl rfl ?aO ?aR (fun _ _ h=>h) (fun _ h=>h.elim) ?aF ?aB ?aS ?aL ?_
              (case aR=>exact(a14_ HR175.out))
              (case aB=>exact((a4_ GE130.out)))
              (case aF=>exact(fun k_ hk=>⟨Kd.fresh' (Kd.R_lt ((a0_ HO_4.out))) k_ hk,Kd.fresh' (Kd.R_lt ((a0_ HO168.out))) k_ hk,Kd.freshB (g:=gb130) (o:= .cells #[.int .i64 ((rd_T40 l0 x10_1).f0), .int .i64 ((rd_T40 l0 x10_1).f1), .int .i64 ((rd_T40 l0 x10_1).f2)] 40 (0,0)) ((a5_ BK130.out)) k_ hk⟩))
              (case aO=>exact((a0_ HO171.out)))
              (case aS=>exact(below_size ((a4_ GE130.out))))
              (case aL=>have:=LMc43.out;omega)
              intro v177 w56 ho hb hg hat
              rw[← Ny176.out]at ho
              have n0_:=am_ (Kd.R_after (ok:=(fun k_=>some k_≠(.slice Ao55 y166.length co55:Value).ownBlock∧k_≠gb130)) ((a0_ HO_4.out)) hg hat)
              have n1_:=am_ (blk_grown (g:=gb130) (o:= .cells #[.int .i64 ((rd_T40 l0 x10_1).f0), .int .i64 ((rd_T40 l0 x10_1).f1), .int .i64 ((rd_T40 l0 x10_1).f2)] 40 (0,0)) ((a5_ BK130.out)) hg (Kd.R_away HO171.out (fun _ hk=>hk.2.2)))
              have n2_:=am_ (Kd.R_after (ok:=(fun k_=>some k_≠(.slice Ao7 x4_1.length co7:Value).ownBlock∧k_≠gb130)) ((a0_ HO168.out)) hg hat)
              have n3_:=am_ (hb)
              have n4_:=am_ ((show Kd.C k40 w56 Ao7 y159.length y159 from by rw[Ny159.out];exact Kd.C_take (m:=(x7_2:Int).toNat) ((Kd.R_reads' (Kd.R_after (ok:=(fun k_=>some k_≠(.slice Ao55 y166.length co55:Value).ownBlock∧k_≠gb130)) ((a0_ HO_4.out)) hg hat)).2.2) KL46.out))
              have n5_:=am_ ((show Kd.C k40 w56 A47 y172.length y172 from by rw[Ny172.out,KA47.out];exact Kd.C_drop (m:=(x7_2:Int).toNat) (c:=co7) ((Kd.R_reads' (Kd.R_after (ok:=(fun k_=>some k_≠(.slice Ao55 y166.length co55:Value).ownBlock∧k_≠gb130)) ((a0_ HO_4.out)) hg hat)).2.2) KL47.out ((Kd.R_reads' (Kd.R_after (ok:=(fun k_=>some k_≠(.slice Ao55 y166.length co55:Value).ownBlock∧k_≠gb130)) ((a0_ HO_4.out)) hg hat)).2.1)))
              have n6_:=am_ (ho)
              clear HO_4 BK130 HO168 HB HR162 HR175 HO171
              have HO_4:=n0_
              have BK130:=n1_
              have HO168:=n2_
              have HB:=n3_
              have HR162:=n4_
              have HR175:=n5_
              have HO178:=n6_
              clear n0_ n1_ n2_ n3_ n4_ n5_ n6_ ho hb hg hat
              refine hK.out _ _ ⟨(blk_cell BK130.out 0).trans rfl,(blk_cell BK130.out 1).trans rfl,(blk_cell BK130.out 2).trans rfl⟩ (fun hHeld=>?_)
              clear hK K
              refine norm_ (a':=?_) ?_ ?_
              rotate_left
              ·show Act.put _ (some 40) _=_
               simp only[Act.put,pu_]
               rfl
              refine pure_ (i:=12) (N:=some 4) (v:=?_) (a':=?_) #[true,true,true,true,true,true,true,true,true,true,true,true,true] rfl rfl (any_of HT_.out (by kernel_rfl)) (fun _ _ _ h=>h) (Or.inl ⟨by rfl,?_⟩) ?_ ?_
              rotate_left
              ·intro w'
               go_simp
               with_reducible rfl
              rotate_left
              ·simp only[Act.put,pu_]
               rfl
              refine done_ (done_of HT_.out (by kernel_rfl)) ?_
              try go_wp2
              go_roundg k2
              case measure=>have:=HK1.out;have:=HK2.out;omega
              case rel=>exact⟨(y176),(wrap64 (x10_1+1)),(by first | rfl|(simp;done)|(simp[*];done)),H',⟨by have:=HK1.out;have:=HK2.out;omega⟩,⟨(a25_ HO178.out)⟩,⟨(a4_ GE130.out)⟩⟩
             ·rw[if_neg c43]at H
              exact absurd H (by simp)
            ·rw[if_neg c40]at H
             exact absurd H (by simp)
           ·rw[if_neg c39]at H
            exact absurd H (by simp)
          ·rw[if_neg c38]at H
           exact absurd H (by simp)
         ·rw[if_neg c37]at H
          exact absurd H (by simp)
     ·rw[if_neg c4]at H
      exact absurd H (by simp)
    ·rw[if_neg c3]at H
     exact absurd H (by simp)
   ·rw[if_neg c2]at H
    have c2b0:decide (x10_1<(l0.length:Int))=false:=decide_eq_false c2
    clear c2
    obtain⟨t128,A57,H⟩:=bo_ H
    try dsimp only at H
    by_cases c58:t128=true
    ·subst c58
     replace H:(some (x4_1,true))=some (r1,r2):=by rw[if_pos rfl]at H;exact H
     simp only[Option.some.injEq,Prod.mk.injEq]at H
     obtain⟨rfl,rfl⟩:=H
     obtain⟨Ao59,co59,eo59⟩:=Kd.R_slice HO_4.out
     subst eo59
     go_wp2_with (first|((with_reducible refine gate_callee (f:=58) rfl ?_);refine goesL_ (some 43) rfl rfl Tryz.func58 (by kernel_rfl) rfl #[.slice Ao59 x4_1.length co59] rfl gd_ ?_;(with_reducible refine(spec_shGood.calls k1 _ _ x4_1 true _ ?side1 ?side2 A57.out).mono ?_);(case side1=>exact(a8_ HO_4.out));(case side2=>exact(Kd.R_reads' HO_4.out).2.1);rintro e w60 ⟨rfl,hb⟩;refine⟨_,rfl,?_⟩;replace HO_4:=am_ (Kd.R_below ((a0_ HO_4.out)) hb);replace HB:=am_ (below_step (a1_) hb);(try clear hb);(try clear hb2);(try clear hk);(try clear hi)))
     go_ret2
     exact⟨_,a10_,(a0_ HO_4.out),a1_⟩
    ·replace c58:=Bool.eq_false_iff.mpr c58
     subst c58
     replace H:(some (([]:List (S40)),false))=some (r1,r2):=by rw[if_neg (show ¬(false=true) by decide)]at H;exact H
     simp only[Option.some.injEq,Prod.mk.injEq]at H
     obtain⟨rfl,rfl⟩:=H
     obtain⟨Ao61,co61,eo61⟩:=Kd.R_slice HO_4.out
     subst eo61
     go_wp2_with (first|((with_reducible refine gate_callee (f:=58) rfl ?_);refine goesL_ (some 43) rfl rfl Tryz.func58 (by kernel_rfl) rfl #[.slice Ao61 x4_1.length co61] rfl gd_ ?_;(with_reducible refine(spec_shGood.calls k1 _ _ x4_1 false _ ?side1 ?side2 A57.out).mono ?_);(case side1=>exact(a8_ HO_4.out));(case side2=>exact(Kd.R_reads' HO_4.out).2.1);rintro e w62 ⟨rfl,hb⟩;refine⟨_,rfl,?_⟩;replace HO_4:=am_ (Kd.R_below ((a0_ HO_4.out)) hb);replace HB:=am_ (below_step (a1_) hb);(try clear hb);(try clear hb2);(try clear hk);(try clear hi)))
     go_ret2
     exact⟨_,a10_,a23_,a1_⟩

end Go.Proofs.YtplpjmhmochcfaaGreat.QFnDifferences
