/- Written by a program of this session (the kit's printer, with leaf contracts proved by hand put in): what each Go function computes, and that the call computes it. No condition but those that each theorem names. -/
import Derived.Test.YtbbiihhaljigjaaQFnExactMakeEditionx0
import Derived.Test.YtbbiihhaljigjaaQFnExactMakeEditionx11
namespace Go.Proofs.Ytbbiihhaljigjaa.QFnExactMakeEdition
open Go.RowKit Go.Proofs.YtbbiihhaljigjaaW.PrintWords Go.Proofs.YtbbiihhaljigjaaW.PrintLast Go.Proofs.YtbbiihhaljigjaaW.PrintMore
attribute [local go_sem] max2_int min2_int max_two min_two max_three min_three max_four min_four   -- for this text's walks alone
set_option linter.unusedVariables false
set_option linter.unusedSimpArgs false

/-! ### laws_eqPartS: function 12 -/
def laws_eqPartS.l0:Nat→List (S44)→List (S44)→Int→Option (Bool)
 | 0,_,_,_=>none
 | k+1,x0,x1,x5=>if x5<(x0.length:Int) then(if 0≤x5 then(if x5<(x1.length:Int) then((laws_eqPart.f ((rd_T44 x0 x5).f0) ((rd_T44 x0 x5).f1) ((rd_T44 x0 x5).f2) ((rd_T44 x1 x5).f0) ((rd_T44 x1 x5).f1) ((rd_T44 x1 x5).f2)).bind fun t264=>(if t264=true then(laws_eqPartS.l0 k x0 x1 (wrap64 (x5+1))) else(some false))) else(none)) else(none)) else(some true)
def laws_eqPartS.f (k:Nat) (l0:List (S44)) (l1:List (S44)):Option (Bool):=if(l0.length:Int)=(l1.length:Int) then(laws_eqPartS.l0 k l0 l1 0) else(some false)
theorem laws_eqPartS.mono_l:∀k,(∀y0 y1 y2,LeO (laws_eqPartS.l0 k y0 y1 y2) (laws_eqPartS.l0 (k+1) y0 y1 y2))
 | 0=>fun _ _ _ r h=>by simp[laws_eqPartS.l0]at h
 | k+1=>by
  have ih0:=laws_eqPartS.mono_l k
  ·intro y0 y1 y2
   unfold laws_eqPartS.l0
   repeat' first
   | (with_reducible exact ih0 _ _ _)
   | (with_reducible exact LeO.refl _)
   | (with_reducible exact LeO.none _)
   | (with_reducible refine LeO.ite ?_ ?_)
   | (with_reducible refine LeO.bind ?_ (fun _=>?_))
   | exact ih0 _ _ _
   | exact LeO.none _
   | refine LeO.ite ?_ ?_
   | refine LeO.bind ?_ (fun _=>?_)
theorem laws_eqPartS.mono:∀a0 a1 k,LeO (laws_eqPartS.f k a0 a1) (laws_eqPartS.f (k+1) a0 a1):=by
 intro a0 a1 k
 have ih0:=laws_eqPartS.mono_l k
 unfold laws_eqPartS.f
 repeat' first
  | (with_reducible exact ih0 _ _ _)
  | (with_reducible exact LeO.refl _)
  | (with_reducible exact LeO.none _)
  | (with_reducible refine LeO.ite ?_ ?_)
  | (with_reducible refine LeO.bind ?_ (fun _=>?_))
  | exact ih0 _ _ _
  | exact LeO.none _
  | refine LeO.ite ?_ ?_
  | refine LeO.bind ?_ (fun _=>?_)
def laws_eqPartS.T6:Bool×List (List Nat×List Nat):=(true, [([], []),([], []),([0,1], [0,1]),([2], [2]),([], []),([], []),([4,5], [4,5]),([6], [6]),([3,7], [3,7]),([8], [8])])
def laws_eqPartS.B6:List Nat:=[0,0,3,7,0,0,48,112,255,511]
theorem laws_eqPartS.tab6:rtab .any (opsOf Try.f12 6)=laws_eqPartS.T6:=by kernel_rfl
theorem laws_eqPartS.bits6:waitsOk laws_eqPartS.T6.2 laws_eqPartS.B6=true:=by kernel_rfl
set_option maxHeartbeats 8000000 in
set_option maxRecDepth 100000 in
theorem laws_eqPartS.calls (k:Nat) (A0:Option Addr) (c0:Nat) (l0:List (S44)) (A1:Option Addr) (c1:Nat) (l1:List (S44)) (r:Bool) (w:World) (hr0:Kd.C k44 w A0 l0.length l0) (hc0:l0.length≤c0) (hr1:Kd.C k44 w A1 l1.length l1) (hc1:l1.length≤c1) (h:laws_eqPartS.f k l0 l1=some r) :
 Calls Try.prog 12 #[.slice A0 l0.length c0, .slice A1 l1.length c1] w fun e w'=>e = .returned (.bool r)∧Below w.heap.size w w':=by
 have hu44:=Try.underlying44
 have HR0:=am_ hr0
 have HC0:=am_ hc0
 clear hr0 hc0
 have HR1:=am_ hr1
 have HC1:=am_ hc1
 clear hr1 hc1
 have HB:=am_ (Below.refl w.heap.size w)
 have H:(if(l0.length:Int)=(l1.length:Int) then(laws_eqPartS.l0 k l0 l1 0) else(some false))=some r:=h
 clear h
 by_cases c3:(l0.length:Int)=(l1.length:Int)
 ·rw[if_pos c3]at H
  have c3b0:((l0.length:Int) == (l1.length:Int))=true:=beq_iff_eq.mpr c3
  have c3b1:((l0.length:Int) != (l1.length:Int))=false:=bne_eq_false_iff_eq.mpr c3
  have c3b2:(l0.length == l1.length)=true:=a38_
  clear c3
  have H':=am_ H
  clear H
  go_enter Try.func12,Try.ntmps12
  go_wp2
  go_loopg [5] k (fun kq v5 w'=>∃(x5_1:Int),v5 = .int .i64 x5_1∧Aside0 (laws_eqPartS.l0 kq l0 l1 x5_1=some r)∧Aside0 (kq≤k)∧Aside0 (Below w.heap.size w w'))
  case atStart=>exact⟨(0),(a6_),H',⟨Nat.le_refl _⟩,⟨a0_⟩⟩
  case round=>
   clear H'
   try clear c1
   try clear p2
   try clear c3
   try clear c3b0
   try clear c3b1
   try clear c3b2
   obtain⟨x5_1,rfl,HA,HK1,HB⟩:=hrel
   cases gk with
   | zero=>exact absurd HA.out (by simp[laws_eqPartS.l0])
   | succ k1=>
    have H:=HA.out
    clear HA
    simp only[laws_eqPartS.l0]at H
    by_cases c4:x5_1<(l0.length:Int)
    ·rw[if_pos c4]at H
     have c4b0:decide (x5_1<(l0.length:Int))=true:=decide_eq_true c4
     clear c4
     by_cases c5:0≤x5_1
     ·rw[if_pos c5]at H
      have c5b0:decide (0≤x5_1)=true:=decide_eq_true c5
      clear c5
      by_cases c6:x5_1<(l1.length:Int)
      ·rw[if_pos c6]at H
       have c6b0:decide (x5_1<(l1.length:Int))=true:=decide_eq_true c6
       clear c6
       replace H:=Option.bind_eq_some_iff.mp H
       obtain⟨t264,A70,H⟩:=H
       replace H:(if t264=true then(laws_eqPartS.l0 k1 l0 l1 (wrap64 (x5_1+1))) else(some false))=some r:=H
       have A7:=am_ A70
       clear A70
       by_cases c8:t264=true
       ·subst c8
        replace H:(laws_eqPartS.l0 k1 l0 l1 (wrap64 (x5_1+1)))=some r:=by rw[if_pos rfl]at H;exact H
        have H':=am_ H
        clear H
        try go_wp2
        replace HB:=am_ (below_drew1 HB.out)
        have p262:0≤(x5_1:Int):=of_decide_eq_true (a4_)
        have q262:x5_1<(l0.length:Int):=of_decide_eq_true (a4_)
        obtain⟨ad262,e262,hx262_0,hx262_1,hx262_2⟩:=at_T44 HR0.out x5_1 p262 q262
        have hw262_2:=hx262_2
        have hw262_1:=hx262_1
        have hw262_0:=hx262_0
        cases e262
        replace hx262_0:=(HB.out.cell (World.block_lt_of_cell? w _ hx262_0)).trans hx262_0
        replace hx262_1:=(HB.out.cell (World.block_lt_of_cell? w _ hx262_1)).trans hx262_1
        replace hx262_2:=(HB.out.cell (World.block_lt_of_cell? w _ hx262_2)).trans hx262_2
        replace p262:=eq_true p262
        replace q262:=eq_true q262
        have p263:0≤(x5_1:Int):=of_decide_eq_true (a4_)
        have q263:x5_1<(l1.length:Int):=of_decide_eq_true (a4_)
        obtain⟨ad263,e263,hx263_0,hx263_1,hx263_2⟩:=at_T44 HR1.out x5_1 p263 q263
        have hw263_2:=hx263_2
        have hw263_1:=hx263_1
        have hw263_0:=hx263_0
        cases e263
        replace hx263_0:=(HB.out.cell (World.block_lt_of_cell? w _ hx263_0)).trans hx263_0
        replace hx263_1:=(HB.out.cell (World.block_lt_of_cell? w _ hx263_1)).trans hx263_1
        replace hx263_2:=(HB.out.cell (World.block_lt_of_cell? w _ hx263_2)).trans hx263_2
        replace p263:=eq_true p263
        replace q263:=eq_true q263
        refine start_ (n:=10) (S:=fun w'=>w'.cell? (ad262.add ((x5_1).toNat*3))=some (.int .i64 ((rd_T44 l0 x5_1).f0))∧w'.cell? ⟨(ad262.add ((x5_1).toNat*3)).block,(ad262.add ((x5_1).toNat*3)).off+1,none⟩=some (.int .i64 ((rd_T44 l0 x5_1).f1))∧w'.cell? ⟨(ad262.add ((x5_1).toNat*3)).block,(ad262.add ((x5_1).toNat*3)).off+2,none⟩=some (.int .i64 ((rd_T44 l0 x5_1).f2))∧w'.cell? (ad263.add ((x5_1).toNat*3))=some (.int .i64 ((rd_T44 l1 x5_1).f0))∧w'.cell? ⟨(ad263.add ((x5_1).toNat*3)).block,(ad263.add ((x5_1).toNat*3)).off+1,none⟩=some (.int .i64 ((rd_T44 l1 x5_1).f1))∧w'.cell? ⟨(ad263.add ((x5_1).toNat*3)).block,(ad263.add ((x5_1).toNat*3)).off+2,none⟩=some (.int .i64 ((rd_T44 l1 x5_1).f2))) (ds:=[]) #[false,false,false,false,false,false,false,false,false,false] (by kernel_rfl) rfl rfl ⟨((HB.out.cell (World.block_lt_of_cell? w _ hw262_0)).trans hw262_0),((HB.out.cell (World.block_lt_of_cell? w _ hw262_1)).trans hw262_1),((HB.out.cell (World.block_lt_of_cell? w _ hw262_2)).trans hw262_2),((HB.out.cell (World.block_lt_of_cell? w _ hw263_0)).trans hw263_0),((HB.out.cell (World.block_lt_of_cell? w _ hw263_1)).trans hw263_1),((HB.out.cell (World.block_lt_of_cell? w _ hw263_2)).trans hw263_2)⟩ (fun hHeld=>?_);refine with_tabW laws_eqPartS.tab6 laws_eqPartS.bits6 (fun HT_ HW_=>?_)
        generalize wr.drew=w9 at HB hx262_0 hx262_1 hx262_2 hx263_0 hx263_1 hx263_2 hHeld ⊢
        refine pure_ (i:=0) (N:=some 17) (v:=?_) (a':=?_) #[true,false,false,false,false,false,false,false,false,false] rfl rfl (any_of HT_.out (by kernel_rfl)) (fun _ _ _ h=>h) (Or.inl ⟨by rfl,?_⟩) ?_ ?_
        rotate_left
        ·intro w'
         go_simp
         with_reducible rfl
        rotate_left
        ·simp only[Act.put,pu_]
         rfl
        refine pure_ (i:=1) (N:=some 18) (v:=?_) (a':=?_) #[true,true,false,false,false,false,false,false,false,false] rfl rfl (any_of HT_.out (by kernel_rfl)) (fun _ _ _ h=>h) (Or.inl ⟨by rfl,?_⟩) ?_ ?_
        rotate_left
        ·intro w'
         go_simp
         with_reducible rfl
        rotate_left
        ·simp only[Act.put,pu_]
         rfl
        refine pure_ (i:=2) (N:=some 19) (v:=?_) (a':=?_) #[true,true,true,false,false,false,false,false,false,false] rfl rfl (any_of HT_.out (by kernel_rfl)) (fun _ _ _ h=>h) (Or.inl ⟨by rfl,?_⟩) ?_ ?_
        rotate_left
        ·intro w'
         go_simp
         with_reducible rfl
        rotate_left
        ·simp only[Act.put,pu_]
         rfl
        refine pure_ (i:=4) (N:=some 21) (v:=?_) (a':=?_) #[true,true,true,false,true,false,false,false,false,false] rfl rfl (any_of HT_.out (by kernel_rfl)) (fun _ _ _ h=>h) (Or.inl ⟨by rfl,?_⟩) ?_ ?_
        rotate_left
        ·intro w'
         go_simp
         with_reducible rfl
        rotate_left
        ·simp only[Act.put,pu_]
         rfl
        refine pure_ (i:=5) (N:=some 22) (v:=?_) (a':=?_) #[true,true,true,false,true,true,false,false,false,false] rfl rfl (any_of HT_.out (by kernel_rfl)) (fun _ _ _ h=>h) (Or.inl ⟨by rfl,?_⟩) ?_ ?_
        rotate_left
        ·intro w'
         go_simp
         with_reducible rfl
        rotate_left
        ·simp only[Act.put,pu_]
         rfl
        refine pure_ (i:=6) (N:=some 23) (v:=?_) (a':=?_) #[true,true,true,false,true,true,true,false,false,false] rfl rfl (any_of HT_.out (by kernel_rfl)) (fun _ _ _ h=>h) (Or.inl ⟨by rfl,?_⟩) ?_ ?_
        rotate_left
        ·intro w'
         go_simp
         with_reducible rfl
        rotate_left
        ·simp only[Act.put,pu_]
         rfl
        refine take_ (i:=3) (N:=some 20) (v:=?_) (a':=?_) #[true,true,true,true,true,true,true,false,false,false] rfl rfl (take_ofW HT_.out HW_.out (by kernel_rfl)) (fun _ _ _ h=>h) (Or.inl ⟨by rfl,?_⟩) hHeld ?_ ?_
        rotate_left
        ·rintro w' ⟨s0,s1,s2,s3,s4,s5⟩
         go_simp
         with_reducible rfl
        rotate_left
        ·simp only[Act.put,pu_]
         rfl
        refine take_ (i:=7) (N:=some 24) (v:=?_) (a':=?_) #[true,true,true,true,true,true,true,true,false,false] rfl rfl (take_ofW HT_.out HW_.out (by kernel_rfl)) (fun _ _ _ h=>h) (Or.inl ⟨by rfl,?_⟩) hHeld ?_ ?_
        rotate_left
        ·rintro w' ⟨s0,s1,s2,s3,s4,s5⟩
         go_simp
         with_reducible rfl
        rotate_left
        ·simp only[Act.put,pu_]
         rfl
        refine one_ (i:=8) (N:=some 25) #[true,true,true,true,true,true,true,true,true,false] rfl rfl (one_of HT_.out (by kernel_rfl)) (by decide) (fun K hK=>?_)
        refine goes_ Try.func28 (by kernel_rfl) rfl #[.agg #[.int .i64 ((rd_T44 l0 x5_1).f0), .int .i64 ((rd_T44 l0 x5_1).f1), .int .i64 ((rd_T44 l0 x5_1).f2)], .agg #[.int .i64 ((rd_T44 l1 x5_1).f0), .int .i64 ((rd_T44 l1 x5_1).f1), .int .i64 ((rd_T44 l1 x5_1).f2)]] (by rfl) rfl rfl (by(try simp only[List.map_toArray,List.map_cons,List.map_nil]);first | done | rfl | (simp only[List.length_drop,List.length_take];rfl)) ?_
        with_reducible refine(laws_eqPart.calls ((rd_T44 l0 x5_1).f0) ((rd_T44 l0 x5_1).f1) ((rd_T44 l0 x5_1).f2) ((rd_T44 l1 x5_1).f0) ((rd_T44 l1 x5_1).f1) ((rd_T44 l1 x5_1).f2) true _ A7.out).mono ?_
        rintro e w10 ⟨rfl,hb⟩
        refine⟨_,rfl,?_⟩
        replace HB:=am_ (below_step (a0_) hb)
        (try clear hb)
        (try clear hb2)
        (try clear hk)
        (try clear hi)
        refine hK.out _ _ ⟨((HB.out.cell (World.block_lt_of_cell? w _ hw262_0)).trans hw262_0),((HB.out.cell (World.block_lt_of_cell? w _ hw262_1)).trans hw262_1),((HB.out.cell (World.block_lt_of_cell? w _ hw262_2)).trans hw262_2),((HB.out.cell (World.block_lt_of_cell? w _ hw263_0)).trans hw263_0),((HB.out.cell (World.block_lt_of_cell? w _ hw263_1)).trans hw263_1),((HB.out.cell (World.block_lt_of_cell? w _ hw263_2)).trans hw263_2)⟩ (fun hHeld=>?_)
        clear hK K
        refine norm_ (a':=?_) ?_ ?_
        rotate_left
        ·show Act.put _ (some 25) _=_
         simp only[Act.put,pu_]
         rfl
        refine pure_ (i:=9) (N:=some 26) (v:=?_) (a':=?_) #[true,true,true,true,true,true,true,true,true,true] rfl rfl (any_of HT_.out (by kernel_rfl)) (fun _ _ _ h=>h) (Or.inl ⟨by rfl,?_⟩) ?_ ?_
        rotate_left
        ·intro w'
         go_simp
         with_reducible rfl
        rotate_left
        ·simp only[Act.put,pu_]
         rfl
        refine done_ (done_of HT_.out (by kernel_rfl)) ?_
        try go_wp2
        go_roundg k1
        case measure=>have:=HK1.out;omega
        case rel=>exact⟨(wrap64 (x5_1+1)),(a6_),H',⟨by have:=HK1.out;omega⟩,⟨a0_⟩⟩
       ·replace c8:=Bool.eq_false_iff.mpr c8
        subst c8
        replace H:(some false)=some r:=by rw[if_neg (show ¬(false=true) by decide)]at H;exact H
        obtain rfl:=Option.some.inj H
        try go_wp2
        replace HB:=am_ (below_drew1 HB.out)
        have p262:0≤(x5_1:Int):=of_decide_eq_true (a4_)
        have q262:x5_1<(l0.length:Int):=of_decide_eq_true (a4_)
        obtain⟨ad262,e262,hx262_0,hx262_1,hx262_2⟩:=at_T44 HR0.out x5_1 p262 q262
        have hw262_2:=hx262_2
        have hw262_1:=hx262_1
        have hw262_0:=hx262_0
        cases e262
        replace hx262_0:=(HB.out.cell (World.block_lt_of_cell? w _ hx262_0)).trans hx262_0
        replace hx262_1:=(HB.out.cell (World.block_lt_of_cell? w _ hx262_1)).trans hx262_1
        replace hx262_2:=(HB.out.cell (World.block_lt_of_cell? w _ hx262_2)).trans hx262_2
        replace p262:=eq_true p262
        replace q262:=eq_true q262
        have p263:0≤(x5_1:Int):=of_decide_eq_true (a4_)
        have q263:x5_1<(l1.length:Int):=of_decide_eq_true (a4_)
        obtain⟨ad263,e263,hx263_0,hx263_1,hx263_2⟩:=at_T44 HR1.out x5_1 p263 q263
        have hw263_2:=hx263_2
        have hw263_1:=hx263_1
        have hw263_0:=hx263_0
        cases e263
        replace hx263_0:=(HB.out.cell (World.block_lt_of_cell? w _ hx263_0)).trans hx263_0
        replace hx263_1:=(HB.out.cell (World.block_lt_of_cell? w _ hx263_1)).trans hx263_1
        replace hx263_2:=(HB.out.cell (World.block_lt_of_cell? w _ hx263_2)).trans hx263_2
        replace p263:=eq_true p263
        replace q263:=eq_true q263
        refine start_ (n:=10) (S:=fun w'=>w'.cell? (ad262.add ((x5_1).toNat*3))=some (.int .i64 ((rd_T44 l0 x5_1).f0))∧w'.cell? ⟨(ad262.add ((x5_1).toNat*3)).block,(ad262.add ((x5_1).toNat*3)).off+1,none⟩=some (.int .i64 ((rd_T44 l0 x5_1).f1))∧w'.cell? ⟨(ad262.add ((x5_1).toNat*3)).block,(ad262.add ((x5_1).toNat*3)).off+2,none⟩=some (.int .i64 ((rd_T44 l0 x5_1).f2))∧w'.cell? (ad263.add ((x5_1).toNat*3))=some (.int .i64 ((rd_T44 l1 x5_1).f0))∧w'.cell? ⟨(ad263.add ((x5_1).toNat*3)).block,(ad263.add ((x5_1).toNat*3)).off+1,none⟩=some (.int .i64 ((rd_T44 l1 x5_1).f1))∧w'.cell? ⟨(ad263.add ((x5_1).toNat*3)).block,(ad263.add ((x5_1).toNat*3)).off+2,none⟩=some (.int .i64 ((rd_T44 l1 x5_1).f2))) (ds:=[]) #[false,false,false,false,false,false,false,false,false,false] (by kernel_rfl) rfl rfl ⟨((HB.out.cell (World.block_lt_of_cell? w _ hw262_0)).trans hw262_0),((HB.out.cell (World.block_lt_of_cell? w _ hw262_1)).trans hw262_1),((HB.out.cell (World.block_lt_of_cell? w _ hw262_2)).trans hw262_2),((HB.out.cell (World.block_lt_of_cell? w _ hw263_0)).trans hw263_0),((HB.out.cell (World.block_lt_of_cell? w _ hw263_1)).trans hw263_1),((HB.out.cell (World.block_lt_of_cell? w _ hw263_2)).trans hw263_2)⟩ (fun hHeld=>?_);refine with_tabW laws_eqPartS.tab6 laws_eqPartS.bits6 (fun HT_ HW_=>?_)
        generalize wr.drew=w11 at HB hx262_0 hx262_1 hx262_2 hx263_0 hx263_1 hx263_2 hHeld ⊢
        refine pure_ (i:=0) (N:=some 17) (v:=?_) (a':=?_) #[true,false,false,false,false,false,false,false,false,false] rfl rfl (any_of HT_.out (by kernel_rfl)) (fun _ _ _ h=>h) (Or.inl ⟨by rfl,?_⟩) ?_ ?_
        rotate_left
        ·intro w'
         go_simp
         with_reducible rfl
        rotate_left
        ·simp only[Act.put,pu_]
         rfl
        refine pure_ (i:=1) (N:=some 18) (v:=?_) (a':=?_) #[true,true,false,false,false,false,false,false,false,false] rfl rfl (any_of HT_.out (by kernel_rfl)) (fun _ _ _ h=>h) (Or.inl ⟨by rfl,?_⟩) ?_ ?_
        rotate_left
        ·intro w'
         go_simp
         with_reducible rfl
        rotate_left
        ·simp only[Act.put,pu_]
         rfl
        refine pure_ (i:=2) (N:=some 19) (v:=?_) (a':=?_) #[true,true,true,false,false,false,false,false,false,false] rfl rfl (any_of HT_.out (by kernel_rfl)) (fun _ _ _ h=>h) (Or.inl ⟨by rfl,?_⟩) ?_ ?_
        rotate_left
        ·intro w'
         go_simp
         with_reducible rfl
        rotate_left
        ·simp only[Act.put,pu_]
         rfl
        refine pure_ (i:=4) (N:=some 21) (v:=?_) (a':=?_) #[true,true,true,false,true,false,false,false,false,false] rfl rfl (any_of HT_.out (by kernel_rfl)) (fun _ _ _ h=>h) (Or.inl ⟨by rfl,?_⟩) ?_ ?_
        rotate_left
        ·intro w'
         go_simp
         with_reducible rfl
        rotate_left
        ·simp only[Act.put,pu_]
         rfl
        refine pure_ (i:=5) (N:=some 22) (v:=?_) (a':=?_) #[true,true,true,false,true,true,false,false,false,false] rfl rfl (any_of HT_.out (by kernel_rfl)) (fun _ _ _ h=>h) (Or.inl ⟨by rfl,?_⟩) ?_ ?_
        rotate_left
        ·intro w'
         go_simp
         with_reducible rfl
        rotate_left
        ·simp only[Act.put,pu_]
         rfl
        refine pure_ (i:=6) (N:=some 23) (v:=?_) (a':=?_) #[true,true,true,false,true,true,true,false,false,false] rfl rfl (any_of HT_.out (by kernel_rfl)) (fun _ _ _ h=>h) (Or.inl ⟨by rfl,?_⟩) ?_ ?_
        rotate_left
        ·intro w'
         go_simp
         with_reducible rfl
        rotate_left
        ·simp only[Act.put,pu_]
         rfl
        refine take_ (i:=3) (N:=some 20) (v:=?_) (a':=?_) #[true,true,true,true,true,true,true,false,false,false] rfl rfl (take_ofW HT_.out HW_.out (by kernel_rfl)) (fun _ _ _ h=>h) (Or.inl ⟨by rfl,?_⟩) hHeld ?_ ?_
        rotate_left
        ·rintro w' ⟨s0,s1,s2,s3,s4,s5⟩
         go_simp
         with_reducible rfl
        rotate_left
        ·simp only[Act.put,pu_]
         rfl
        refine take_ (i:=7) (N:=some 24) (v:=?_) (a':=?_) #[true,true,true,true,true,true,true,true,false,false] rfl rfl (take_ofW HT_.out HW_.out (by kernel_rfl)) (fun _ _ _ h=>h) (Or.inl ⟨by rfl,?_⟩) hHeld ?_ ?_
        rotate_left
        ·rintro w' ⟨s0,s1,s2,s3,s4,s5⟩
         go_simp
         with_reducible rfl
        rotate_left
        ·simp only[Act.put,pu_]
         rfl
        refine one_ (i:=8) (N:=some 25) #[true,true,true,true,true,true,true,true,true,false] rfl rfl (one_of HT_.out (by kernel_rfl)) (by decide) (fun K hK=>?_)
        refine goes_ Try.func28 (by kernel_rfl) rfl #[.agg #[.int .i64 ((rd_T44 l0 x5_1).f0), .int .i64 ((rd_T44 l0 x5_1).f1), .int .i64 ((rd_T44 l0 x5_1).f2)], .agg #[.int .i64 ((rd_T44 l1 x5_1).f0), .int .i64 ((rd_T44 l1 x5_1).f1), .int .i64 ((rd_T44 l1 x5_1).f2)]] (by rfl) rfl rfl (by(try simp only[List.map_toArray,List.map_cons,List.map_nil]);first | done | rfl | (simp only[List.length_drop,List.length_take];rfl)) ?_
        with_reducible refine(laws_eqPart.calls ((rd_T44 l0 x5_1).f0) ((rd_T44 l0 x5_1).f1) ((rd_T44 l0 x5_1).f2) ((rd_T44 l1 x5_1).f0) ((rd_T44 l1 x5_1).f1) ((rd_T44 l1 x5_1).f2) false _ A7.out).mono ?_
        rintro e w12 ⟨rfl,hb⟩
        refine⟨_,rfl,?_⟩
        replace HB:=am_ (below_step (a0_) hb)
        (try clear hb)
        (try clear hb2)
        (try clear hk)
        (try clear hi)
        refine hK.out _ _ ⟨((HB.out.cell (World.block_lt_of_cell? w _ hw262_0)).trans hw262_0),((HB.out.cell (World.block_lt_of_cell? w _ hw262_1)).trans hw262_1),((HB.out.cell (World.block_lt_of_cell? w _ hw262_2)).trans hw262_2),((HB.out.cell (World.block_lt_of_cell? w _ hw263_0)).trans hw263_0),((HB.out.cell (World.block_lt_of_cell? w _ hw263_1)).trans hw263_1),((HB.out.cell (World.block_lt_of_cell? w _ hw263_2)).trans hw263_2)⟩ (fun hHeld=>?_)
        clear hK K
        refine norm_ (a':=?_) ?_ ?_
        rotate_left
        ·show Act.put _ (some 25) _=_
         simp only[Act.put,pu_]
         rfl
        refine pure_ (i:=9) (N:=some 26) (v:=?_) (a':=?_) #[true,true,true,true,true,true,true,true,true,true] rfl rfl (any_of HT_.out (by kernel_rfl)) (fun _ _ _ h=>h) (Or.inl ⟨by rfl,?_⟩) ?_ ?_
        rotate_left
        ·intro w'
         go_simp
         with_reducible rfl
        rotate_left
        ·simp only[Act.put,pu_]
         rfl
        refine done_ (done_of HT_.out (by kernel_rfl)) ?_
        try go_wp2
        go_ret
        exact⟨a5_,a0_⟩
      ·rw[if_neg c6]at H
       exact absurd H (by simp)
     ·rw[if_neg c5]at H
      exact absurd H (by simp)
    ·rw[if_neg c4]at H
     have c4b0:decide (x5_1<(l0.length:Int))=false:=decide_eq_false c4
     clear c4
     obtain rfl:=Option.some.inj H
     go_wp2
     go_ret
     exact⟨a5_,a0_⟩
 ·rw[if_neg c3]at H
  have c3b0:((l0.length:Int) == (l1.length:Int))=false:=beq_eq_false_iff_ne.mpr c3
  have c3b1:((l0.length:Int) != (l1.length:Int))=true:=bne_iff_ne.mpr c3
  have c3b2:(l0.length == l1.length)=false:=a38_
  obtain rfl:=Option.some.inj H
  go_enter Try.func12,Try.ntmps12
  go_wp2
  go_ret
  exact⟨a5_,a0_⟩

/-! ### laws_markHoleS: function 15 -/
def laws_markHoleS.l0:Nat→List (S47)→Int→Int→Option (Int×(List (S47)))
 | 0,_,_,_=>none
 | k+1,x0,x1,x5=>if x5<(x0.length:Int) then(if 0≤x5 then((some (x0.set (x5:Int).toNat (⟨x1,(rd_T47 x0 x5).f1,(rd_T47 x0 x5).f2⟩:S47):List (S47))).bind fun y265=>((some (y265.set (x5:Int).toNat (⟨(rd_T47 y265 x5).f0,wrap64 (x1+1),(rd_T47 y265 x5).f2⟩:S47):List (S47))).bind fun y266=>(laws_markHoleS.l0 k (y266.set (x5:Int).toNat (⟨(rd_T47 y266 x5).f0,(rd_T47 y266 x5).f1,wrap64 ((wrap64 (x1+1))+1)⟩:S47)) (wrap64 ((wrap64 ((wrap64 (x1+1))+1))+1)) (wrap64 (x5+1))))) else(none)) else(some (x1,x0))
def laws_markHoleS.f (k:Nat) (l0:List (S47)) (a1:Int):Option (Int×(List (S47))):=laws_markHoleS.l0 k l0 a1 0
theorem laws_markHoleS.mono_l:∀k,(∀y0 y1 y2,LeO (laws_markHoleS.l0 k y0 y1 y2) (laws_markHoleS.l0 (k+1) y0 y1 y2))
 | 0=>fun _ _ _ r h=>by simp[laws_markHoleS.l0]at h
 | k+1=>by
  have ih0:=laws_markHoleS.mono_l k
  ·intro y0 y1 y2
   unfold laws_markHoleS.l0
   repeat' first
   | (with_reducible exact ih0 _ _ _)
   | (with_reducible exact LeO.refl _)
   | (with_reducible exact LeO.none _)
   | (with_reducible refine LeO.ite ?_ ?_)
   | (with_reducible refine LeO.bind ?_ (fun _=>?_))
   | exact ih0 _ _ _
   | exact LeO.none _
   | refine LeO.ite ?_ ?_
   | refine LeO.bind ?_ (fun _=>?_)
theorem laws_markHoleS.mono:∀a0 a1 k,LeO (laws_markHoleS.f k a0 a1) (laws_markHoleS.f (k+1) a0 a1):=by
 intro a0 a1 k
 have ih0:=laws_markHoleS.mono_l k
 unfold laws_markHoleS.f
 repeat' first
  | (with_reducible exact ih0 _ _ _)
  | (with_reducible exact LeO.refl _)
  | (with_reducible exact LeO.none _)
  | (with_reducible refine LeO.ite ?_ ?_)
  | (with_reducible refine LeO.bind ?_ (fun _=>?_))
  | exact ih0 _ _ _
  | exact LeO.none _
  | refine LeO.ite ?_ ?_
  | refine LeO.bind ?_ (fun _=>?_)
set_option maxHeartbeats 8000000 in
set_option maxRecDepth 100000 in
theorem laws_markHoleS.calls (k:Nat) (P0_:Nat→Prop) (u9000_:Value) (l0:List (S47)) (a1:Int) (r1:Int) (r2:List (S47)) (w0 w:World) (hB:Below w0.heap.size w0 w) (ho0:Kd.R k47 47 w w0.heap.size P0_ u9000_ l0) (h:laws_markHoleS.f k l0 a1=some (r1,r2)) :
 Calls Try.prog 15 #[u9000_, .int .i64 a1] w fun e w'=>e = .returned (.int .i64 r1)∧Kd.R k47 47 w' w0.heap.size (fun k_=>(P0_ k_∨w.heap.size≤k_)) u9000_ r2∧Below w0.heap.size w0 w'∧Kept w w' (fun k_=>P0_ k_):=by
 have HO0:=am_ (show Kd.R k47 47 w w0.heap.size (fun k_=>(P0_ k_∨w.heap.size≤k_)) u9000_ l0 from Kd.R_mono ho0 (fun k_ hk=>(.inl hk)))
 have HK:=am_ (Kept.refl w (fun k_=>P0_ k_))
 have HW0:=am_ hB.size
 have HB:=am_ hB
 clear hB
 have H:(laws_markHoleS.l0 k l0 a1 0)=some (r1,r2):=h
 clear h
 have H':=am_ H
 clear H
 go_enter Try.func15,Try.ntmps15
 go_wp2
 go_loopg [1,5] k (fun kq v1 v5 w'=>∃(x0_1:List (S47)) (x1_1:Int) (x5_1:Int),v1 = .int .i64 x1_1∧v5 = .int .i64 x5_1∧Aside0 (laws_markHoleS.l0 kq x0_1 x1_1 x5_1=some (r1,r2))∧Aside0 (kq≤k)∧Aside0 (Kd.R k47 47 w' w0.heap.size (fun k_=>(P0_ k_∨w.heap.size≤k_)) u9000_ x0_1)∧Aside0 (Kept w w' (fun k_=>P0_ k_))∧Aside0 (Below w0.heap.size w0 w'))
 case atStart=>exact⟨(l0),(a1),(0),(a6_),(a6_),H',⟨Nat.le_refl _⟩,⟨(a2_ HO0.out)⟩,⟨a20_⟩,⟨a0_⟩⟩
 case round=>
  clear H'
  try clear c1
  try clear p2
  obtain⟨x0_1,x1_1,x5_1,rfl,rfl,HA,HK1,HO_0,HK,HB⟩:=hrel
  cases gk with
  | zero=>exact absurd HA.out (by simp[laws_markHoleS.l0])
  | succ k1=>
   have H:=HA.out
   clear HA
   simp only[laws_markHoleS.l0]at H
   by_cases c3:x5_1<(x0_1.length:Int)
   ·rw[if_pos c3]at H
    have c3b0:decide (x5_1<(x0_1.length:Int))=true:=decide_eq_true c3
    clear c3
    by_cases c4:0≤x5_1
    ·rw[if_pos c4]at H
     have c4b0:decide (0≤x5_1)=true:=decide_eq_true c4
     clear c4
     obtain⟨y265,hy265⟩:∃y_:List (S47),y_=(x0_1.set (x5_1:Int).toNat (⟨x1_1,(rd_T47 x0_1 x5_1).f1,(rd_T47 x0_1 x5_1).f2⟩:S47)):=⟨_,rfl⟩
     replace H:((some (y265.set (x5_1:Int).toNat (⟨(rd_T47 y265 x5_1).f0,wrap64 (x1_1+1),(rd_T47 y265 x5_1).f2⟩:S47):List (S47))).bind fun y266=>(laws_markHoleS.l0 k1 (y266.set (x5_1:Int).toNat (⟨(rd_T47 y266 x5_1).f0,(rd_T47 y266 x5_1).f1,wrap64 ((wrap64 (x1_1+1))+1)⟩:S47)) (wrap64 ((wrap64 ((wrap64 (x1_1+1))+1))+1)) (wrap64 (x5_1+1))))=some (r1,r2):=by first | (rw[hy265];with_reducible exact H) | (have H2_:=(Option.bind_some _ _).symm.trans H;rw[hy265];with_reducible exact H2_) | (have H2_:=(Option.bind_some _ _).symm.trans H;with_reducible exact H2_) | with_reducible exact H | (rw[hy265];exact H) | exact H
     have Ny265:=am_ hy265
     clear hy265
     obtain⟨y266,hy266⟩:∃y_:List (S47),y_=(y265.set (x5_1:Int).toNat (⟨(rd_T47 y265 x5_1).f0,wrap64 (x1_1+1),(rd_T47 y265 x5_1).f2⟩:S47)):=⟨_,rfl⟩
     replace H:(laws_markHoleS.l0 k1 (y266.set (x5_1:Int).toNat (⟨(rd_T47 y266 x5_1).f0,(rd_T47 y266 x5_1).f1,wrap64 ((wrap64 (x1_1+1))+1)⟩:S47)) (wrap64 ((wrap64 ((wrap64 (x1_1+1))+1))+1)) (wrap64 (x5_1+1)))=some (r1,r2):=a35_
     have Ny266:=am_ hy266
     clear hy266
     obtain⟨y267,hy267⟩:∃y_:List (S47),y_=(y266.set (x5_1:Int).toNat (⟨(rd_T47 y266 x5_1).f0,(rd_T47 y266 x5_1).f1,wrap64 ((wrap64 (x1_1+1))+1)⟩:S47)):=⟨_,rfl⟩
     replace H:(laws_markHoleS.l0 k1 y267 (wrap64 ((wrap64 ((wrap64 (x1_1+1))+1))+1)) (wrap64 (x5_1+1)))=some (r1,r2):=by first | (rw[hy267];with_reducible exact H) | (have H2_:=(Option.bind_some _ _).symm.trans H;rw[hy267];with_reducible exact H2_) | (have H2_:=(Option.bind_some _ _).symm.trans H;with_reducible exact H2_) | with_reducible exact H | (rw[hy267];exact H) | exact H
     have Ny267:=am_ hy267
     clear hy267
     have H':=am_ H
     clear H
     obtain⟨Ao8,co8,eo8⟩:=Kd.R_slice HO_0.out
     subst eo8
     have p5:0≤(x5_1:Int):=of_decide_eq_true (a4_)
     have q5:(x5_1:Int)<((x0_1.length:Int):Int):=of_decide_eq_true (a4_)
     obtain⟨go5,co5,eo5,gb5,gl5,cl5,HG5⟩:=Kd.R_form HO_0.out (by omega)
     (first | cases eo5 | (injection eo5 with ea_ en_ ec_;(first | subst ea_ | (injection ea_ with ea_;subst ea_));subst ec_;clear en_))
     have GB5:=am_ gb5
     have GG5:=am_ HG5
     clear gb5 gl5 HG5
     have HMgo5:=am_ (show(P0_ go5∨w.heap.size≤go5) from(HO_0.out.1 _ rfl))
     obtain⟨ce5,hcl5,hM5,hcc5,hfr5⟩:=Kd.R_elem HO_0.out z47 (x5_1:Int) p5 q5
     obtain rfl:=k47_openM hM5
     have hx5_0:wr.cell? ⟨go5,(x5_1:Int).toNat*3,none⟩=some (.int .i64 ((rd_T47 x0_1 x5_1).f0)):=hcc5 0 _ rfl
     have hx5_1:wr.cell? ⟨go5,(x5_1:Int).toNat*3+1,none⟩=some (.int .i64 ((rd_T47 x0_1 x5_1).f1)):=hcc5 1 _ rfl
     have hx5_2:wr.cell? ⟨go5,(x5_1:Int).toNat*3+2,none⟩=some (.int .i64 ((rd_T47 x0_1 x5_1).f2)):=hcc5 2 _ rfl
     have hf5_0:wr.frozen? ⟨go5,(x5_1:Int).toNat*3,none⟩=false:=hfr5 0
     have hf5_1:wr.frozen? ⟨go5,(x5_1:Int).toNat*3+1,none⟩=false:=hfr5 1
     have hf5_2:wr.frozen? ⟨go5,(x5_1:Int).toNat*3+2,none⟩=false:=hfr5 2
     clear hcl5 hcc5 hfr5;(try clear hM5)
     replace p5:=eq_true p5
     replace q5:=eq_true q5
     have HX9:=am_ (show Kd.R k47 47 wr w0.heap.size (fun k_=>(P0_ k_∨w.heap.size≤k_)) (.slice (some ⟨go5,0,none⟩) x0_1.length co8) x0_1 from((a2_ HO_0.out)))
     obtain⟨ce9,hcl9,hM9,hcc9,hfr9⟩:=Kd.R_elem HX9.out z47 (x5_1:Int) (of_decide_eq_true (a4_)) (by have h_:(x5_1:Int)<((x0_1.length:Int):Int):=of_decide_eq_true (a4_);first | exact h_ | (have e_:=(Kd.R_reads' HO_0.out).1;omega) | simpa using h_)
     obtain rfl:=k47_openM hM9
     have HP9:=Kd.R_seg HX9.out (x5_1:Int) (of_decide_eq_true (a4_)) (by have h_:(x5_1:Int)<((x0_1.length:Int):Int):=of_decide_eq_true (a4_);first | exact h_ | (have e_:=(Kd.R_reads' HO_0.out).1;omega) | simpa using h_) (seg:=[.int .i64 x1_1]) (j:=0) hcl9 hcc9 (show 1≤3 from by decide) (x':=(⟨x1_1,(rd_T47 x0_1 x5_1).f1,(rd_T47 x0_1 x5_1).f2⟩:S47)) (k47_mkM _ _ _ (⟨x1_1,(rd_T47 x0_1 x5_1).f1,(rd_T47 x0_1 x5_1).f2⟩:S47) ) (fun _ hk=>hk)
     have hx9_0:=hcc9 0 _ rfl
     (try simp only[show(k47).sz=3 from rfl,Nat.mul_one,Nat.add_zero]at hx9_0)
     have hf9_0:=hfr9 0
     (try simp only[show(k47).sz=3 from rfl,Nat.mul_one,Nat.add_zero]at hf9_0)
     clear hcl9 hcc9 hfr9;(try clear hM9)
     go_wp2_with (first | ((with_reducible refine gate_store (t:=3) (p:=16) rfl ?_);refine store_event (t:=3) (p:=16) (v:=?vo_w10) (w1:=(wr.setCell ⟨go5,(x5_1:Int).toNat*3,none⟩ (.int .i64 x1_1))) ?hg ?ho ?hn ?hr ?_;(case ho=>rfl);(case hg=>rfl);(case hn=>rfl);(case hr=>exact a12_);intro w10 hw;have hg:wr.grownBy w10 (some go5):=(by rw[hw];exact HP9.2);have hp_:Kd.R k47 47 w10 w0.heap.size (fun k_=>(P0_ k_∨w.heap.size≤k_)) (.slice (some ⟨go5,0,none⟩) x0_1.length co8) y265:=(by rw[hw,Ny265.out];exact HP9.1);clear HP9;replace HB:=am_ ((by rw[hw];exact below_set (HB.out) GB5.out:Below w0.heap.size w0 w10));replace HK:=am_ (Kept.of_grown (S:=(fun k_=>P0_ k_)) hg (a20_) (fun k_ e_=>(HO_0.out.1 k_ e_)));replace HO_0:=am_ (hp_);clear hg hw hp_;have p6:0≤(x5_1:Int):=of_decide_eq_true (a4_);have q6:(x5_1:Int)<((x0_1.length:Int):Int):=of_decide_eq_true (a4_);obtain⟨ce6,hcl6,hM6,hcc6,hfr6⟩:=Kd.R_elem HO_0.out z47 (x5_1:Int) p6 q6;obtain rfl:=k47_openM hM6;have hx6_0:w10.cell? ⟨go5,(x5_1:Int).toNat*3,none⟩=some (.int .i64 ((rd_T47 y265 x5_1).f0)):=hcc6 0 _ rfl;have hx6_1:w10.cell? ⟨go5,(x5_1:Int).toNat*3+1,none⟩=some (.int .i64 ((rd_T47 y265 x5_1).f1)):=hcc6 1 _ rfl;have hx6_2:w10.cell? ⟨go5,(x5_1:Int).toNat*3+2,none⟩=some (.int .i64 ((rd_T47 y265 x5_1).f2)):=hcc6 2 _ rfl;have hf6_0:w10.frozen? ⟨go5,(x5_1:Int).toNat*3,none⟩=false:=hfr6 0;have hf6_1:w10.frozen? ⟨go5,(x5_1:Int).toNat*3+1,none⟩=false:=hfr6 1;have hf6_2:w10.frozen? ⟨go5,(x5_1:Int).toNat*3+2,none⟩=false:=hfr6 2;clear hcl6 hcc6 hfr6;(try clear hM6);replace p6:=eq_true p6;replace q6:=eq_true q6;have HX11:=am_ (show Kd.R k47 47 w10 w0.heap.size (fun k_=>(P0_ k_∨w.heap.size≤k_)) (.slice (some ⟨go5,0,none⟩) x0_1.length co8) y265 from((a2_ HO_0.out)));obtain⟨ce11,hcl11,hM11,hcc11,hfr11⟩:=Kd.R_elem HX11.out z47 (x5_1:Int) (of_decide_eq_true (a4_)) (by have h_:(x5_1:Int)<((x0_1.length:Int):Int):=of_decide_eq_true (a4_);first | exact h_ | (have e_:=(Kd.R_reads' HO_0.out).1;omega) | simpa using h_);obtain rfl:=k47_openM hM11;have HP11:=Kd.R_seg HX11.out (x5_1:Int) (of_decide_eq_true (a4_)) (by have h_:(x5_1:Int)<((x0_1.length:Int):Int):=of_decide_eq_true (a4_);first | exact h_ | (have e_:=(Kd.R_reads' HO_0.out).1;omega) | simpa using h_) (seg:=[.int .i64 (wrap64 (x1_1+1))]) (j:=1) hcl11 hcc11 (show 2≤3 from by decide) (x':=(⟨(rd_T47 y265 x5_1).f0,wrap64 (x1_1+1),(rd_T47 y265 x5_1).f2⟩:S47)) (k47_mkM _ _ _ (⟨(rd_T47 y265 x5_1).f0,wrap64 (x1_1+1),(rd_T47 y265 x5_1).f2⟩:S47) ) (fun _ hk=>hk);have hx11_1:=hcc11 1 _ rfl;(try simp only[show(k47).sz=3 from rfl,Nat.mul_one,Nat.add_zero]at hx11_1);have hf11_1:=hfr11 1;(try simp only[show(k47).sz=3 from rfl,Nat.mul_one,Nat.add_zero]at hf11_1);clear hcl11 hcc11 hfr11;(try clear hM11)) | ((with_reducible refine gate_store (t:=3) (p:=23) rfl ?_);refine store_event (t:=3) (p:=23) (v:=?vo_w12) (w1:=(w10.setCell ⟨go5,(x5_1:Int).toNat*3+1,none⟩ (.int .i64 (wrap64 (x1_1+1))))) ?hg ?ho ?hn ?hr ?_;(case ho=>rfl);(case hg=>rfl);(case hn=>rfl);(case hr=>exact a12_);intro w12 hw;have hg:w10.grownBy w12 (some go5):=(by rw[hw];exact HP11.2);have hp_:Kd.R k47 47 w12 w0.heap.size (fun k_=>(P0_ k_∨w.heap.size≤k_)) (.slice (some ⟨go5,0,none⟩) x0_1.length co8) y266:=(by rw[hw,Ny266.out];exact HP11.1);clear HP11;replace HB:=am_ ((by rw[hw];exact below_set (HB.out) GB5.out:Below w0.heap.size w0 w12));replace HK:=am_ (Kept.of_grown (S:=(fun k_=>P0_ k_)) hg (a20_) (fun k_ e_=>(HO_0.out.1 k_ e_)));replace HO_0:=am_ (hp_);clear hg hw hp_;have p7:0≤(x5_1:Int):=of_decide_eq_true (a4_);have q7:(x5_1:Int)<((x0_1.length:Int):Int):=of_decide_eq_true (a4_);obtain⟨ce7,hcl7,hM7,hcc7,hfr7⟩:=Kd.R_elem HO_0.out z47 (x5_1:Int) p7 q7;obtain rfl:=k47_openM hM7;have hx7_0:w12.cell? ⟨go5,(x5_1:Int).toNat*3,none⟩=some (.int .i64 ((rd_T47 y266 x5_1).f0)):=hcc7 0 _ rfl;have hx7_1:w12.cell? ⟨go5,(x5_1:Int).toNat*3+1,none⟩=some (.int .i64 ((rd_T47 y266 x5_1).f1)):=hcc7 1 _ rfl;have hx7_2:w12.cell? ⟨go5,(x5_1:Int).toNat*3+2,none⟩=some (.int .i64 ((rd_T47 y266 x5_1).f2)):=hcc7 2 _ rfl;have hf7_0:w12.frozen? ⟨go5,(x5_1:Int).toNat*3,none⟩=false:=hfr7 0;have hf7_1:w12.frozen? ⟨go5,(x5_1:Int).toNat*3+1,none⟩=false:=hfr7 1;have hf7_2:w12.frozen? ⟨go5,(x5_1:Int).toNat*3+2,none⟩=false:=hfr7 2;clear hcl7 hcc7 hfr7;(try clear hM7);replace p7:=eq_true p7;replace q7:=eq_true q7;have HX13:=am_ (show Kd.R k47 47 w12 w0.heap.size (fun k_=>(P0_ k_∨w.heap.size≤k_)) (.slice (some ⟨go5,0,none⟩) x0_1.length co8) y266 from((a2_ HO_0.out)));obtain⟨ce13,hcl13,hM13,hcc13,hfr13⟩:=Kd.R_elem HX13.out z47 (x5_1:Int) (of_decide_eq_true (a4_)) (by have h_:(x5_1:Int)<((x0_1.length:Int):Int):=of_decide_eq_true (a4_);first | exact h_ | (have e_:=(Kd.R_reads' HO_0.out).1;omega) | simpa using h_);obtain rfl:=k47_openM hM13;have HP13:=Kd.R_seg HX13.out (x5_1:Int) (of_decide_eq_true (a4_)) (by have h_:(x5_1:Int)<((x0_1.length:Int):Int):=of_decide_eq_true (a4_);first | exact h_ | (have e_:=(Kd.R_reads' HO_0.out).1;omega) | simpa using h_) (seg:=[.int .i64 (wrap64 ((wrap64 (x1_1+1))+1))]) (j:=2) hcl13 hcc13 (show 3≤3 from by decide) (x':=(⟨(rd_T47 y266 x5_1).f0,(rd_T47 y266 x5_1).f1,wrap64 ((wrap64 (x1_1+1))+1)⟩:S47)) (k47_mkM _ _ _ (⟨(rd_T47 y266 x5_1).f0,(rd_T47 y266 x5_1).f1,wrap64 ((wrap64 (x1_1+1))+1)⟩:S47) ) (fun _ hk=>hk);have hx13_2:=hcc13 2 _ rfl;(try simp only[show(k47).sz=3 from rfl,Nat.mul_one,Nat.add_zero]at hx13_2);have hf13_2:=hfr13 2;(try simp only[show(k47).sz=3 from rfl,Nat.mul_one,Nat.add_zero]at hf13_2);clear hcl13 hcc13 hfr13;(try clear hM13)) | ((with_reducible refine gate_store (t:=3) (p:=30) rfl ?_);refine store_event (t:=3) (p:=30) (v:=?vo_w14) (w1:=(w12.setCell ⟨go5,(x5_1:Int).toNat*3+2,none⟩ (.int .i64 (wrap64 ((wrap64 (x1_1+1))+1))))) ?hg ?ho ?hn ?hr ?_;(case ho=>rfl);(case hg=>rfl);(case hn=>rfl);(case hr=>exact a12_);intro w14 hw;have hg:w12.grownBy w14 (some go5):=(by rw[hw];exact HP13.2);have hp_:Kd.R k47 47 w14 w0.heap.size (fun k_=>(P0_ k_∨w.heap.size≤k_)) (.slice (some ⟨go5,0,none⟩) x0_1.length co8) y267:=(by rw[hw,Ny267.out];exact HP13.1);clear HP13;replace HB:=am_ ((by rw[hw];exact below_set (HB.out) GB5.out:Below w0.heap.size w0 w14));replace HK:=am_ (Kept.of_grown (S:=(fun k_=>P0_ k_)) hg (a20_) (fun k_ e_=>(HO_0.out.1 k_ e_)));replace HO_0:=am_ (hp_);clear hg hw hp_))
     go_roundg k1
     case measure=>have:=HK1.out;omega
     case rel=>exact⟨(y267),(wrap64 ((wrap64 ((wrap64 (x1_1+1))+1))+1)),(wrap64 (x5_1+1)),(a6_),(a6_),H',⟨by have:=HK1.out;omega⟩,⟨(a2_ HO_0.out)⟩,⟨a20_⟩,⟨a0_⟩⟩
    ·rw[if_neg c4]at H
     exact absurd H (by simp)
   ·rw[if_neg c3]at H
    have c3b0:decide (x5_1<(x0_1.length:Int))=false:=decide_eq_false c3
    clear c3
    simp only[Option.some.injEq,Prod.mk.injEq]at H
    obtain⟨rfl,rfl⟩:=H
    obtain⟨Ao15,co15,eo15⟩:=Kd.R_slice HO_0.out
    subst eo15
    go_wp2
    go_ret
    exact⟨a5_,(a2_ HO_0.out),a0_,a20_⟩

/-! ### laws_markHoleSS: function 13 (by hand: marks in each of the rows, which lie apart) -/
def laws_markHoleSS.l0:Nat→List (List (S47))→Int→Int→Option (Int×List (List (S47)))
 | 0,_,_,_=>none
 | k+1,x0,x1,x5=>if x5<(x0.length:Int) then(if 0≤x5 then((laws_markHoleS.f k (x0.getD x5.toNat []) x1).bind fun t=>(laws_markHoleSS.l0 k (x0.set x5.toNat t.2) t.1 (wrap64 (x5+1)))) else none) else(some (x1,x0))
def laws_markHoleSS.f (k:Nat) (l0:List (List (S47))) (a1:Int):Option (Int×List (List (S47))):=laws_markHoleSS.l0 k l0 a1 0
theorem laws_markHoleSS.mono_l:∀k,(∀y0 y1 y2,LeO (laws_markHoleSS.l0 k y0 y1 y2) (laws_markHoleSS.l0 (k+1) y0 y1 y2))
 | 0=>fun _ _ _ r h=>by simp[laws_markHoleSS.l0]at h
 | k+1=>by
  have ih0:=laws_markHoleSS.mono_l k
  ·intro y0 y1 y2
   unfold laws_markHoleSS.l0
   repeat' first
   | (with_reducible exact ih0 _ _ _)
   | (with_reducible exact laws_markHoleS.mono _ _ _)
   | (with_reducible exact LeO.refl _)
   | (with_reducible exact LeO.none _)
   | (with_reducible refine LeO.ite ?_ ?_)
   | (with_reducible refine LeO.bind ?_ (fun _=>?_))
theorem laws_markHoleSS.mono:∀a0 a1 k,LeO (laws_markHoleSS.f k a0 a1) (laws_markHoleSS.f (k+1) a0 a1):=fun a0 a1 k=>laws_markHoleSS.mono_l k a0 a1 0
set_option maxHeartbeats 1000000 in
set_option maxRecDepth 100000 in
theorem laws_markHoleSS.calls (k:Nat) (P0_:Nat→Prop) (u9000_:Value) (l0:List (List (S47))) (a1:Int) (r1:Int) (r2:List (List (S47))) (w0 w:World) (hB:Below w0.heap.size w0 w) (ho0:Kd.S (Kd.slice 47 k47) 26 w w0.heap.size P0_ u9000_ l0) (h:laws_markHoleSS.f k l0 a1=some (r1,r2)) :
 Calls Try.prog 13 #[u9000_, .int .i64 a1] w fun e w'=>e = .returned (.int .i64 r1)∧Kd.S (Kd.slice 47 k47) 26 w' w0.heap.size P0_ u9000_ r2∧Below w0.heap.size w0 w'∧Kept w w' (fun k_=>P0_ k_):=by
 obtain⟨A0,c0,rfl⟩:=Kd.S_slice ho0
 have HO:=am_ ho0
 have HB:=am_ hB
 have HK:=am_ (Kept.refl w (fun k_=>P0_ k_))
 have HF:Aside0 (laws_markHoleSS.l0 k l0 a1 0=some (r1,r2)):=⟨h⟩
 clear h hB ho0
 go_enter Try.func13,Try.ntmps13
 go_wp2
 go_loopg [1,5] k (fun kq v1 v5 wr=>∃(xs:List (List (S47))) (xa xi:Int),v1 = .int .i64 xa∧v5 = .int .i64 xi∧Aside0 (xs.length=l0.length)∧Aside0 (laws_markHoleSS.l0 kq xs xa xi=some (r1,r2))∧Aside0 (kq≤k)∧Aside0 (Kd.S (Kd.slice 47 k47) 26 wr w0.heap.size P0_ (.slice A0 l0.length c0) xs)∧Aside0 (Below w0.heap.size w0 wr)∧Aside0 (Kept w wr (fun k_=>P0_ k_)))
 case atStart=>exact⟨l0,a1,0,rfl,(a6_),⟨rfl⟩,HF,⟨Nat.le_refl _⟩,HO,HB,HK⟩
 case round=>
  clear HF HO HB HK
  try clear p2
  obtain⟨xs,xa,xi,rfl,rfl,HXL,HA,HK1,HO,HB,HK⟩:=hrel
  cases gk with
  | zero=>exact absurd HA.out (by simp[laws_markHoleSS.l0])
  | succ k1=>
   have H:=HA.out
   clear HA
   simp only[laws_markHoleSS.l0]at H
   rw[HXL.out]at H
   by_cases c4:xi<(l0.length:Int)
   ·rw[if_pos c4]at H
    by_cases c5:0≤xi
    ·rw[if_pos c5]at H
     replace H:=Option.bind_eq_some_iff.mp H
     obtain⟨⟨t1,t2⟩,a3,H⟩:=H
     have H':=am_ H
     clear H
     have hpos:0<xs.length:=by have:=HXL.out;omega
     obtain⟨g,cap,eq1,_,_,_⟩:=Kd.S_form HO.out hpos
     obtain⟨rfl,rfl⟩:A0=some ⟨g,0,none⟩∧c0=cap:=by injection eq1 with e1 e2 e3;exact⟨e1,e3⟩
     clear eq1 hpos
     obtain⟨oki,ce,hcl,hM,hcc,hfr,hoki,hH⟩:=Kd.S_elem HO.out [] xi c5 c4
     obtain⟨row,hrow⟩:∃row,row=xs.getD xi.toNat []:=⟨_,rfl⟩
     rw[← hrow]at hM a3
     obtain⟨ve,hce,hR⟩:=hM
     subst hce
     obtain⟨Ae,cape,hve⟩:=Kd.R_slice hR
     subst hve
     have hx:=hcc 0 _ rfl
     have hz:=hfr 0
     simp only[show((Kd.slice 47 k47)).sz=1 from rfl,Nat.mul_one,Nat.add_zero]at hx hz
     have HR:=am_ hR
     have HH:=am_ hH
     have HOK:=am_ hoki
     have A3:=am_ a3
     clear hR hH hoki a3 hcl hcc hfr hrow
     have c4b:decide (xi<(l0.length:Int))=true:=decide_eq_true c4
     have c5b:decide (0≤xi)=true:=decide_eq_true c5
     go_wp2_with (go_at_call 15;go_loud ((with_reducible refine(laws_markHoleS.calls k1 oki (.slice Ae row.length cape) row xa t1 t2 w0 _ HB.out HR.out A3.out).mono ?_);rintro e w' ⟨rfl,hy,hb,hkp⟩;have HO2:=am_ (Kd.H_back (Kd.H_kept HH.out hkp (fun k _ hn hs=>hn hs)) (show((Kd.slice 47 k47)).M w' w0.heap.size oki t2 [.slice Ae row.length cape] from⟨_,rfl,Kd.R_reok rfl hy (fun k e_=>HR.out.1 k e_)⟩) (fun _ hk=>hk));have HB2:=am_ hb;have HK2:=am_ (Kept.then_ HK.out hkp (fun k hk=> .inl (HOK.out k hk).1));clear hy hb hkp))
     go_roundg k1
     case measure=>have:=HK1.out;omega
     case rel=>exact⟨xs.set xi.toNat t2,t1,wrap64 (xi+1),(a6_),(a6_),⟨by rw[List.length_set];exact HXL.out⟩,H',⟨by have:=HK1.out;omega⟩,HO2,HB2,HK2⟩
    ·rw[if_neg c5]at H
     exact absurd H (by simp)
   ·rw[if_neg c4]at H
    have c4b:decide (xi<(l0.length:Int))=false:=decide_eq_false c4
    clear c4
    have HE:=am_ (Option.some.inj H)
    clear H
    go_wp2
    go_ret
    have e1:xa=r1:=congrArg Prod.fst HE.out
    have e2:xs=r2:=congrArg Prod.snd HE.out
    exact⟨by rw[← e1];rfl,by rw[← e2];exact HO.out,HB.out,HK.out⟩


/-! ### laws_markPartS: function 14 -/
def laws_markPartS.l0:Nat→List (S44)→Int→Int→Option (Int×(List (S44)))
 | 0,_,_,_=>none
 | k+1,x0,x1,x5=>if x5<(x0.length:Int) then(if 0≤x5 then((some (x0.set (x5:Int).toNat (⟨x1,(rd_T44 x0 x5).f1,(rd_T44 x0 x5).f2⟩:S44):List (S44))).bind fun y268=>((some (y268.set (x5:Int).toNat (⟨(rd_T44 y268 x5).f0,wrap64 (x1+1),(rd_T44 y268 x5).f2⟩:S44):List (S44))).bind fun y269=>(laws_markPartS.l0 k (y269.set (x5:Int).toNat (⟨(rd_T44 y269 x5).f0,(rd_T44 y269 x5).f1,wrap64 ((wrap64 (x1+1))+1)⟩:S44)) (wrap64 ((wrap64 ((wrap64 (x1+1))+1))+1)) (wrap64 (x5+1))))) else(none)) else(some (x1,x0))
def laws_markPartS.f (k:Nat) (l0:List (S44)) (a1:Int):Option (Int×(List (S44))):=laws_markPartS.l0 k l0 a1 0
theorem laws_markPartS.mono_l:∀k,(∀y0 y1 y2,LeO (laws_markPartS.l0 k y0 y1 y2) (laws_markPartS.l0 (k+1) y0 y1 y2))
 | 0=>fun _ _ _ r h=>by simp[laws_markPartS.l0]at h
 | k+1=>by
  have ih0:=laws_markPartS.mono_l k
  ·intro y0 y1 y2
   unfold laws_markPartS.l0
   repeat' first
   | (with_reducible exact ih0 _ _ _)
   | (with_reducible exact LeO.refl _)
   | (with_reducible exact LeO.none _)
   | (with_reducible refine LeO.ite ?_ ?_)
   | (with_reducible refine LeO.bind ?_ (fun _=>?_))
   | exact ih0 _ _ _
   | exact LeO.none _
   | refine LeO.ite ?_ ?_
   | refine LeO.bind ?_ (fun _=>?_)
theorem laws_markPartS.mono:∀a0 a1 k,LeO (laws_markPartS.f k a0 a1) (laws_markPartS.f (k+1) a0 a1):=by
 intro a0 a1 k
 have ih0:=laws_markPartS.mono_l k
 unfold laws_markPartS.f
 repeat' first
  | (with_reducible exact ih0 _ _ _)
  | (with_reducible exact LeO.refl _)
  | (with_reducible exact LeO.none _)
  | (with_reducible refine LeO.ite ?_ ?_)
  | (with_reducible refine LeO.bind ?_ (fun _=>?_))
  | exact ih0 _ _ _
  | exact LeO.none _
  | refine LeO.ite ?_ ?_
  | refine LeO.bind ?_ (fun _=>?_)
set_option maxHeartbeats 8000000 in
set_option maxRecDepth 100000 in
theorem laws_markPartS.calls (k:Nat) (P0_:Nat→Prop) (u9000_:Value) (l0:List (S44)) (a1:Int) (r1:Int) (r2:List (S44)) (w0 w:World) (hB:Below w0.heap.size w0 w) (ho0:Kd.R k44 44 w w0.heap.size P0_ u9000_ l0) (h:laws_markPartS.f k l0 a1=some (r1,r2)) :
 Calls Try.prog 14 #[u9000_, .int .i64 a1] w fun e w'=>e = .returned (.int .i64 r1)∧Kd.R k44 44 w' w0.heap.size (fun k_=>(P0_ k_∨w.heap.size≤k_)) u9000_ r2∧Below w0.heap.size w0 w'∧Kept w w' (fun k_=>P0_ k_):=by
 have HO0:=am_ (show Kd.R k44 44 w w0.heap.size (fun k_=>(P0_ k_∨w.heap.size≤k_)) u9000_ l0 from Kd.R_mono ho0 (fun k_ hk=>(.inl hk)))
 have HK:=am_ (Kept.refl w (fun k_=>P0_ k_))
 have HW0:=am_ hB.size
 have HB:=am_ hB
 clear hB
 have H:(laws_markPartS.l0 k l0 a1 0)=some (r1,r2):=h
 clear h
 have H':=am_ H
 clear H
 go_enter Try.func14,Try.ntmps14
 go_wp2
 go_loopg [1,5] k (fun kq v1 v5 w'=>∃(x0_1:List (S44)) (x1_1:Int) (x5_1:Int),v1 = .int .i64 x1_1∧v5 = .int .i64 x5_1∧Aside0 (laws_markPartS.l0 kq x0_1 x1_1 x5_1=some (r1,r2))∧Aside0 (kq≤k)∧Aside0 (Kd.R k44 44 w' w0.heap.size (fun k_=>(P0_ k_∨w.heap.size≤k_)) u9000_ x0_1)∧Aside0 (Kept w w' (fun k_=>P0_ k_))∧Aside0 (Below w0.heap.size w0 w'))
 case atStart=>exact⟨(l0),(a1),(0),(a6_),(a6_),H',⟨Nat.le_refl _⟩,⟨(a2_ HO0.out)⟩,⟨a20_⟩,⟨a0_⟩⟩
 case round=>
  clear H'
  try clear c1
  try clear p2
  obtain⟨x0_1,x1_1,x5_1,rfl,rfl,HA,HK1,HO_0,HK,HB⟩:=hrel
  cases gk with
  | zero=>exact absurd HA.out (by simp[laws_markPartS.l0])
  | succ k1=>
   have H:=HA.out
   clear HA
   simp only[laws_markPartS.l0]at H
   by_cases c3:x5_1<(x0_1.length:Int)
   ·rw[if_pos c3]at H
    have c3b0:decide (x5_1<(x0_1.length:Int))=true:=decide_eq_true c3
    clear c3
    by_cases c4:0≤x5_1
    ·rw[if_pos c4]at H
     have c4b0:decide (0≤x5_1)=true:=decide_eq_true c4
     clear c4
     obtain⟨y268,hy268⟩:∃y_:List (S44),y_=(x0_1.set (x5_1:Int).toNat (⟨x1_1,(rd_T44 x0_1 x5_1).f1,(rd_T44 x0_1 x5_1).f2⟩:S44)):=⟨_,rfl⟩
     replace H:((some (y268.set (x5_1:Int).toNat (⟨(rd_T44 y268 x5_1).f0,wrap64 (x1_1+1),(rd_T44 y268 x5_1).f2⟩:S44):List (S44))).bind fun y269=>(laws_markPartS.l0 k1 (y269.set (x5_1:Int).toNat (⟨(rd_T44 y269 x5_1).f0,(rd_T44 y269 x5_1).f1,wrap64 ((wrap64 (x1_1+1))+1)⟩:S44)) (wrap64 ((wrap64 ((wrap64 (x1_1+1))+1))+1)) (wrap64 (x5_1+1))))=some (r1,r2):=by first | (rw[hy268];with_reducible exact H) | (have H2_:=(Option.bind_some _ _).symm.trans H;rw[hy268];with_reducible exact H2_) | (have H2_:=(Option.bind_some _ _).symm.trans H;with_reducible exact H2_) | with_reducible exact H | (rw[hy268];exact H) | exact H
     have Ny268:=am_ hy268
     clear hy268
     obtain⟨y269,hy269⟩:∃y_:List (S44),y_=(y268.set (x5_1:Int).toNat (⟨(rd_T44 y268 x5_1).f0,wrap64 (x1_1+1),(rd_T44 y268 x5_1).f2⟩:S44)):=⟨_,rfl⟩
     replace H:(laws_markPartS.l0 k1 (y269.set (x5_1:Int).toNat (⟨(rd_T44 y269 x5_1).f0,(rd_T44 y269 x5_1).f1,wrap64 ((wrap64 (x1_1+1))+1)⟩:S44)) (wrap64 ((wrap64 ((wrap64 (x1_1+1))+1))+1)) (wrap64 (x5_1+1)))=some (r1,r2):=by first | (rw[hy269];with_reducible exact H) | (have H2_:=(Option.bind_some _ _).symm.trans H;rw[hy269];with_reducible exact H2_) | (have H2_:=(Option.bind_some _ _).symm.trans H;with_reducible exact H2_) | with_reducible exact H | (rw[hy269];exact H) | exact H
     have Ny269:=am_ hy269
     clear hy269
     obtain⟨y270,hy270⟩:∃y_:List (S44),y_=(y269.set (x5_1:Int).toNat (⟨(rd_T44 y269 x5_1).f0,(rd_T44 y269 x5_1).f1,wrap64 ((wrap64 (x1_1+1))+1)⟩:S44)):=⟨_,rfl⟩
     replace H:(laws_markPartS.l0 k1 y270 (wrap64 ((wrap64 ((wrap64 (x1_1+1))+1))+1)) (wrap64 (x5_1+1)))=some (r1,r2):=by first | (rw[hy270];with_reducible exact H) | (have H2_:=(Option.bind_some _ _).symm.trans H;rw[hy270];with_reducible exact H2_) | (have H2_:=(Option.bind_some _ _).symm.trans H;with_reducible exact H2_) | with_reducible exact H | (rw[hy270];exact H) | exact H
     have Ny270:=am_ hy270
     clear hy270
     have H':=am_ H
     clear H
     obtain⟨Ao8,co8,eo8⟩:=Kd.R_slice HO_0.out
     subst eo8
     have p5:0≤(x5_1:Int):=of_decide_eq_true (a4_)
     have q5:(x5_1:Int)<((x0_1.length:Int):Int):=of_decide_eq_true (a4_)
     obtain⟨go5,co5,eo5,gb5,gl5,cl5,HG5⟩:=Kd.R_form HO_0.out (by omega)
     (first | cases eo5 | (injection eo5 with ea_ en_ ec_;(first | subst ea_ | (injection ea_ with ea_;subst ea_));subst ec_;clear en_))
     have GB5:=am_ gb5
     have GG5:=am_ HG5
     clear gb5 gl5 HG5
     have HMgo5:=am_ (show(P0_ go5∨w.heap.size≤go5) from(HO_0.out.1 _ rfl))
     obtain⟨ce5,hcl5,hM5,hcc5,hfr5⟩:=Kd.R_elem HO_0.out z44 (x5_1:Int) p5 q5
     obtain rfl:=k44_openM hM5
     have hx5_0:wr.cell? ⟨go5,(x5_1:Int).toNat*3,none⟩=some (.int .i64 ((rd_T44 x0_1 x5_1).f0)):=hcc5 0 _ rfl
     have hx5_1:wr.cell? ⟨go5,(x5_1:Int).toNat*3+1,none⟩=some (.int .i64 ((rd_T44 x0_1 x5_1).f1)):=hcc5 1 _ rfl
     have hx5_2:wr.cell? ⟨go5,(x5_1:Int).toNat*3+2,none⟩=some (.int .i64 ((rd_T44 x0_1 x5_1).f2)):=hcc5 2 _ rfl
     have hf5_0:wr.frozen? ⟨go5,(x5_1:Int).toNat*3,none⟩=false:=hfr5 0
     have hf5_1:wr.frozen? ⟨go5,(x5_1:Int).toNat*3+1,none⟩=false:=hfr5 1
     have hf5_2:wr.frozen? ⟨go5,(x5_1:Int).toNat*3+2,none⟩=false:=hfr5 2
     clear hcl5 hcc5 hfr5;(try clear hM5)
     replace p5:=eq_true p5
     replace q5:=eq_true q5
     have HX9:=am_ (show Kd.R k44 44 wr w0.heap.size (fun k_=>(P0_ k_∨w.heap.size≤k_)) (.slice (some ⟨go5,0,none⟩) x0_1.length co8) x0_1 from((a2_ HO_0.out)))
     obtain⟨ce9,hcl9,hM9,hcc9,hfr9⟩:=Kd.R_elem HX9.out z44 (x5_1:Int) (of_decide_eq_true (a4_)) (by have h_:(x5_1:Int)<((x0_1.length:Int):Int):=of_decide_eq_true (a4_);first | exact h_ | (have e_:=(Kd.R_reads' HO_0.out).1;omega) | simpa using h_)
     obtain rfl:=k44_openM hM9
     have HP9:=Kd.R_seg HX9.out (x5_1:Int) (of_decide_eq_true (a4_)) (by have h_:(x5_1:Int)<((x0_1.length:Int):Int):=of_decide_eq_true (a4_);first | exact h_ | (have e_:=(Kd.R_reads' HO_0.out).1;omega) | simpa using h_) (seg:=[.int .i64 x1_1]) (j:=0) hcl9 hcc9 (show 1≤3 from by decide) (x':=(⟨x1_1,(rd_T44 x0_1 x5_1).f1,(rd_T44 x0_1 x5_1).f2⟩:S44)) (k44_mkM _ _ _ (⟨x1_1,(rd_T44 x0_1 x5_1).f1,(rd_T44 x0_1 x5_1).f2⟩:S44) ) (fun _ hk=>hk)
     have hx9_0:=hcc9 0 _ rfl
     (try simp only[show(k44).sz=3 from rfl,Nat.mul_one,Nat.add_zero]at hx9_0)
     have hf9_0:=hfr9 0
     (try simp only[show(k44).sz=3 from rfl,Nat.mul_one,Nat.add_zero]at hf9_0)
     clear hcl9 hcc9 hfr9;(try clear hM9)
     go_wp2_with (first | ((with_reducible refine gate_store (t:=3) (p:=16) rfl ?_);refine store_event (t:=3) (p:=16) (v:=?vo_w10) (w1:=(wr.setCell ⟨go5,(x5_1:Int).toNat*3,none⟩ (.int .i64 x1_1))) ?hg ?ho ?hn ?hr ?_;(case ho=>rfl);(case hg=>rfl);(case hn=>rfl);(case hr=>exact a12_);intro w10 hw;have hg:wr.grownBy w10 (some go5):=(by rw[hw];exact HP9.2);have hp_:Kd.R k44 44 w10 w0.heap.size (fun k_=>(P0_ k_∨w.heap.size≤k_)) (.slice (some ⟨go5,0,none⟩) x0_1.length co8) y268:=(by rw[hw,Ny268.out];exact HP9.1);clear HP9;replace HB:=am_ ((by rw[hw];exact below_set (HB.out) GB5.out:Below w0.heap.size w0 w10));replace HK:=am_ (Kept.of_grown (S:=(fun k_=>P0_ k_)) hg (a20_) (fun k_ e_=>(HO_0.out.1 k_ e_)));replace HO_0:=am_ (hp_);clear hg hw hp_;have p6:0≤(x5_1:Int):=of_decide_eq_true (a4_);have q6:(x5_1:Int)<((x0_1.length:Int):Int):=of_decide_eq_true (a4_);obtain⟨ce6,hcl6,hM6,hcc6,hfr6⟩:=Kd.R_elem HO_0.out z44 (x5_1:Int) p6 q6;obtain rfl:=k44_openM hM6;have hx6_0:w10.cell? ⟨go5,(x5_1:Int).toNat*3,none⟩=some (.int .i64 ((rd_T44 y268 x5_1).f0)):=hcc6 0 _ rfl;have hx6_1:w10.cell? ⟨go5,(x5_1:Int).toNat*3+1,none⟩=some (.int .i64 ((rd_T44 y268 x5_1).f1)):=hcc6 1 _ rfl;have hx6_2:w10.cell? ⟨go5,(x5_1:Int).toNat*3+2,none⟩=some (.int .i64 ((rd_T44 y268 x5_1).f2)):=hcc6 2 _ rfl;have hf6_0:w10.frozen? ⟨go5,(x5_1:Int).toNat*3,none⟩=false:=hfr6 0;have hf6_1:w10.frozen? ⟨go5,(x5_1:Int).toNat*3+1,none⟩=false:=hfr6 1;have hf6_2:w10.frozen? ⟨go5,(x5_1:Int).toNat*3+2,none⟩=false:=hfr6 2;clear hcl6 hcc6 hfr6;(try clear hM6);replace p6:=eq_true p6;replace q6:=eq_true q6;have HX11:=am_ (show Kd.R k44 44 w10 w0.heap.size (fun k_=>(P0_ k_∨w.heap.size≤k_)) (.slice (some ⟨go5,0,none⟩) x0_1.length co8) y268 from((a2_ HO_0.out)));obtain⟨ce11,hcl11,hM11,hcc11,hfr11⟩:=Kd.R_elem HX11.out z44 (x5_1:Int) (of_decide_eq_true (a4_)) (by have h_:(x5_1:Int)<((x0_1.length:Int):Int):=of_decide_eq_true (a4_);first | exact h_ | (have e_:=(Kd.R_reads' HO_0.out).1;omega) | simpa using h_);obtain rfl:=k44_openM hM11;have HP11:=Kd.R_seg HX11.out (x5_1:Int) (of_decide_eq_true (a4_)) (by have h_:(x5_1:Int)<((x0_1.length:Int):Int):=of_decide_eq_true (a4_);first | exact h_ | (have e_:=(Kd.R_reads' HO_0.out).1;omega) | simpa using h_) (seg:=[.int .i64 (wrap64 (x1_1+1))]) (j:=1) hcl11 hcc11 (show 2≤3 from by decide) (x':=(⟨(rd_T44 y268 x5_1).f0,wrap64 (x1_1+1),(rd_T44 y268 x5_1).f2⟩:S44)) (k44_mkM _ _ _ (⟨(rd_T44 y268 x5_1).f0,wrap64 (x1_1+1),(rd_T44 y268 x5_1).f2⟩:S44) ) (fun _ hk=>hk);have hx11_1:=hcc11 1 _ rfl;(try simp only[show(k44).sz=3 from rfl,Nat.mul_one,Nat.add_zero]at hx11_1);have hf11_1:=hfr11 1;(try simp only[show(k44).sz=3 from rfl,Nat.mul_one,Nat.add_zero]at hf11_1);clear hcl11 hcc11 hfr11;(try clear hM11)) | ((with_reducible refine gate_store (t:=3) (p:=23) rfl ?_);refine store_event (t:=3) (p:=23) (v:=?vo_w12) (w1:=(w10.setCell ⟨go5,(x5_1:Int).toNat*3+1,none⟩ (.int .i64 (wrap64 (x1_1+1))))) ?hg ?ho ?hn ?hr ?_;(case ho=>rfl);(case hg=>rfl);(case hn=>rfl);(case hr=>exact a12_);intro w12 hw;have hg:w10.grownBy w12 (some go5):=(by rw[hw];exact HP11.2);have hp_:Kd.R k44 44 w12 w0.heap.size (fun k_=>(P0_ k_∨w.heap.size≤k_)) (.slice (some ⟨go5,0,none⟩) x0_1.length co8) y269:=(by rw[hw,Ny269.out];exact HP11.1);clear HP11;replace HB:=am_ ((by rw[hw];exact below_set (HB.out) GB5.out:Below w0.heap.size w0 w12));replace HK:=am_ (Kept.of_grown (S:=(fun k_=>P0_ k_)) hg (a20_) (fun k_ e_=>(HO_0.out.1 k_ e_)));replace HO_0:=am_ (hp_);clear hg hw hp_;have p7:0≤(x5_1:Int):=of_decide_eq_true (a4_);have q7:(x5_1:Int)<((x0_1.length:Int):Int):=of_decide_eq_true (a4_);obtain⟨ce7,hcl7,hM7,hcc7,hfr7⟩:=Kd.R_elem HO_0.out z44 (x5_1:Int) p7 q7;obtain rfl:=k44_openM hM7;have hx7_0:w12.cell? ⟨go5,(x5_1:Int).toNat*3,none⟩=some (.int .i64 ((rd_T44 y269 x5_1).f0)):=hcc7 0 _ rfl;have hx7_1:w12.cell? ⟨go5,(x5_1:Int).toNat*3+1,none⟩=some (.int .i64 ((rd_T44 y269 x5_1).f1)):=hcc7 1 _ rfl;have hx7_2:w12.cell? ⟨go5,(x5_1:Int).toNat*3+2,none⟩=some (.int .i64 ((rd_T44 y269 x5_1).f2)):=hcc7 2 _ rfl;have hf7_0:w12.frozen? ⟨go5,(x5_1:Int).toNat*3,none⟩=false:=hfr7 0;have hf7_1:w12.frozen? ⟨go5,(x5_1:Int).toNat*3+1,none⟩=false:=hfr7 1;have hf7_2:w12.frozen? ⟨go5,(x5_1:Int).toNat*3+2,none⟩=false:=hfr7 2;clear hcl7 hcc7 hfr7;(try clear hM7);replace p7:=eq_true p7;replace q7:=eq_true q7;have HX13:=am_ (show Kd.R k44 44 w12 w0.heap.size (fun k_=>(P0_ k_∨w.heap.size≤k_)) (.slice (some ⟨go5,0,none⟩) x0_1.length co8) y269 from((a2_ HO_0.out)));obtain⟨ce13,hcl13,hM13,hcc13,hfr13⟩:=Kd.R_elem HX13.out z44 (x5_1:Int) (of_decide_eq_true (a4_)) (by have h_:(x5_1:Int)<((x0_1.length:Int):Int):=of_decide_eq_true (a4_);first | exact h_ | (have e_:=(Kd.R_reads' HO_0.out).1;omega) | simpa using h_);obtain rfl:=k44_openM hM13;have HP13:=Kd.R_seg HX13.out (x5_1:Int) (of_decide_eq_true (a4_)) (by have h_:(x5_1:Int)<((x0_1.length:Int):Int):=of_decide_eq_true (a4_);first | exact h_ | (have e_:=(Kd.R_reads' HO_0.out).1;omega) | simpa using h_) (seg:=[.int .i64 (wrap64 ((wrap64 (x1_1+1))+1))]) (j:=2) hcl13 hcc13 (show 3≤3 from by decide) (x':=(⟨(rd_T44 y269 x5_1).f0,(rd_T44 y269 x5_1).f1,wrap64 ((wrap64 (x1_1+1))+1)⟩:S44)) (k44_mkM _ _ _ (⟨(rd_T44 y269 x5_1).f0,(rd_T44 y269 x5_1).f1,wrap64 ((wrap64 (x1_1+1))+1)⟩:S44) ) (fun _ hk=>hk);have hx13_2:=hcc13 2 _ rfl;(try simp only[show(k44).sz=3 from rfl,Nat.mul_one,Nat.add_zero]at hx13_2);have hf13_2:=hfr13 2;(try simp only[show(k44).sz=3 from rfl,Nat.mul_one,Nat.add_zero]at hf13_2);clear hcl13 hcc13 hfr13;(try clear hM13)) | ((with_reducible refine gate_store (t:=3) (p:=30) rfl ?_);refine store_event (t:=3) (p:=30) (v:=?vo_w14) (w1:=(w12.setCell ⟨go5,(x5_1:Int).toNat*3+2,none⟩ (.int .i64 (wrap64 ((wrap64 (x1_1+1))+1))))) ?hg ?ho ?hn ?hr ?_;(case ho=>rfl);(case hg=>rfl);(case hn=>rfl);(case hr=>exact a12_);intro w14 hw;have hg:w12.grownBy w14 (some go5):=(by rw[hw];exact HP13.2);have hp_:Kd.R k44 44 w14 w0.heap.size (fun k_=>(P0_ k_∨w.heap.size≤k_)) (.slice (some ⟨go5,0,none⟩) x0_1.length co8) y270:=(by rw[hw,Ny270.out];exact HP13.1);clear HP13;replace HB:=am_ ((by rw[hw];exact below_set (HB.out) GB5.out:Below w0.heap.size w0 w14));replace HK:=am_ (Kept.of_grown (S:=(fun k_=>P0_ k_)) hg (a20_) (fun k_ e_=>(HO_0.out.1 k_ e_)));replace HO_0:=am_ (hp_);clear hg hw hp_))
     go_roundg k1
     case measure=>have:=HK1.out;omega
     case rel=>exact⟨(y270),(wrap64 ((wrap64 ((wrap64 (x1_1+1))+1))+1)),(wrap64 (x5_1+1)),(a6_),(a6_),H',⟨by have:=HK1.out;omega⟩,⟨(a2_ HO_0.out)⟩,⟨a20_⟩,⟨a0_⟩⟩
    ·rw[if_neg c4]at H
     exact absurd H (by simp)
   ·rw[if_neg c3]at H
    have c3b0:decide (x5_1<(x0_1.length:Int))=false:=decide_eq_false c3
    clear c3
    simp only[Option.some.injEq,Prod.mk.injEq]at H
    obtain⟨rfl,rfl⟩:=H
    obtain⟨Ao15,co15,eo15⟩:=Kd.R_slice HO_0.out
    subst eo15
    go_wp2
    go_ret
    exact⟨a5_,(a2_ HO_0.out),a0_,a20_⟩

end Go.Proofs.Ytbbiihhaljigjaa.QFnExactMakeEdition
