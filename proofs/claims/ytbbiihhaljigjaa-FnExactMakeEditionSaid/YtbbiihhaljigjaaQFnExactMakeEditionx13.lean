/- Written by a program of this session (the kit's printer, with leaf contracts proved by hand put in): what each Go function computes, and that the call computes it. No condition but those that each theorem names. -/
import Derived.Test.YtbbiihhaljigjaaQFnExactMakeEditionx0
import Derived.Test.YtbbiihhaljigjaaQFnExactMakeEditionx1
import Derived.Test.YtbbiihhaljigjaaQFnExactMakeEditionx5
import Derived.Test.YtbbiihhaljigjaaQFnExactMakeEditionx6
import Derived.Test.YtbbiihhaljigjaaQFnExactMakeEditionx10
import Derived.Test.YtbbiihhaljigjaaQFnExactMakeEditionx11
import Derived.Test.YtbbiihhaljigjaaQFnExactMakeEditionx12
namespace Go.Proofs.Ytbbiihhaljigjaa.QFnExactMakeEdition
open Go.RowKit Go.Proofs.YtbbiihhaljigjaaW.PrintWords Go.Proofs.YtbbiihhaljigjaaW.PrintLast Go.Proofs.YtbbiihhaljigjaaW.PrintMore
attribute [local go_sem] max2_int min2_int max_two min_two max_three min_three max_four min_four   -- for this text's walks alone
set_option linter.unusedVariables false
set_option linter.unusedSimpArgs false

/-! ### laws_heldHoleS: function 16 -/
def laws_heldHoleS.l0:Nat→List (S47)→Int→Int→Option (Int)
 | 0,_,_,_=>none
 | k+1,x0,x1,x5=>if x5<(x0.length:Int) then(if 0≤x5 then(if((rd_T47 x0 x5).f0)=x1 then(if((rd_T47 x0 x5).f1)=(wrap64 (x1+1)) then(if((rd_T47 x0 x5).f2)=(wrap64 ((wrap64 (x1+1))+1)) then(laws_heldHoleS.l0 k x0 (wrap64 ((wrap64 ((wrap64 (x1+1))+1))+1)) (wrap64 (x5+1))) else(some (-1))) else(some (-1))) else(some (-1))) else(none)) else(some x1)
def laws_heldHoleS.f (k:Nat) (l0:List (S47)) (a1:Int):Option (Int):=laws_heldHoleS.l0 k l0 a1 0
theorem laws_heldHoleS.mono_l:∀k,(∀y0 y1 y2,LeO (laws_heldHoleS.l0 k y0 y1 y2) (laws_heldHoleS.l0 (k+1) y0 y1 y2))
 | 0=>fun _ _ _ r h=>by simp[laws_heldHoleS.l0]at h
 | k+1=>by
  have ih0:=laws_heldHoleS.mono_l k
  ·intro y0 y1 y2
   unfold laws_heldHoleS.l0
   repeat' first
   | (with_reducible exact ih0 _ _ _)
   | (with_reducible exact LeO.refl _)
   | (with_reducible exact LeO.none _)
   | (with_reducible refine LeO.ite ?_ ?_)
   | (with_reducible refine LeO.bind ?_ (fun _=>?_))
   | exact ih0 _ _ _
   | exact LeO.none _
   | refine LeO.ite ?_ ?_
   | refine LeO.bind ?_ (fun _=>?_)
theorem laws_heldHoleS.mono:∀a0 a1 k,LeO (laws_heldHoleS.f k a0 a1) (laws_heldHoleS.f (k+1) a0 a1):=by
 intro a0 a1 k
 have ih0:=laws_heldHoleS.mono_l k
 unfold laws_heldHoleS.f
 repeat' first
  | (with_reducible exact ih0 _ _ _)
  | (with_reducible exact LeO.refl _)
  | (with_reducible exact LeO.none _)
  | (with_reducible refine LeO.ite ?_ ?_)
  | (with_reducible refine LeO.bind ?_ (fun _=>?_))
  | exact ih0 _ _ _
  | exact LeO.none _
  | refine LeO.ite ?_ ?_
  | refine LeO.bind ?_ (fun _=>?_)
set_option maxHeartbeats 8000000 in
set_option maxRecDepth 100000 in
theorem laws_heldHoleS.calls (k:Nat) (A0:Option Addr) (c0:Nat) (l0:List (S47)) (a1:Int) (r:Int) (w:World) (hr0:Kd.C k47 w A0 l0.length l0) (hc0:l0.length≤c0) (h:laws_heldHoleS.f k l0 a1=some r) :
 Calls Try.prog 16 #[.slice A0 l0.length c0, .int .i64 a1] w fun e w'=>e = .returned (.int .i64 r)∧Drawn0 w w':=by
 have HR0:=am_ hr0
 have HC0:=am_ hc0
 clear hr0 hc0
 have H:(laws_heldHoleS.l0 k l0 a1 0)=some r:=h
 clear h
 have H':=am_ H
 clear H
 go_enter Try.func16,Try.ntmps16
 go_wp2
 go_loopg [1,5] k (fun kq v1 v5 w'=>∃(x1_1:Int) (x5_1:Int),v1 = .int .i64 x1_1∧v5 = .int .i64 x5_1∧Aside0 (laws_heldHoleS.l0 kq l0 x1_1 x5_1=some r)∧Aside0 (kq≤k)∧Drawn0 w w')
 case atStart=>exact⟨(a1),(0),(a6_),(a6_),H',⟨Nat.le_refl _⟩,a25_⟩
 case round=>
  clear H'
  try clear c1
  try clear p2
  obtain⟨x1_1,x5_1,rfl,rfl,HA,HK1,⟨m1,rfl⟩⟩:=hrel
  cases gk with
  | zero=>exact absurd HA.out (by simp[laws_heldHoleS.l0])
  | succ k1=>
   have H:=HA.out
   clear HA
   simp only[laws_heldHoleS.l0]at H
   by_cases c3:x5_1<(l0.length:Int)
   ·rw[if_pos c3]at H
    have c3b0:decide (x5_1<(l0.length:Int))=true:=decide_eq_true c3
    clear c3
    by_cases c4:0≤x5_1
    ·rw[if_pos c4]at H
     have c4b0:decide (0≤x5_1)=true:=decide_eq_true c4
     clear c4
     by_cases c5:((rd_T47 l0 x5_1).f0)=x1_1
     ·rw[if_pos c5]at H
      have c5b0:(((rd_T47 l0 x5_1).f0) == x1_1)=true:=beq_iff_eq.mpr c5
      have c5b1:(((rd_T47 l0 x5_1).f0) != x1_1)=false:=bne_eq_false_iff_eq.mpr c5
      clear c5
      by_cases c6:((rd_T47 l0 x5_1).f1)=(wrap64 (x1_1+1))
      ·rw[if_pos c6]at H
       have c6b0:(((rd_T47 l0 x5_1).f1) == (wrap64 (x1_1+1)))=true:=beq_iff_eq.mpr c6
       have c6b1:(((rd_T47 l0 x5_1).f1) != (wrap64 (x1_1+1)))=false:=bne_eq_false_iff_eq.mpr c6
       clear c6
       by_cases c7:((rd_T47 l0 x5_1).f2)=(wrap64 ((wrap64 (x1_1+1))+1))
       ·rw[if_pos c7]at H
        have c7b0:(((rd_T47 l0 x5_1).f2) == (wrap64 ((wrap64 (x1_1+1))+1)))=true:=beq_iff_eq.mpr c7
        have c7b1:(((rd_T47 l0 x5_1).f2) != (wrap64 ((wrap64 (x1_1+1))+1)))=false:=bne_eq_false_iff_eq.mpr c7
        clear c7
        have H':=am_ H
        clear H
        have p271:0≤(x5_1:Int):=of_decide_eq_true (a4_)
        have q271:x5_1<(l0.length:Int):=of_decide_eq_true (a4_)
        obtain⟨ad271,e271,hx271_0,hx271_1,hx271_2⟩:=at_T47 HR0.out x5_1 p271 q271
        cases e271
        replace p271:=eq_true p271
        replace q271:=eq_true q271
        have p272:0≤(x5_1:Int):=of_decide_eq_true (a4_)
        have q272:x5_1<(l0.length:Int):=of_decide_eq_true (a4_)
        obtain⟨ad272,e272,hx272_0,hx272_1,hx272_2⟩:=at_T47 HR0.out x5_1 p272 q272
        obtain rfl:ad271=ad272:=(by injection e272)
        replace p272:=eq_true p272
        replace q272:=eq_true q272
        have p273:0≤(x5_1:Int):=of_decide_eq_true (a4_)
        have q273:x5_1<(l0.length:Int):=of_decide_eq_true (a4_)
        obtain⟨ad273,e273,hx273_0,hx273_1,hx273_2⟩:=at_T47 HR0.out x5_1 p273 q273
        obtain rfl:ad271=ad273:=(by injection e273)
        replace p273:=eq_true p273
        replace q273:=eq_true q273
        go_wp2
        go_roundg k1
        case measure=>have:=HK1.out;omega
        case rel=>exact⟨(wrap64 ((wrap64 ((wrap64 (x1_1+1))+1))+1)),(wrap64 (x5_1+1)),(a6_),(a6_),H',⟨by have:=HK1.out;omega⟩,a25_⟩
       ·rw[if_neg c7]at H
        have c7b0:(((rd_T47 l0 x5_1).f2) == (wrap64 ((wrap64 (x1_1+1))+1)))=false:=beq_eq_false_iff_ne.mpr c7
        have c7b1:(((rd_T47 l0 x5_1).f2) != (wrap64 ((wrap64 (x1_1+1))+1)))=true:=bne_iff_ne.mpr c7
        obtain rfl:=Option.some.inj H
        have p271:0≤(x5_1:Int):=of_decide_eq_true (a4_)
        have q271:x5_1<(l0.length:Int):=of_decide_eq_true (a4_)
        obtain⟨ad271,e271,hx271_0,hx271_1,hx271_2⟩:=at_T47 HR0.out x5_1 p271 q271
        cases e271
        replace p271:=eq_true p271
        replace q271:=eq_true q271
        have p272:0≤(x5_1:Int):=of_decide_eq_true (a4_)
        have q272:x5_1<(l0.length:Int):=of_decide_eq_true (a4_)
        obtain⟨ad272,e272,hx272_0,hx272_1,hx272_2⟩:=at_T47 HR0.out x5_1 p272 q272
        obtain rfl:ad271=ad272:=(by injection e272)
        replace p272:=eq_true p272
        replace q272:=eq_true q272
        have p273:0≤(x5_1:Int):=of_decide_eq_true (a4_)
        have q273:x5_1<(l0.length:Int):=of_decide_eq_true (a4_)
        obtain⟨ad273,e273,hx273_0,hx273_1,hx273_2⟩:=at_T47 HR0.out x5_1 p273 q273
        obtain rfl:ad271=ad273:=(by injection e273)
        replace p273:=eq_true p273
        replace q273:=eq_true q273
        go_wp2
        go_ret
        exact⟨a6_,a25_⟩
      ·rw[if_neg c6]at H
       have c6b0:(((rd_T47 l0 x5_1).f1) == (wrap64 (x1_1+1)))=false:=beq_eq_false_iff_ne.mpr c6
       have c6b1:(((rd_T47 l0 x5_1).f1) != (wrap64 (x1_1+1)))=true:=bne_iff_ne.mpr c6
       obtain rfl:=Option.some.inj H
       have p271:0≤(x5_1:Int):=of_decide_eq_true (a4_)
       have q271:x5_1<(l0.length:Int):=of_decide_eq_true (a4_)
       obtain⟨ad271,e271,hx271_0,hx271_1,hx271_2⟩:=at_T47 HR0.out x5_1 p271 q271
       cases e271
       replace p271:=eq_true p271
       replace q271:=eq_true q271
       have p272:0≤(x5_1:Int):=of_decide_eq_true (a4_)
       have q272:x5_1<(l0.length:Int):=of_decide_eq_true (a4_)
       obtain⟨ad272,e272,hx272_0,hx272_1,hx272_2⟩:=at_T47 HR0.out x5_1 p272 q272
       obtain rfl:ad271=ad272:=(by injection e272)
       replace p272:=eq_true p272
       replace q272:=eq_true q272
       go_wp2
       go_ret
       exact⟨a6_,a25_⟩
     ·rw[if_neg c5]at H
      have c5b0:(((rd_T47 l0 x5_1).f0) == x1_1)=false:=beq_eq_false_iff_ne.mpr c5
      have c5b1:(((rd_T47 l0 x5_1).f0) != x1_1)=true:=bne_iff_ne.mpr c5
      obtain rfl:=Option.some.inj H
      have p271:0≤(x5_1:Int):=of_decide_eq_true (a4_)
      have q271:x5_1<(l0.length:Int):=of_decide_eq_true (a4_)
      obtain⟨ad271,e271,hx271_0,hx271_1,hx271_2⟩:=at_T47 HR0.out x5_1 p271 q271
      cases e271
      replace p271:=eq_true p271
      replace q271:=eq_true q271
      go_wp2
      go_ret
      exact⟨a6_,a25_⟩
    ·rw[if_neg c4]at H
     exact absurd H (by simp)
   ·rw[if_neg c3]at H
    have c3b0:decide (x5_1<(l0.length:Int))=false:=decide_eq_false c3
    clear c3
    obtain rfl:=Option.some.inj H
    go_wp2
    go_ret
    exact⟨a6_,a25_⟩

/-! ### laws_FnExactMakeEdition: function 3 -/
mutual
def laws_FnExactMakeEdition.j0:Nat→List (List (S65))→List (S52)→List (S47)→Bool→List (List (S47))→List (S44)→List (S47)→Bool→Bool→Option (Bool)
 | 0,_,_,_,_,_,_,_,_,_=>none
 | k+1,x0,x1,x6,x7,x8,x9,x10,x11,x53=>if x53=true then(some false) else((laws_toHoleSS.f k x0).bind fun t297=>((laws_eqHoleSS.f k x8 t297).bind fun t300=>(if t300=true then((laws_toPartS.f k x1).bind fun t301=>((laws_eqPartS.f k x9 t301).bind fun t304=>(if t304=true then((laws_markHoleSS.f k x8 1).bind fun bt305=>((laws_markPartS.f k x9 bt305.1).bind fun bt307=>(if bt307.1<0 then(laws_FnExactMakeEdition.j1 k x0 x1 x6 x7 x10 true) else((laws_eqHoleS.f k x10 x6).bind fun t309=>(if t309=true then(laws_FnExactMakeEdition.j1 k x0 x1 x6 x7 x10 (x11 != x7)) else(laws_FnExactMakeEdition.j1 k x0 x1 x6 x7 x10 true)))))) else(some false)))) else(some false))))
def laws_FnExactMakeEdition.j1:Nat→List (List (S65))→List (S52)→List (S47)→Bool→List (S47)→Bool→Option (Bool)
 | 0,_,_,_,_,_,_=>none
 | k+1,x0,x1,x6,x7,x10,x82=>if x82=true then(some false) else((laws_markHoleS.f k x10 1).bind fun bt310=>((laws_heldHoleS.f k bt310.2 1).bind fun t312=>(if t312<0 then(some false) else(if t312=bt310.1 then((laws_toHoleSS.f k x0).bind fun t313=>((laws_toPartS.f k x1).bind fun t316=>((impl_MakeEdition.f k t313 t316).bind fun bt319=>((laws_eqHoleS.f k bt319.1 x6).bind fun t323=>(if t323=true then(laws_FnExactMakeEdition.j2 k bt310.2 bt310.1 (bt319.2 != x7)) else(laws_FnExactMakeEdition.j2 k bt310.2 bt310.1 true)))))) else(some false)))))
def laws_FnExactMakeEdition.j2:Nat→List (S47)→Int→Bool→Option (Bool)
 | 0,_,_,_=>none
 | k+1,x10,x13,x110=>if x110=true then(some false) else((laws_heldHoleS.f k x10 1).bind fun t324=>(if t324<0 then(some false) else(if t324=x13 then(some true) else(some false))))
end
def laws_FnExactMakeEdition.f (k:Nat) (l0:List (List (S65))) (l1:List (S52)):Option (Bool):=(laws_szHoleSS.f k l0 1048576).bind fun t274=>(if t274<0 then(some true) else((laws_szPartS.f l1 t274).bind fun t275=>(if t275<0 then(some true) else((laws_toHoleSS.f k l0).bind fun t276=>((laws_toPartS.f k l1).bind fun t279=>((spec_MakeEdition.f k t276 t279).bind fun bt282=>((laws_toHoleSS.f k l0).bind fun t286=>((laws_toPartS.f k l1).bind fun t289=>((impl_MakeEdition.f k t286 t289).bind fun bt292=>((laws_eqHoleS.f k bt292.1 bt282.1).bind fun t296=>(if t296=true then(laws_FnExactMakeEdition.j0 k l0 l1 bt282.1 bt282.2 t286 t289 bt292.1 bt292.2 (bt292.2 != bt282.2)) else(laws_FnExactMakeEdition.j0 k l0 l1 bt282.1 bt282.2 t286 t289 bt292.1 bt292.2 true))))))))))))
theorem laws_FnExactMakeEdition.mono_l:∀k,(∀y0 y1 y2 y3 y4 y5 y6 y7 y8,LeO (laws_FnExactMakeEdition.j0 k y0 y1 y2 y3 y4 y5 y6 y7 y8) (laws_FnExactMakeEdition.j0 (k+1) y0 y1 y2 y3 y4 y5 y6 y7 y8))∧(∀y0 y1 y2 y3 y4 y5,LeO (laws_FnExactMakeEdition.j1 k y0 y1 y2 y3 y4 y5) (laws_FnExactMakeEdition.j1 (k+1) y0 y1 y2 y3 y4 y5))∧(∀y0 y1 y2,LeO (laws_FnExactMakeEdition.j2 k y0 y1 y2) (laws_FnExactMakeEdition.j2 (k+1) y0 y1 y2))
 | 0=>⟨fun _ _ _ _ _ _ _ _ _ r h=>by simp[laws_FnExactMakeEdition.j0]at h,fun _ _ _ _ _ _ r h=>by simp[laws_FnExactMakeEdition.j1]at h,fun _ _ _ r h=>by simp[laws_FnExactMakeEdition.j2]at h⟩
 | k+1=>by
  obtain⟨ih0,ih1,ih2⟩:=laws_FnExactMakeEdition.mono_l k
  refine⟨?_,?_,?_⟩
  ·intro y0 y1 y2 y3 y4 y5 y6 y7 y8
   unfold laws_FnExactMakeEdition.j0
   repeat' first
   | (with_reducible exact ih0 _ _ _ _ _ _ _ _ _)
   | (with_reducible exact ih1 _ _ _ _ _ _)
   | (with_reducible exact ih2 _ _ _)
   | (with_reducible exact impl_MakeEdition.mono _ _ _)
   | (with_reducible exact laws_eqHoleS.mono _ _ _)
   | (with_reducible exact laws_eqHoleSS.mono _ _ _)
   | (with_reducible exact laws_eqPartS.mono _ _ _)
   | (with_reducible exact laws_heldHoleS.mono _ _ _)
   | (with_reducible exact laws_markHoleS.mono _ _ _)
   | (with_reducible exact laws_markHoleSS.mono _ _ _)
   | (with_reducible exact laws_markPartS.mono _ _ _)
   | (with_reducible exact laws_szHoleSS.mono _ _ _)
   | (with_reducible exact laws_toHoleSS.mono _ _)
   | (with_reducible exact laws_toPartS.mono _ _)
   | (with_reducible exact spec_MakeEdition.mono _ _ _)
   | (with_reducible exact LeO.refl _)
   | (with_reducible exact LeO.none _)
   | (with_reducible refine LeO.ite ?_ ?_)
   | (with_reducible refine LeO.bind ?_ (fun _=>?_))
   | exact ih0 _ _ _ _ _ _ _ _ _
   | exact ih1 _ _ _ _ _ _
   | exact ih2 _ _ _
   | exact impl_MakeEdition.mono _ _ _
   | exact laws_eqHoleS.mono _ _ _
   | exact laws_eqHoleSS.mono _ _ _
   | exact laws_eqPartS.mono _ _ _
   | exact laws_heldHoleS.mono _ _ _
   | exact laws_markHoleS.mono _ _ _
   | exact laws_markHoleSS.mono _ _ _
   | exact laws_markPartS.mono _ _ _
   | exact laws_szHoleSS.mono _ _ _
   | exact laws_toHoleSS.mono _ _
   | exact laws_toPartS.mono _ _
   | exact spec_MakeEdition.mono _ _ _
   | exact LeO.none _
   | refine LeO.ite ?_ ?_
   | refine LeO.bind ?_ (fun _=>?_)
  ·intro y0 y1 y2 y3 y4 y5
   unfold laws_FnExactMakeEdition.j1
   repeat' first
   | (with_reducible exact ih0 _ _ _ _ _ _ _ _ _)
   | (with_reducible exact ih1 _ _ _ _ _ _)
   | (with_reducible exact ih2 _ _ _)
   | (with_reducible exact impl_MakeEdition.mono _ _ _)
   | (with_reducible exact laws_eqHoleS.mono _ _ _)
   | (with_reducible exact laws_eqHoleSS.mono _ _ _)
   | (with_reducible exact laws_eqPartS.mono _ _ _)
   | (with_reducible exact laws_heldHoleS.mono _ _ _)
   | (with_reducible exact laws_markHoleS.mono _ _ _)
   | (with_reducible exact laws_markHoleSS.mono _ _ _)
   | (with_reducible exact laws_markPartS.mono _ _ _)
   | (with_reducible exact laws_szHoleSS.mono _ _ _)
   | (with_reducible exact laws_toHoleSS.mono _ _)
   | (with_reducible exact laws_toPartS.mono _ _)
   | (with_reducible exact spec_MakeEdition.mono _ _ _)
   | (with_reducible exact LeO.refl _)
   | (with_reducible exact LeO.none _)
   | (with_reducible refine LeO.ite ?_ ?_)
   | (with_reducible refine LeO.bind ?_ (fun _=>?_))
   | exact ih0 _ _ _ _ _ _ _ _ _
   | exact ih1 _ _ _ _ _ _
   | exact ih2 _ _ _
   | exact impl_MakeEdition.mono _ _ _
   | exact laws_eqHoleS.mono _ _ _
   | exact laws_eqHoleSS.mono _ _ _
   | exact laws_eqPartS.mono _ _ _
   | exact laws_heldHoleS.mono _ _ _
   | exact laws_markHoleS.mono _ _ _
   | exact laws_markHoleSS.mono _ _ _
   | exact laws_markPartS.mono _ _ _
   | exact laws_szHoleSS.mono _ _ _
   | exact laws_toHoleSS.mono _ _
   | exact laws_toPartS.mono _ _
   | exact spec_MakeEdition.mono _ _ _
   | exact LeO.none _
   | refine LeO.ite ?_ ?_
   | refine LeO.bind ?_ (fun _=>?_)
  ·intro y0 y1 y2
   unfold laws_FnExactMakeEdition.j2
   repeat' first
   | (with_reducible exact ih0 _ _ _ _ _ _ _ _ _)
   | (with_reducible exact ih1 _ _ _ _ _ _)
   | (with_reducible exact ih2 _ _ _)
   | (with_reducible exact impl_MakeEdition.mono _ _ _)
   | (with_reducible exact laws_eqHoleS.mono _ _ _)
   | (with_reducible exact laws_eqHoleSS.mono _ _ _)
   | (with_reducible exact laws_eqPartS.mono _ _ _)
   | (with_reducible exact laws_heldHoleS.mono _ _ _)
   | (with_reducible exact laws_markHoleS.mono _ _ _)
   | (with_reducible exact laws_markHoleSS.mono _ _ _)
   | (with_reducible exact laws_markPartS.mono _ _ _)
   | (with_reducible exact laws_szHoleSS.mono _ _ _)
   | (with_reducible exact laws_toHoleSS.mono _ _)
   | (with_reducible exact laws_toPartS.mono _ _)
   | (with_reducible exact spec_MakeEdition.mono _ _ _)
   | (with_reducible exact LeO.refl _)
   | (with_reducible exact LeO.none _)
   | (with_reducible refine LeO.ite ?_ ?_)
   | (with_reducible refine LeO.bind ?_ (fun _=>?_))
   | exact ih0 _ _ _ _ _ _ _ _ _
   | exact ih1 _ _ _ _ _ _
   | exact ih2 _ _ _
   | exact impl_MakeEdition.mono _ _ _
   | exact laws_eqHoleS.mono _ _ _
   | exact laws_eqHoleSS.mono _ _ _
   | exact laws_eqPartS.mono _ _ _
   | exact laws_heldHoleS.mono _ _ _
   | exact laws_markHoleS.mono _ _ _
   | exact laws_markHoleSS.mono _ _ _
   | exact laws_markPartS.mono _ _ _
   | exact laws_szHoleSS.mono _ _ _
   | exact laws_toHoleSS.mono _ _
   | exact laws_toPartS.mono _ _
   | exact spec_MakeEdition.mono _ _ _
   | exact LeO.none _
   | refine LeO.ite ?_ ?_
   | refine LeO.bind ?_ (fun _=>?_)
theorem laws_FnExactMakeEdition.mono:∀a0 a1 k,LeO (laws_FnExactMakeEdition.f k a0 a1) (laws_FnExactMakeEdition.f (k+1) a0 a1):=by
 intro a0 a1 k
 obtain⟨ih0,ih1,ih2⟩:=laws_FnExactMakeEdition.mono_l k
 unfold laws_FnExactMakeEdition.f
 repeat' first
  | (with_reducible exact ih0 _ _ _ _ _ _ _ _ _)
  | (with_reducible exact ih1 _ _ _ _ _ _)
  | (with_reducible exact ih2 _ _ _)
  | (with_reducible exact impl_MakeEdition.mono _ _ _)
  | (with_reducible exact laws_eqHoleS.mono _ _ _)
  | (with_reducible exact laws_eqHoleSS.mono _ _ _)
  | (with_reducible exact laws_eqPartS.mono _ _ _)
  | (with_reducible exact laws_heldHoleS.mono _ _ _)
  | (with_reducible exact laws_markHoleS.mono _ _ _)
  | (with_reducible exact laws_markHoleSS.mono _ _ _)
  | (with_reducible exact laws_markPartS.mono _ _ _)
  | (with_reducible exact laws_szHoleSS.mono _ _ _)
  | (with_reducible exact laws_toHoleSS.mono _ _)
  | (with_reducible exact laws_toPartS.mono _ _)
  | (with_reducible exact spec_MakeEdition.mono _ _ _)
  | (with_reducible exact LeO.refl _)
  | (with_reducible exact LeO.none _)
  | (with_reducible refine LeO.ite ?_ ?_)
  | (with_reducible refine LeO.bind ?_ (fun _=>?_))
  | exact ih0 _ _ _ _ _ _ _ _ _
  | exact ih1 _ _ _ _ _ _
  | exact ih2 _ _ _
  | exact impl_MakeEdition.mono _ _ _
  | exact laws_eqHoleS.mono _ _ _
  | exact laws_eqHoleSS.mono _ _ _
  | exact laws_eqPartS.mono _ _ _
  | exact laws_heldHoleS.mono _ _ _
  | exact laws_markHoleS.mono _ _ _
  | exact laws_markHoleSS.mono _ _ _
  | exact laws_markPartS.mono _ _ _
  | exact laws_szHoleSS.mono _ _ _
  | exact laws_toHoleSS.mono _ _
  | exact laws_toPartS.mono _ _
  | exact spec_MakeEdition.mono _ _ _
  | exact LeO.none _
  | refine LeO.ite ?_ ?_
  | refine LeO.bind ?_ (fun _=>?_)
set_option maxHeartbeats 8000000 in
set_option maxRecDepth 100000 in
theorem laws_FnExactMakeEdition.calls (k:Nat) (A0:Option Addr) (c0:Nat) (l0:List (List (S65))) (A1:Option Addr) (c1:Nat) (l1:List (S52)) (r:Bool) (w:World) (hr0:Kd.C (Kd.slice 65 k65) w A0 l0.length l0) (hc0:l0.length≤c0) (hr1:Kd.C k52 w A1 l1.length l1) (hc1:l1.length≤c1) (h:laws_FnExactMakeEdition.f k l0 l1=some r) :
 Calls Try.prog 3 #[.slice A0 l0.length c0, .slice A1 l1.length c1] w fun e w'=>e = .returned (.bool r)∧Below w.heap.size w w':=by
 have HR0:=am_ hr0
 have HC0:=am_ hc0
 clear hr0 hc0
 have HR1:=am_ hr1
 have HC1:=am_ hc1
 clear hr1 hc1
 have HB:=am_ (Below.refl w.heap.size w)
 have H:((laws_szHoleSS.f k l0 1048576).bind fun t274=>(if t274<0 then(some true) else((laws_szPartS.f l1 t274).bind fun t275=>(if t275<0 then(some true) else((laws_toHoleSS.f k l0).bind fun t276=>((laws_toPartS.f k l1).bind fun t279=>((spec_MakeEdition.f k t276 t279).bind fun bt282=>((laws_toHoleSS.f k l0).bind fun t286=>((laws_toPartS.f k l1).bind fun t289=>((impl_MakeEdition.f k t286 t289).bind fun bt292=>((laws_eqHoleS.f k bt292.1 bt282.1).bind fun t296=>(if t296=true then(laws_FnExactMakeEdition.j0 k l0 l1 bt282.1 bt282.2 t286 t289 bt292.1 bt292.2 (bt292.2 != bt282.2)) else(laws_FnExactMakeEdition.j0 k l0 l1 bt282.1 bt282.2 t286 t289 bt292.1 bt292.2 true)))))))))))))=some r:=h
 clear h
 replace H:=Option.bind_eq_some_iff.mp H
 obtain⟨t274,A30,H⟩:=H
 replace H:(if t274<0 then(some true) else((laws_szPartS.f l1 t274).bind fun t275=>(if t275<0 then(some true) else((laws_toHoleSS.f k l0).bind fun t276=>((laws_toPartS.f k l1).bind fun t279=>((spec_MakeEdition.f k t276 t279).bind fun bt282=>((laws_toHoleSS.f k l0).bind fun t286=>((laws_toPartS.f k l1).bind fun t289=>((impl_MakeEdition.f k t286 t289).bind fun bt292=>((laws_eqHoleS.f k bt292.1 bt282.1).bind fun t296=>(if t296=true then(laws_FnExactMakeEdition.j0 k l0 l1 bt282.1 bt282.2 t286 t289 bt292.1 bt292.2 (bt292.2 != bt282.2)) else(laws_FnExactMakeEdition.j0 k l0 l1 bt282.1 bt282.2 t286 t289 bt292.1 bt292.2 true))))))))))))=some r:=H
 have A3:=am_ A30
 clear A30
 by_cases c4:t274<0
 ·rw[if_pos c4]at H
  have c4b0:decide (t274<0)=true:=decide_eq_true c4
  clear c4
  obtain rfl:=Option.some.inj H
  go_enter Try.func3,Try.ntmps3
  go_wp2_with (first | ((with_reducible refine gate_callee (f:=4) rfl ?_);refine goesL_ (some 19) rfl rfl Try.func4 (by kernel_rfl) rfl #[.slice A0 l0.length c0, .int .i64 1048576] rfl (by(try simp only[List.map_toArray,List.map_cons,List.map_nil]);first | done | rfl | (simp only[List.length_drop,List.length_take];rfl)) ?_;(with_reducible refine(laws_szHoleSS.calls k _ _ l0 1048576 t274 _ ?side1 ?side2 A3.out).mono ?_);(case side1=>exact(a18_ HR0.out));(case side2=>exact HC0.out);rintro e w' ⟨rfl,⟨nd,rfl⟩⟩;refine⟨_,rfl,?_⟩))
  go_ret
  exact⟨a5_,a0_⟩
 ·rw[if_neg c4]at H
  have c4b0:decide (t274<0)=false:=decide_eq_false c4
  clear c4
  replace H:=Option.bind_eq_some_iff.mp H
  obtain⟨t275,A50,H⟩:=H
  replace H:(if t275<0 then(some true) else((laws_toHoleSS.f k l0).bind fun t276=>((laws_toPartS.f k l1).bind fun t279=>((spec_MakeEdition.f k t276 t279).bind fun bt282=>((laws_toHoleSS.f k l0).bind fun t286=>((laws_toPartS.f k l1).bind fun t289=>((impl_MakeEdition.f k t286 t289).bind fun bt292=>((laws_eqHoleS.f k bt292.1 bt282.1).bind fun t296=>(if t296=true then(laws_FnExactMakeEdition.j0 k l0 l1 bt282.1 bt282.2 t286 t289 bt292.1 bt292.2 (bt292.2 != bt282.2)) else(laws_FnExactMakeEdition.j0 k l0 l1 bt282.1 bt282.2 t286 t289 bt292.1 bt292.2 true))))))))))=some r:=H
  have A5:=am_ A50
  clear A50
  by_cases c6:t275<0
  ·rw[if_pos c6]at H
   have c6b0:decide (t275<0)=true:=decide_eq_true c6
   clear c6
   obtain rfl:=Option.some.inj H
   go_enter Try.func3,Try.ntmps3
   go_wp2_with (first | ((with_reducible refine gate_callee (f:=4) rfl ?_);refine goesL_ (some 19) rfl rfl Try.func4 (by kernel_rfl) rfl #[.slice A0 l0.length c0, .int .i64 1048576] rfl (by(try simp only[List.map_toArray,List.map_cons,List.map_nil]);first | done | rfl | (simp only[List.length_drop,List.length_take];rfl)) ?_;(with_reducible refine(laws_szHoleSS.calls k _ _ l0 1048576 t274 _ ?side1 ?side2 A3.out).mono ?_);(case side1=>exact(a18_ HR0.out));(case side2=>exact HC0.out);rintro e w' ⟨rfl,⟨nd,rfl⟩⟩;refine⟨_,rfl,?_⟩) | ((with_reducible refine gate_callee (f:=5) rfl ?_);refine goesL_ (some 24) rfl rfl Try.func5 (by kernel_rfl) rfl #[.slice A1 l1.length c1, .int .i64 t274] rfl (by(try simp only[List.map_toArray,List.map_cons,List.map_nil]);first | done | rfl | (simp only[List.length_drop,List.length_take];rfl)) ?_;(with_reducible refine(laws_szPartS.calls _ _ l1 t274 t275 _ ?side1 ?side2 A5.out).mono ?_);(case side1=>exact(a18_ HR1.out));(case side2=>exact HC1.out);rintro e w' ⟨rfl,⟨nd,rfl⟩⟩;refine⟨_,rfl,?_⟩))
   go_ret
   exact⟨a5_,a0_⟩
  ·rw[if_neg c6]at H
   have c6b0:decide (t275<0)=false:=decide_eq_false c6
   clear c6
   replace H:=Option.bind_eq_some_iff.mp H
   obtain⟨t276,A70,H⟩:=H
   replace H:((laws_toPartS.f k l1).bind fun t279=>((spec_MakeEdition.f k t276 t279).bind fun bt282=>((laws_toHoleSS.f k l0).bind fun t286=>((laws_toPartS.f k l1).bind fun t289=>((impl_MakeEdition.f k t286 t289).bind fun bt292=>((laws_eqHoleS.f k bt292.1 bt282.1).bind fun t296=>(if t296=true then(laws_FnExactMakeEdition.j0 k l0 l1 bt282.1 bt282.2 t286 t289 bt292.1 bt292.2 (bt292.2 != bt282.2)) else(laws_FnExactMakeEdition.j0 k l0 l1 bt282.1 bt282.2 t286 t289 bt292.1 bt292.2 true))))))))=some r:=H
   have A7:=am_ A70
   clear A70
   replace H:=Option.bind_eq_some_iff.mp H
   obtain⟨t279,A80,H⟩:=H
   replace H:((spec_MakeEdition.f k t276 t279).bind fun bt282=>((laws_toHoleSS.f k l0).bind fun t286=>((laws_toPartS.f k l1).bind fun t289=>((impl_MakeEdition.f k t286 t289).bind fun bt292=>((laws_eqHoleS.f k bt292.1 bt282.1).bind fun t296=>(if t296=true then(laws_FnExactMakeEdition.j0 k l0 l1 bt282.1 bt282.2 t286 t289 bt292.1 bt292.2 (bt292.2 != bt282.2)) else(laws_FnExactMakeEdition.j0 k l0 l1 bt282.1 bt282.2 t286 t289 bt292.1 bt292.2 true)))))))=some r:=H
   have A8:=am_ A80
   clear A80
   replace H:=Option.bind_eq_some_iff.mp H
   obtain⟨⟨t282,t283⟩,A90,H⟩:=H
   replace H:((laws_toHoleSS.f k l0).bind fun t286=>((laws_toPartS.f k l1).bind fun t289=>((impl_MakeEdition.f k t286 t289).bind fun bt292=>((laws_eqHoleS.f k bt292.1 t282).bind fun t296=>(if t296=true then(laws_FnExactMakeEdition.j0 k l0 l1 t282 t283 t286 t289 bt292.1 bt292.2 (bt292.2 != t283)) else(laws_FnExactMakeEdition.j0 k l0 l1 t282 t283 t286 t289 bt292.1 bt292.2 true))))))=some r:=H
   have A9:=am_ A90
   clear A90
   replace H:=Option.bind_eq_some_iff.mp H
   obtain⟨t286,A100,H⟩:=H
   replace H:((laws_toPartS.f k l1).bind fun t289=>((impl_MakeEdition.f k t286 t289).bind fun bt292=>((laws_eqHoleS.f k bt292.1 t282).bind fun t296=>(if t296=true then(laws_FnExactMakeEdition.j0 k l0 l1 t282 t283 t286 t289 bt292.1 bt292.2 (bt292.2 != t283)) else(laws_FnExactMakeEdition.j0 k l0 l1 t282 t283 t286 t289 bt292.1 bt292.2 true)))))=some r:=H
   have A10:=am_ A100
   clear A100
   replace H:=Option.bind_eq_some_iff.mp H
   obtain⟨t289,A110,H⟩:=H
   replace H:((impl_MakeEdition.f k t286 t289).bind fun bt292=>((laws_eqHoleS.f k bt292.1 t282).bind fun t296=>(if t296=true then(laws_FnExactMakeEdition.j0 k l0 l1 t282 t283 t286 t289 bt292.1 bt292.2 (bt292.2 != t283)) else(laws_FnExactMakeEdition.j0 k l0 l1 t282 t283 t286 t289 bt292.1 bt292.2 true))))=some r:=H
   have A11:=am_ A110
   clear A110
   replace H:=Option.bind_eq_some_iff.mp H
   obtain⟨⟨t292,t293⟩,A120,H⟩:=H
   replace H:((laws_eqHoleS.f k t292 t282).bind fun t296=>(if t296=true then(laws_FnExactMakeEdition.j0 k l0 l1 t282 t283 t286 t289 t292 t293 (t293 != t283)) else(laws_FnExactMakeEdition.j0 k l0 l1 t282 t283 t286 t289 t292 t293 true)))=some r:=H
   have A12:=am_ A120
   clear A120
   have HC13:=am_ H
   clear H
   go_enter Try.func3,Try.ntmps3
   go_upto_region 12 with (first | ((with_reducible refine gate_callee (f:=4) rfl ?_);refine goesL_ (some 19) rfl rfl Try.func4 (by kernel_rfl) rfl #[.slice A0 l0.length c0, .int .i64 1048576] rfl (by(try simp only[List.map_toArray,List.map_cons,List.map_nil]);first | done | rfl | (simp only[List.length_drop,List.length_take];rfl)) ?_;(with_reducible refine(laws_szHoleSS.calls k _ _ l0 1048576 t274 _ ?side1 ?side2 A3.out).mono ?_);(case side1=>exact(a18_ HR0.out));(case side2=>exact HC0.out);rintro e w' ⟨rfl,⟨nd,rfl⟩⟩;refine⟨_,rfl,?_⟩) | ((with_reducible refine gate_callee (f:=5) rfl ?_);refine goesL_ (some 24) rfl rfl Try.func5 (by kernel_rfl) rfl #[.slice A1 l1.length c1, .int .i64 t274] rfl (by(try simp only[List.map_toArray,List.map_cons,List.map_nil]);first | done | rfl | (simp only[List.length_drop,List.length_take];rfl)) ?_;(with_reducible refine(laws_szPartS.calls _ _ l1 t274 t275 _ ?side1 ?side2 A5.out).mono ?_);(case side1=>exact(a18_ HR1.out));(case side2=>exact HC1.out);rintro e w' ⟨rfl,⟨nd,rfl⟩⟩;refine⟨_,rfl,?_⟩) | ((with_reducible refine gate_callee (f:=7) rfl ?_);refine goesL_ (some 29) rfl rfl Try.func7 (by kernel_rfl) rfl #[.slice A0 l0.length c0] rfl (by(try simp only[List.map_toArray,List.map_cons,List.map_nil]);first | done | rfl | (simp only[List.length_drop,List.length_take];rfl)) ?_;(with_reducible refine(laws_toHoleSS.calls k _ _ l0 t276 _ ?side1 ?side2 A7.out).mono ?_);(case side1=>exact(a18_ HR0.out));(case side2=>exact HC0.out);rintro e w14 ⟨v277,rfl,ho0,hb⟩;refine⟨_,rfl,?_⟩;have HO278:=am_ (Kd.S_lower ho0 (below_size (a0_)));replace HB:=am_ (below_step (a0_) hb);(try clear hb);(try clear hb2);(try clear hk);(try clear hi);(try clear ho0)) | ((with_reducible refine gate_callee (f:=8) rfl ?_);refine goesL_ (some 31) rfl rfl Try.func8 (by kernel_rfl) rfl #[.slice A1 l1.length c1] rfl (by(try simp only[List.map_toArray,List.map_cons,List.map_nil]);first | done | rfl | (simp only[List.length_drop,List.length_take];rfl)) ?_;(with_reducible refine(laws_toPartS.calls k _ _ l1 t279 _ ?side1 ?side2 A8.out).mono ?_);(case side1=>exact(a11_ HR1.out));(case side2=>exact HC1.out);rintro e w15 ⟨v280,rfl,ho0,hb⟩;refine⟨_,rfl,?_⟩;replace HO278:=am_ (Kd.S_below ((a10_ HO278.out)) hb);have HO281:=am_ (Kd.R_lower ho0 (below_size (a0_)));replace HB:=am_ (below_step (a0_) hb);(try clear hb);(try clear hb2);(try clear hk);(try clear hi);(try clear ho0);obtain⟨Ao16,co16,eo16⟩:=Kd.S_slice HO278.out;subst eo16;obtain⟨Ao17,co17,eo17⟩:=Kd.R_slice HO281.out;subst eo17) | ((with_reducible refine gate_callee (f:=6) rfl ?_);refine goesL_ (some 32) rfl rfl Try.func6 (by kernel_rfl) rfl #[.slice Ao16 t276.length co16, .slice Ao17 t279.length co17] rfl (by(try simp only[List.map_toArray,List.map_cons,List.map_nil]);first | done | rfl | (simp only[List.length_drop,List.length_take];rfl)) ?_;(with_reducible refine(spec_MakeEdition.calls k _ _ t276 _ _ t279 t282 t283 _ ?side1 ?side2 ?side3 ?side4 A9.out).mono ?_);(case side1=>exact(a19_ HO278.out));(case side2=>exact(Kd.S_reads' HO278.out).2.1);(case side3=>exact(a9_ HO281.out));(case side4=>exact(Kd.R_reads' HO281.out).2.1);rintro e w18 ⟨v284,rfl,ho0,hb⟩;refine⟨_,rfl,?_⟩;replace HO278:=am_ (Kd.S_elder' ((a10_ HO278.out)) (Kd.R_base ho0) hb);replace HO281:=am_ (Kd.R_below ((a2_ HO281.out)) hb);have HO285:=am_ (Kd.R_lower ho0 (below_size (a0_)));replace HB:=am_ (below_step (a0_) hb);(try clear hb);(try clear hb2);(try clear hk);(try clear hi);(try clear ho0)) | ((with_reducible refine gate_callee (f:=7) rfl ?_);refine goesL_ (some 36) rfl rfl Try.func7 (by kernel_rfl) rfl #[.slice A0 l0.length c0] rfl (by(try simp only[List.map_toArray,List.map_cons,List.map_nil]);first | done | rfl | (simp only[List.length_drop,List.length_take];rfl)) ?_;(with_reducible refine(laws_toHoleSS.calls k _ _ l0 t286 _ ?side1 ?side2 A10.out).mono ?_);(case side1=>exact(a11_ HR0.out));(case side2=>exact HC0.out);rintro e w19 ⟨v287,rfl,ho0,hb⟩;refine⟨_,rfl,?_⟩;replace HO281:=am_ (Kd.R_below ((a2_ HO281.out)) hb);have HO288:=am_ (Kd.S_lower (Kd.S_new' (Kd.S_new' ho0 (Kd.S_lt ((a10_ HO278.out)))) (Kd.R_lt ((a2_ HO285.out)))) (below_size (a0_)));replace HO278:=am_ (Kd.S_elder' ((a10_ HO278.out)) (Kd.S_base ho0) hb);replace HO285:=am_ (Kd.R_below ((a2_ HO285.out)) hb);replace HB:=am_ (below_step (a0_) hb);(try clear hb);(try clear hb2);(try clear hk);(try clear hi);(try clear ho0)) | ((with_reducible refine gate_callee (f:=8) rfl ?_);refine goesL_ (some 38) rfl rfl Try.func8 (by kernel_rfl) rfl #[.slice A1 l1.length c1] rfl (by(try simp only[List.map_toArray,List.map_cons,List.map_nil]);first | done | rfl | (simp only[List.length_drop,List.length_take];rfl)) ?_;(with_reducible refine(laws_toPartS.calls k _ _ l1 t289 _ ?side1 ?side2 A11.out).mono ?_);(case side1=>exact(a11_ HR1.out));(case side2=>exact HC1.out);rintro e w20 ⟨v290,rfl,ho0,hb⟩;refine⟨_,rfl,?_⟩;replace HO278:=am_ (Kd.S_below ((a10_ HO278.out)) hb);replace HO285:=am_ (Kd.R_below ((a2_ HO285.out)) hb);replace HO288:=am_ (Kd.S_below ((a10_ HO288.out)) hb);have HO291:=am_ (Kd.R_lower (Kd.R_new' ho0 (Kd.R_lt ((a2_ HO281.out)))) (below_size (a0_)));replace HO281:=am_ (Kd.R_elder' ((a2_ HO281.out)) (Kd.R_base ho0) hb);replace HB:=am_ (below_step (a0_) hb);(try clear hb);(try clear hb2);(try clear hk);(try clear hi);(try clear ho0);obtain⟨Ao21,co21,eo21⟩:=Kd.S_slice HO288.out;subst eo21;obtain⟨Ao22,co22,eo22⟩:=Kd.R_slice HO291.out;subst eo22) | ((with_reducible refine gate_callee (f:=9) rfl ?_);refine goesL_ (some 42) rfl rfl Try.func9 (by kernel_rfl) rfl #[.slice Ao21 t286.length co21, .slice Ao22 t289.length co22] rfl (by(try simp only[List.map_toArray,List.map_cons,List.map_nil]);first | done | rfl | (simp only[List.length_drop,List.length_take];rfl)) ?_;(with_reducible refine(impl_MakeEdition.calls k _ _ t286 _ _ t289 t292 t293 _ ?side1 ?side2 ?side3 ?side4 A12.out).mono ?_);(case side1=>exact(a19_ HO288.out));(case side2=>exact(Kd.S_reads' HO288.out).2.1);(case side3=>exact(a9_ HO291.out));(case side4=>exact(Kd.R_reads' HO291.out).2.1);rintro e w23 ⟨v294,rfl,ho0,hb⟩;refine⟨_,rfl,?_⟩;replace HO278:=am_ (Kd.S_elder' ((a10_ HO278.out)) (Kd.R_base ho0) hb);replace HO281:=am_ (Kd.R_below ((a2_ HO281.out)) hb);replace HO288:=am_ (Kd.S_elder' ((a10_ HO288.out)) (Kd.R_base ho0) hb);replace HO291:=am_ (Kd.R_below ((a2_ HO291.out)) hb);have HO295:=am_ (Kd.R_lower (Kd.R_new' ho0 (Kd.R_lt ((a2_ HO285.out)))) (below_size (a0_)));replace HO285:=am_ (Kd.R_elder' ((a2_ HO285.out)) (Kd.R_base ho0) hb);replace HB:=am_ (below_step (a0_) hb);(try clear hb);(try clear hb2);(try clear hk);(try clear hi);(try clear ho0)))
   (try simp only[Act.put,List.setIfInBounds_toArray,List.set_cons_zero,List.set_cons_succ])
   go_cut [53] (fun v53 wc=>∃(kq:Nat) (x53_12:Bool),v53 = .bool x53_12∧Aside0 (laws_FnExactMakeEdition.j0 kq l0 l1 t282 t283 t286 t289 t292 t293 x53_12=some r)∧Aside0 (kq≤k)∧Aside0 (Kd.R k47 47 wc w.heap.size (fun k_=>some k_≠(v294:Value).ownBlock) v284 t282)∧Aside0 (Kd.S (Kd.slice 47 k47) 26 wc w.heap.size (fun k_=>some k_≠(v284:Value).ownBlock∧some k_≠(v294:Value).ownBlock) (.slice Ao21 t286.length co21) t286)∧Aside0 (Kd.R k44 44 wc w.heap.size (fun _=>True) (.slice Ao22 t289.length co22) t289)∧Aside0 (Kd.R k47 47 wc w.heap.size (fun k_=>some k_≠(v284:Value).ownBlock) v294 t292)∧Aside0 (Below w.heap.size w wc))
   case first=>
    have H:=HC13.out
    clear HC13
    replace H:=Option.bind_eq_some_iff.mp H
    obtain⟨t296,A240,H⟩:=H
    replace H:(if t296=true then(laws_FnExactMakeEdition.j0 k l0 l1 t282 t283 t286 t289 t292 t293 (t293 != t283)) else(laws_FnExactMakeEdition.j0 k l0 l1 t282 t283 t286 t289 t292 t293 true))=some r:=H
    have A24:=am_ A240
    clear A240
    by_cases c25:t296=true
    ·subst c25
     replace H:(laws_FnExactMakeEdition.j0 k l0 l1 t282 t283 t286 t289 t292 t293 (t293 != t283))=some r:=by rw[if_pos rfl]at H;exact H
     have H':=am_ H
     clear H
     obtain⟨Ao26,co26,eo26⟩:=Kd.R_slice HO295.out
     subst eo26
     obtain⟨Ao27,co27,eo27⟩:=Kd.R_slice HO285.out
     subst eo27
     go_wp2_with (first | ((with_reducible refine gate_callee (f:=10) rfl ?_);refine goesL_ (some 47) rfl rfl Try.func10 (by kernel_rfl) rfl #[.slice Ao26 t292.length co26, .slice Ao27 t282.length co27] rfl (by(try simp only[List.map_toArray,List.map_cons,List.map_nil]);first | done | rfl | (simp only[List.length_drop,List.length_take];rfl)) ?_;(with_reducible refine(laws_eqHoleS.calls k _ _ t292 _ _ t282 true _ ?side1 ?side2 ?side3 ?side4 A24.out).mono ?_);(case side1=>exact(a9_ HO295.out));(case side2=>exact(Kd.R_reads' HO295.out).2.1);(case side3=>exact(a9_ HO285.out));(case side4=>exact(Kd.R_reads' HO285.out).2.1);rintro e w28 ⟨rfl,hb⟩;refine⟨_,rfl,?_⟩;replace HO278:=am_ (Kd.S_below ((a10_ HO278.out)) hb);replace HO281:=am_ (Kd.R_below ((a2_ HO281.out)) hb);replace HO285:=am_ (Kd.R_below ((a2_ HO285.out)) hb);replace HO288:=am_ (Kd.S_below ((a10_ HO288.out)) hb);replace HO291:=am_ (Kd.R_below ((a2_ HO291.out)) hb);replace HO295:=am_ (Kd.R_below ((a2_ HO295.out)) hb);replace HB:=am_ (below_step (a0_) hb);(try clear hb);(try clear hb2);(try clear hk);(try clear hi)))
     go_meet
     case rel=>exact⟨_,((t293 != t283)),(a6_),H',⟨by first | omega | exact Nat.le_refl _⟩,⟨(a32_ HO285.out)⟩,⟨by(with_reducible repeat (first | apply Kd.S_alloc | apply Kd.S_drewN | apply Kd.S_drew));exact Kd.S_mono HO288.out (fun _ hk=>⟨hk.1.2,hk.2⟩)⟩,⟨(a26_ HO291.out)⟩,⟨(a32_ HO295.out)⟩,⟨a0_⟩⟩
    ·replace c25:=Bool.eq_false_iff.mpr c25
     subst c25
     replace H:(laws_FnExactMakeEdition.j0 k l0 l1 t282 t283 t286 t289 t292 t293 true)=some r:=by rw[if_neg (show ¬(false=true) by decide)]at H;exact H
     have H':=am_ H
     clear H
     obtain⟨Ao29,co29,eo29⟩:=Kd.R_slice HO295.out
     subst eo29
     obtain⟨Ao30,co30,eo30⟩:=Kd.R_slice HO285.out
     subst eo30
     go_wp2_with (first | ((with_reducible refine gate_callee (f:=10) rfl ?_);refine goesL_ (some 47) rfl rfl Try.func10 (by kernel_rfl) rfl #[.slice Ao29 t292.length co29, .slice Ao30 t282.length co30] rfl (by(try simp only[List.map_toArray,List.map_cons,List.map_nil]);first | done | rfl | (simp only[List.length_drop,List.length_take];rfl)) ?_;(with_reducible refine(laws_eqHoleS.calls k _ _ t292 _ _ t282 false _ ?side1 ?side2 ?side3 ?side4 A24.out).mono ?_);(case side1=>exact(a9_ HO295.out));(case side2=>exact(Kd.R_reads' HO295.out).2.1);(case side3=>exact(a9_ HO285.out));(case side4=>exact(Kd.R_reads' HO285.out).2.1);rintro e w31 ⟨rfl,hb⟩;refine⟨_,rfl,?_⟩;replace HO278:=am_ (Kd.S_below ((a10_ HO278.out)) hb);replace HO281:=am_ (Kd.R_below ((a2_ HO281.out)) hb);replace HO285:=am_ (Kd.R_below ((a2_ HO285.out)) hb);replace HO288:=am_ (Kd.S_below ((a10_ HO288.out)) hb);replace HO291:=am_ (Kd.R_below ((a2_ HO291.out)) hb);replace HO295:=am_ (Kd.R_below ((a2_ HO295.out)) hb);replace HB:=am_ (below_step (a0_) hb);(try clear hb);(try clear hb2);(try clear hk);(try clear hi)))
     go_meet
     case rel=>exact⟨_,(true),(a6_),H',⟨by first | omega | exact Nat.le_refl _⟩,⟨(a32_ HO285.out)⟩,⟨by(with_reducible repeat (first | apply Kd.S_alloc | apply Kd.S_drewN | apply Kd.S_drew));exact Kd.S_mono HO288.out (fun _ hk=>⟨hk.1.2,hk.2⟩)⟩,⟨(a26_ HO291.out)⟩,⟨(a32_ HO295.out)⟩,⟨a0_⟩⟩
   case rest=>
    clear HC13
    try clear c1
    try clear c2
    try clear p2
    try clear c3
    try clear c4
    try clear c4b0
    try clear c5
    try clear c6
    try clear c6b0
    try clear c7
    try clear c8
    try clear c9
    try clear c10
    try clear c25
    obtain⟨kq,x53_12,rfl,HA,HJ12,HO_6,HO_8,HO_9,HO_10,HB⟩:=hcut
    cases kq with
    | zero=>exact absurd HA.out (by simp[laws_FnExactMakeEdition.j0])
    | succ kj12=>
     have H:=HA.out
     clear HA
     simp only[laws_FnExactMakeEdition.j0]at H
     by_cases c32:x53_12=true
     ·subst c32
      replace H:(some false)=some r:=by rw[if_pos rfl]at H;exact H
      obtain rfl:=Option.some.inj H
      go_wp2
      go_ret
      exact⟨a5_,a0_⟩
     ·replace c32:=Bool.eq_false_iff.mpr c32
      subst c32
      replace H:((laws_toHoleSS.f kj12 l0).bind fun t297=>((laws_eqHoleSS.f kj12 t286 t297).bind fun t300=>(if t300=true then((laws_toPartS.f kj12 l1).bind fun t301=>((laws_eqPartS.f kj12 t289 t301).bind fun t304=>(if t304=true then((laws_markHoleSS.f kj12 t286 1).bind fun bt305=>((laws_markPartS.f kj12 t289 bt305.1).bind fun bt307=>(if bt307.1<0 then(laws_FnExactMakeEdition.j1 kj12 l0 l1 t282 t283 t292 true) else((laws_eqHoleS.f kj12 t292 t282).bind fun t309=>(if t309=true then(laws_FnExactMakeEdition.j1 kj12 l0 l1 t282 t283 t292 (t293 != t283)) else(laws_FnExactMakeEdition.j1 kj12 l0 l1 t282 t283 t292 true)))))) else(some false)))) else(some false))))=some r:=by rw[if_neg (show ¬(false=true) by decide)]at H;exact H
      replace H:=Option.bind_eq_some_iff.mp H
      obtain⟨t297,A330,H⟩:=H
      replace H:((laws_eqHoleSS.f kj12 t286 t297).bind fun t300=>(if t300=true then((laws_toPartS.f kj12 l1).bind fun t301=>((laws_eqPartS.f kj12 t289 t301).bind fun t304=>(if t304=true then((laws_markHoleSS.f kj12 t286 1).bind fun bt305=>((laws_markPartS.f kj12 t289 bt305.1).bind fun bt307=>(if bt307.1<0 then(laws_FnExactMakeEdition.j1 kj12 l0 l1 t282 t283 t292 true) else((laws_eqHoleS.f kj12 t292 t282).bind fun t309=>(if t309=true then(laws_FnExactMakeEdition.j1 kj12 l0 l1 t282 t283 t292 (t293 != t283)) else(laws_FnExactMakeEdition.j1 kj12 l0 l1 t282 t283 t292 true)))))) else(some false)))) else(some false)))=some r:=H
      have A33:=am_ A330
      clear A330
      replace H:=Option.bind_eq_some_iff.mp H
      obtain⟨t300,A340,H⟩:=H
      replace H:(if t300=true then((laws_toPartS.f kj12 l1).bind fun t301=>((laws_eqPartS.f kj12 t289 t301).bind fun t304=>(if t304=true then((laws_markHoleSS.f kj12 t286 1).bind fun bt305=>((laws_markPartS.f kj12 t289 bt305.1).bind fun bt307=>(if bt307.1<0 then(laws_FnExactMakeEdition.j1 kj12 l0 l1 t282 t283 t292 true) else((laws_eqHoleS.f kj12 t292 t282).bind fun t309=>(if t309=true then(laws_FnExactMakeEdition.j1 kj12 l0 l1 t282 t283 t292 (t293 != t283)) else(laws_FnExactMakeEdition.j1 kj12 l0 l1 t282 t283 t292 true)))))) else(some false)))) else(some false))=some r:=H
      have A34:=am_ A340
      clear A340
      by_cases c35:t300=true
      ·subst c35
       replace H:((laws_toPartS.f kj12 l1).bind fun t301=>((laws_eqPartS.f kj12 t289 t301).bind fun t304=>(if t304=true then((laws_markHoleSS.f kj12 t286 1).bind fun bt305=>((laws_markPartS.f kj12 t289 bt305.1).bind fun bt307=>(if bt307.1<0 then(laws_FnExactMakeEdition.j1 kj12 l0 l1 t282 t283 t292 true) else((laws_eqHoleS.f kj12 t292 t282).bind fun t309=>(if t309=true then(laws_FnExactMakeEdition.j1 kj12 l0 l1 t282 t283 t292 (t293 != t283)) else(laws_FnExactMakeEdition.j1 kj12 l0 l1 t282 t283 t292 true)))))) else(some false))))=some r:=by rw[if_pos rfl]at H;exact H
       replace H:=Option.bind_eq_some_iff.mp H
       obtain⟨t301,A360,H⟩:=H
       replace H:((laws_eqPartS.f kj12 t289 t301).bind fun t304=>(if t304=true then((laws_markHoleSS.f kj12 t286 1).bind fun bt305=>((laws_markPartS.f kj12 t289 bt305.1).bind fun bt307=>(if bt307.1<0 then(laws_FnExactMakeEdition.j1 kj12 l0 l1 t282 t283 t292 true) else((laws_eqHoleS.f kj12 t292 t282).bind fun t309=>(if t309=true then(laws_FnExactMakeEdition.j1 kj12 l0 l1 t282 t283 t292 (t293 != t283)) else(laws_FnExactMakeEdition.j1 kj12 l0 l1 t282 t283 t292 true)))))) else(some false)))=some r:=H
       have A36:=am_ A360
       clear A360
       replace H:=Option.bind_eq_some_iff.mp H
       obtain⟨t304,A370,H⟩:=H
       replace H:(if t304=true then((laws_markHoleSS.f kj12 t286 1).bind fun bt305=>((laws_markPartS.f kj12 t289 bt305.1).bind fun bt307=>(if bt307.1<0 then(laws_FnExactMakeEdition.j1 kj12 l0 l1 t282 t283 t292 true) else((laws_eqHoleS.f kj12 t292 t282).bind fun t309=>(if t309=true then(laws_FnExactMakeEdition.j1 kj12 l0 l1 t282 t283 t292 (t293 != t283)) else(laws_FnExactMakeEdition.j1 kj12 l0 l1 t282 t283 t292 true)))))) else(some false))=some r:=H
       have A37:=am_ A370
       clear A370
       by_cases c38:t304=true
       ·subst c38
        replace H:((laws_markHoleSS.f kj12 t286 1).bind fun bt305=>((laws_markPartS.f kj12 t289 bt305.1).bind fun bt307=>(if bt307.1<0 then(laws_FnExactMakeEdition.j1 kj12 l0 l1 t282 t283 t292 true) else((laws_eqHoleS.f kj12 t292 t282).bind fun t309=>(if t309=true then(laws_FnExactMakeEdition.j1 kj12 l0 l1 t282 t283 t292 (t293 != t283)) else(laws_FnExactMakeEdition.j1 kj12 l0 l1 t282 t283 t292 true))))))=some r:=by rw[if_pos rfl]at H;exact H
        replace H:=Option.bind_eq_some_iff.mp H
        obtain⟨⟨t305,t306⟩,A390,H⟩:=H
        replace H:((laws_markPartS.f kj12 t289 t305).bind fun bt307=>(if bt307.1<0 then(laws_FnExactMakeEdition.j1 kj12 l0 l1 t282 t283 t292 true) else((laws_eqHoleS.f kj12 t292 t282).bind fun t309=>(if t309=true then(laws_FnExactMakeEdition.j1 kj12 l0 l1 t282 t283 t292 (t293 != t283)) else(laws_FnExactMakeEdition.j1 kj12 l0 l1 t282 t283 t292 true)))))=some r:=H
        have A39:=am_ A390
        clear A390
        replace H:=Option.bind_eq_some_iff.mp H
        obtain⟨⟨t307,t308⟩,A400,H⟩:=H
        replace H:(if t307<0 then(laws_FnExactMakeEdition.j1 kj12 l0 l1 t282 t283 t292 true) else((laws_eqHoleS.f kj12 t292 t282).bind fun t309=>(if t309=true then(laws_FnExactMakeEdition.j1 kj12 l0 l1 t282 t283 t292 (t293 != t283)) else(laws_FnExactMakeEdition.j1 kj12 l0 l1 t282 t283 t292 true))))=some r:=H
        have A40:=am_ A400
        clear A400
        have HC41:=am_ H
        clear H
        go_upto_region 21 with (first | ((with_reducible refine gate_callee (f:=7) rfl ?_);refine goesL_ (some 56) rfl rfl Try.func7 (by kernel_rfl) rfl #[.slice A0 l0.length c0] rfl (by(try simp only[List.map_toArray,List.map_cons,List.map_nil]);first | done | rfl | (simp only[List.length_drop,List.length_take];rfl)) ?_;(with_reducible refine(laws_toHoleSS.calls kj12 _ _ l0 t297 _ ?side1 ?side2 A33.out).mono ?_);(case side1=>exact(a11_ HR0.out));(case side2=>exact HC0.out);rintro e w42 ⟨v298,rfl,ho0,hb⟩;refine⟨_,rfl,?_⟩;replace HO_9:=am_ (Kd.R_below ((a2_ HO_9.out)) hb);have HO299:=am_ (Kd.S_lower (Kd.S_new' (Kd.S_new' (Kd.S_new' ho0 (Kd.R_lt ((a2_ HO_6.out)))) (Kd.S_lt ((a10_ HO_8.out)))) (Kd.R_lt ((a2_ HO_10.out)))) (below_size (a0_)));replace HO_6:=am_ (Kd.R_below ((a2_ HO_6.out)) hb);replace HO_8:=am_ (Kd.S_elder' ((a10_ HO_8.out)) (Kd.S_base ho0) hb);replace HO_10:=am_ (Kd.R_below ((a2_ HO_10.out)) hb);replace HB:=am_ (below_step (a0_) hb);(try clear hb);(try clear hb2);(try clear hk);(try clear hi);(try clear ho0);obtain⟨Ao43,co43,eo43⟩:=Kd.S_slice HO299.out;subst eo43) | ((with_reducible refine gate_callee (f:=11) rfl ?_);refine goesL_ (some 57) rfl rfl Try.func11 (by kernel_rfl) rfl #[.slice Ao21 t286.length co21, .slice Ao43 t297.length co43] rfl (by(try simp only[List.map_toArray,List.map_cons,List.map_nil]);first | done | rfl | (simp only[List.length_drop,List.length_take];rfl)) ?_;(with_reducible refine(laws_eqHoleSS.calls kj12 _ _ t286 _ _ t297 true _ ?side1 ?side2 ?side3 ?side4 A34.out).mono ?_);(case side1=>exact(a19_ HO_8.out));(case side2=>exact(Kd.S_reads' HO_8.out).2.1);(case side3=>exact(a19_ HO299.out));(case side4=>exact(Kd.S_reads' HO299.out).2.1);rintro e w44 ⟨rfl,hb⟩;refine⟨_,rfl,?_⟩;replace HO_6:=am_ (Kd.R_below ((a2_ HO_6.out)) hb);replace HO_8:=am_ (Kd.S_below ((a10_ HO_8.out)) hb);replace HO_9:=am_ (Kd.R_below ((a2_ HO_9.out)) hb);replace HO_10:=am_ (Kd.R_below ((a2_ HO_10.out)) hb);replace HO299:=am_ (Kd.S_below ((a10_ HO299.out)) hb);replace HB:=am_ (below_step (a0_) hb);(try clear hb);(try clear hb2);(try clear hk);(try clear hi)) | ((with_reducible refine gate_callee (f:=8) rfl ?_);refine goesL_ (some 61) rfl rfl Try.func8 (by kernel_rfl) rfl #[.slice A1 l1.length c1] rfl (by(try simp only[List.map_toArray,List.map_cons,List.map_nil]);first | done | rfl | (simp only[List.length_drop,List.length_take];rfl)) ?_;(with_reducible refine(laws_toPartS.calls kj12 _ _ l1 t301 _ ?side1 ?side2 A36.out).mono ?_);(case side1=>exact(a11_ HR1.out));(case side2=>exact HC1.out);rintro e w45 ⟨v302,rfl,ho0,hb⟩;refine⟨_,rfl,?_⟩;replace HO_6:=am_ (Kd.R_below ((a2_ HO_6.out)) hb);replace HO_8:=am_ (Kd.S_below ((a10_ HO_8.out)) hb);replace HO_10:=am_ (Kd.R_below ((a2_ HO_10.out)) hb);replace HO299:=am_ (Kd.S_below ((a10_ HO299.out)) hb);have HO303:=am_ (Kd.R_lower (Kd.R_new' ho0 (Kd.R_lt ((a2_ HO_9.out)))) (below_size (a0_)));replace HO_9:=am_ (Kd.R_elder' ((a2_ HO_9.out)) (Kd.R_base ho0) hb);replace HB:=am_ (below_step (a0_) hb);(try clear hb);(try clear hb2);(try clear hk);(try clear hi);(try clear ho0);obtain⟨Ao46,co46,eo46⟩:=Kd.R_slice HO303.out;subst eo46) | ((with_reducible refine gate_callee (f:=12) rfl ?_);refine goesL_ (some 62) rfl rfl Try.func12 (by kernel_rfl) rfl #[.slice Ao22 t289.length co22, .slice Ao46 t301.length co46] rfl (by(try simp only[List.map_toArray,List.map_cons,List.map_nil]);first | done | rfl | (simp only[List.length_drop,List.length_take];rfl)) ?_;(with_reducible refine(laws_eqPartS.calls kj12 _ _ t289 _ _ t301 true _ ?side1 ?side2 ?side3 ?side4 A37.out).mono ?_);(case side1=>exact(a9_ HO_9.out));(case side2=>exact(Kd.R_reads' HO_9.out).2.1);(case side3=>exact(a9_ HO303.out));(case side4=>exact(Kd.R_reads' HO303.out).2.1);rintro e w47 ⟨rfl,hb⟩;refine⟨_,rfl,?_⟩;replace HO_6:=am_ (Kd.R_below ((a2_ HO_6.out)) hb);replace HO_8:=am_ (Kd.S_below ((a10_ HO_8.out)) hb);replace HO_9:=am_ (Kd.R_below ((a2_ HO_9.out)) hb);replace HO_10:=am_ (Kd.R_below ((a2_ HO_10.out)) hb);replace HO299:=am_ (Kd.S_below ((a10_ HO299.out)) hb);replace HO303:=am_ (Kd.R_below ((a2_ HO303.out)) hb);replace HB:=am_ (below_step (a0_) hb);(try clear hb);(try clear hb2);(try clear hk);(try clear hi)) | ((with_reducible refine gate_callee (f:=13) rfl ?_);refine goesL_ (some 66) rfl rfl Try.func13 (by kernel_rfl) rfl #[.slice Ao21 t286.length co21, .int .i64 1] rfl (by(try simp only[List.map_toArray,List.map_cons,List.map_nil]);first | done | rfl | (simp only[List.length_drop,List.length_take];rfl)) ?_;(with_reducible refine(laws_markHoleSS.calls kj12 (fun k_=>((some k_≠(v284:Value).ownBlock∧some k_≠(v294:Value).ownBlock)∧some k_≠((.slice Ao22 t289.length co22):Value).ownBlock)) (.slice Ao21 t286.length co21) t286 1 t305 t306 w _ ?side1 ?side2 A39.out).mono ?_);(case side1=>exact a0_);(case side2=>exact(Kd.S_apart' (Kd.S_mono HO_8.out (fun k_ hk_=>by have h_:=hk_;repeat (first | exact h_ | replace h_:=h_.1))) (Kd.R_typed HO_9.out) (by decide)));rintro e w48 ⟨rfl,hy0,hb,hkp⟩;refine⟨_,rfl,?_⟩;replace HO_6:=am_ (Kd.R_mono (Kd.R_kept (Kd.R_tight2 rfl HO_6.out) hkp (fun k_ hk_ hs_=>hs_.1.1 hk_.1)) (fun k_ hk_=>hk_.2));replace HO_8:=am_ hy0;replace HO_9:=am_ (Kd.R_mono (Kd.R_kept (Kd.R_tight2 rfl HO_9.out) hkp (fun k_ hk_ hs_=>hs_.2 hk_.1)) (fun k_ hk_=>hk_.2));replace HO_10:=am_ (Kd.R_mono (Kd.R_kept (Kd.R_tight2 rfl HO_10.out) hkp (fun k_ hk_ hs_=>hs_.1.2 hk_.1)) (fun k_ hk_=>hk_.2));replace HO299:=am_ True.intro;replace HO303:=am_ True.intro;replace HB:=am_ (hb);(try clear hb);(try clear hkp);(try clear hy0)) | ((with_reducible refine gate_callee (f:=14) rfl ?_);refine goesL_ (some 69) rfl rfl Try.func14 (by kernel_rfl) rfl #[.slice Ao22 t289.length co22, .int .i64 t305] rfl (by(try simp only[List.map_toArray,List.map_cons,List.map_nil]);first | done | rfl | (simp only[List.length_drop,List.length_take];rfl)) ?_;(with_reducible refine(laws_markPartS.calls kj12 (fun k_=>some k_=(.slice Ao22 t289.length co22:Value).ownBlock) (.slice Ao22 t289.length co22) t289 t305 t307 t308 w _ ?side1 ?side2 A40.out).mono ?_);(case side1=>exact a0_);(case side2=>exact Kd.R_tight rfl HO_9.out);rintro e w49 ⟨rfl,hy0,hb,hkp⟩;refine⟨_,rfl,?_⟩;replace HO_6:=am_ (Kd.R_mono (ok':=fun k_=>some k_≠(v294:Value).ownBlock) (Kd.R_keptB ((Kd.R_apart' HO_6.out (Kd.R_typed HO_9.out) (by decide))) hkp (fun k_ hk_ hs_=>(hk_.2) hs_)) (fun k_ hk_=>hk_.1.1));replace HO_8:=am_ True.intro;replace HO_10:=am_ (Kd.R_mono (ok':=fun k_=>some k_≠(v284:Value).ownBlock) (Kd.R_keptB ((Kd.R_apart' HO_10.out (Kd.R_typed HO_9.out) (by decide))) hkp (fun k_ hk_ hs_=>(hk_.2) hs_)) (fun k_ hk_=>hk_.1.1));replace HO_9:=am_ (Kd.R_reok rfl hy0 (fun k_ e_=>HO_9.out.1 k_ e_));replace HO299:=am_ True.intro;replace HO303:=am_ True.intro;replace HB:=am_ (hb);(try clear hb);(try clear hkp);(try clear hy0)))
        (try simp only[Act.put,List.setIfInBounds_toArray,List.set_cons_zero,List.set_cons_succ])
        go_cut [82] (fun v82 wc=>∃(kq:Nat) (x82_40:Bool),v82 = .bool x82_40∧Aside0 (laws_FnExactMakeEdition.j1 kq l0 l1 t282 t283 t292 x82_40=some r)∧Aside0 (kq≤kj12)∧Aside0 (Kd.R k47 47 wc w.heap.size (fun k_=>some k_≠(v294:Value).ownBlock) v284 t282)∧Aside0 (Kd.R k47 47 wc w.heap.size (fun k_=>some k_≠(v284:Value).ownBlock) v294 t292)∧Aside0 (Below w.heap.size w wc))
        case first=>
         have H:=HC41.out
         clear HC41
         by_cases c50:t307<0
         ·rw[if_pos c50]at H
          have c50b0:decide (t307<0)=true:=decide_eq_true c50
          clear c50
          (first | rw[c50b0] | (simp only[i64_w,i32_w];rw[c50b0]) | skip)
          have H':=am_ H
          clear H
          go_wp2
          go_meet
          case rel=>exact⟨_,(true),(a6_),H',⟨by have:=HJ12.out;first | omega | exact Nat.le_refl _⟩,⟨(a2_ HO_6.out)⟩,⟨(a2_ HO_10.out)⟩,⟨a0_⟩⟩
         ·rw[if_neg c50]at H
          have c50b0:decide (t307<0)=false:=decide_eq_false c50
          clear c50
          (first | rw[c50b0] | (simp only[i64_w,i32_w];rw[c50b0]) | skip)
          replace H:=Option.bind_eq_some_iff.mp H
          obtain⟨t309,A510,H⟩:=H
          replace H:(if t309=true then(laws_FnExactMakeEdition.j1 kj12 l0 l1 t282 t283 t292 (t293 != t283)) else(laws_FnExactMakeEdition.j1 kj12 l0 l1 t282 t283 t292 true))=some r:=H
          have A51:=am_ A510
          clear A510
          by_cases c52:t309=true
          ·subst c52
           replace H:(laws_FnExactMakeEdition.j1 kj12 l0 l1 t282 t283 t292 (t293 != t283))=some r:=by rw[if_pos rfl]at H;exact H
           have H':=am_ H
           clear H
           obtain⟨Ao53,co53,eo53⟩:=Kd.R_slice HO_10.out
           subst eo53
           obtain⟨Ao54,co54,eo54⟩:=Kd.R_slice HO_6.out
           subst eo54
           go_wp2_with (first | (go_at_call 10;(with_reducible refine(laws_eqHoleS.calls kj12 _ _ t292 _ _ t282 true _ ?side1 ?side2 ?side3 ?side4 A51.out).mono ?_);(case side1=>exact(a9_ HO_10.out));(case side2=>exact(Kd.R_reads' HO_10.out).2.1);(case side3=>exact(a9_ HO_6.out));(case side4=>exact(Kd.R_reads' HO_6.out).2.1);rintro e w55 ⟨rfl,hb⟩;replace HO_6:=am_ (Kd.R_below ((a2_ HO_6.out)) hb);replace HO_8:=am_ True.intro;replace HO_9:=am_ (Kd.R_below ((a2_ HO_9.out)) hb);replace HO_10:=am_ (Kd.R_below ((a2_ HO_10.out)) hb);replace HO299:=am_ True.intro;replace HO303:=am_ True.intro;replace HB:=am_ (below_step (a0_) hb);(try clear hb);(try clear hb2);(try clear hk);(try clear hi)))
           go_meet
           case rel=>exact⟨_,((t293 != t283)),(a6_),H',⟨by have:=HJ12.out;first | omega | exact Nat.le_refl _⟩,⟨(a2_ HO_6.out)⟩,⟨(a2_ HO_10.out)⟩,⟨a0_⟩⟩
          ·replace c52:=Bool.eq_false_iff.mpr c52
           subst c52
           replace H:(laws_FnExactMakeEdition.j1 kj12 l0 l1 t282 t283 t292 true)=some r:=by rw[if_neg (show ¬(false=true) by decide)]at H;exact H
           have H':=am_ H
           clear H
           obtain⟨Ao56,co56,eo56⟩:=Kd.R_slice HO_10.out
           subst eo56
           obtain⟨Ao57,co57,eo57⟩:=Kd.R_slice HO_6.out
           subst eo57
           go_wp2_with (first | (go_at_call 10;(with_reducible refine(laws_eqHoleS.calls kj12 _ _ t292 _ _ t282 false _ ?side1 ?side2 ?side3 ?side4 A51.out).mono ?_);(case side1=>exact(a9_ HO_10.out));(case side2=>exact(Kd.R_reads' HO_10.out).2.1);(case side3=>exact(a9_ HO_6.out));(case side4=>exact(Kd.R_reads' HO_6.out).2.1);rintro e w58 ⟨rfl,hb⟩;replace HO_6:=am_ (Kd.R_below ((a2_ HO_6.out)) hb);replace HO_8:=am_ True.intro;replace HO_9:=am_ (Kd.R_below ((a2_ HO_9.out)) hb);replace HO_10:=am_ (Kd.R_below ((a2_ HO_10.out)) hb);replace HO299:=am_ True.intro;replace HO303:=am_ True.intro;replace HB:=am_ (below_step (a0_) hb);(try clear hb);(try clear hb2);(try clear hk);(try clear hi)))
           go_meet
           case rel=>exact⟨_,(true),(a6_),H',⟨by have:=HJ12.out;first | omega | exact Nat.le_refl _⟩,⟨(a2_ HO_6.out)⟩,⟨(a2_ HO_10.out)⟩,⟨a0_⟩⟩
        case rest=>
         clear HC41
         try clear c1
         try clear c2
         try clear p2
         try clear c3
         try clear c4
         try clear c4b0
         try clear c5
         try clear c6
         try clear c6b0
         try clear c7
         try clear c8
         try clear c9
         try clear c10
         try clear c11
         try clear c12
         try clear c13
         try clear c14
         try clear c25
         try clear c32
         try clear c35
         try clear c38
         try clear c50
         try clear c50b0
         try clear c52
         try clear p2
         obtain⟨kq,x82_40,rfl,HA,HJ40,HO_6,HO_10,HB⟩:=hcut
         cases kq with
         | zero=>exact absurd HA.out (by simp[laws_FnExactMakeEdition.j1])
         | succ kj40=>
          have H:=HA.out
          clear HA
          simp only[laws_FnExactMakeEdition.j1]at H
          by_cases c59:x82_40=true
          ·subst c59
           replace H:(some false)=some r:=by rw[if_pos rfl]at H;exact H
           obtain rfl:=Option.some.inj H
           go_wp2
           go_ret
           exact⟨a5_,a0_⟩
          ·replace c59:=Bool.eq_false_iff.mpr c59
           subst c59
           replace H:((laws_markHoleS.f kj40 t292 1).bind fun bt310=>((laws_heldHoleS.f kj40 bt310.2 1).bind fun t312=>(if t312<0 then(some false) else(if t312=bt310.1 then((laws_toHoleSS.f kj40 l0).bind fun t313=>((laws_toPartS.f kj40 l1).bind fun t316=>((impl_MakeEdition.f kj40 t313 t316).bind fun bt319=>((laws_eqHoleS.f kj40 bt319.1 t282).bind fun t323=>(if t323=true then(laws_FnExactMakeEdition.j2 kj40 bt310.2 bt310.1 (bt319.2 != t283)) else(laws_FnExactMakeEdition.j2 kj40 bt310.2 bt310.1 true)))))) else(some false)))))=some r:=by rw[if_neg (show ¬(false=true) by decide)]at H;exact H
           replace H:=Option.bind_eq_some_iff.mp H
           obtain⟨⟨t310,t311⟩,A600,H⟩:=H
           replace H:((laws_heldHoleS.f kj40 t311 1).bind fun t312=>(if t312<0 then(some false) else(if t312=t310 then((laws_toHoleSS.f kj40 l0).bind fun t313=>((laws_toPartS.f kj40 l1).bind fun t316=>((impl_MakeEdition.f kj40 t313 t316).bind fun bt319=>((laws_eqHoleS.f kj40 bt319.1 t282).bind fun t323=>(if t323=true then(laws_FnExactMakeEdition.j2 kj40 t311 t310 (bt319.2 != t283)) else(laws_FnExactMakeEdition.j2 kj40 t311 t310 true)))))) else(some false))))=some r:=H
           have A60:=am_ A600
           clear A600
           replace H:=Option.bind_eq_some_iff.mp H
           obtain⟨t312,A610,H⟩:=H
           replace H:(if t312<0 then(some false) else(if t312=t310 then((laws_toHoleSS.f kj40 l0).bind fun t313=>((laws_toPartS.f kj40 l1).bind fun t316=>((impl_MakeEdition.f kj40 t313 t316).bind fun bt319=>((laws_eqHoleS.f kj40 bt319.1 t282).bind fun t323=>(if t323=true then(laws_FnExactMakeEdition.j2 kj40 t311 t310 (bt319.2 != t283)) else(laws_FnExactMakeEdition.j2 kj40 t311 t310 true)))))) else(some false)))=some r:=H
           have A61:=am_ A610
           clear A610
           by_cases c62:t312<0
           ·rw[if_pos c62]at H
            have c62b0:decide (t312<0)=true:=decide_eq_true c62
            clear c62
            obtain rfl:=Option.some.inj H
            obtain⟨Ao63,co63,eo63⟩:=Kd.R_slice HO_10.out
            subst eo63
            go_wp2_with (first | ((with_reducible refine gate_callee (f:=15) rfl ?_);refine goesL_ (some 85) rfl rfl Try.func15 (by kernel_rfl) rfl #[.slice Ao63 t292.length co63, .int .i64 1] rfl (by(try simp only[List.map_toArray,List.map_cons,List.map_nil]);first | done | rfl | (simp only[List.length_drop,List.length_take];rfl)) ?_;(with_reducible refine(laws_markHoleS.calls kj40 (fun k_=>some k_=(.slice Ao63 t292.length co63:Value).ownBlock) (.slice Ao63 t292.length co63) t292 1 t310 t311 w _ ?side1 ?side2 A60.out).mono ?_);(case side1=>exact a0_);(case side2=>exact Kd.R_tight rfl HO_10.out);rintro e w64 ⟨rfl,hy0,hb,hkp⟩;refine⟨_,rfl,?_⟩;replace HO_6:=am_ (Kd.R_mono (ok':=fun k_=>some k_≠(.slice Ao63 t292.length co63:Value).ownBlock) (Kd.R_keptB (HO_6.out) hkp (fun k_ hk_ hs_=>(hk_) hs_)) (fun k_ hk_=>hk_.1));replace HO_10:=am_ (Kd.R_reok rfl hy0 (fun k_ e_=>HO_10.out.1 k_ e_));replace HB:=am_ (hb);(try clear hb);(try clear hkp);(try clear hy0)) | ((with_reducible refine gate_callee (f:=16) rfl ?_);refine goesL_ (some 88) rfl rfl Try.func16 (by kernel_rfl) rfl #[.slice Ao63 t311.length co63, .int .i64 1] rfl (by(try simp only[List.map_toArray,List.map_cons,List.map_nil]);first | done | (rw[show t311.length=t292.length from(Kd.R_reads' HO_10.out).1.symm]<;>rfl) | rfl | (simp only[List.length_drop,List.length_take];rfl)) ?_;(with_reducible refine(laws_heldHoleS.calls kj40 _ _ t311 1 t312 _ ?side1 ?side2 A61.out).mono ?_);(case side1=>exact(a9_ HO_10.out));(case side2=>rw[show t311.length=t292.length from(Kd.R_reads' HO_10.out).1.symm];exact(Kd.R_reads' HO_10.out).2.1);rintro e w' ⟨rfl,⟨nd,rfl⟩⟩;refine⟨_,rfl,?_⟩))
            go_ret
            exact⟨a5_,a0_⟩
           ·rw[if_neg c62]at H
            have c62b0:decide (t312<0)=false:=decide_eq_false c62
            clear c62
            by_cases c65:t312=t310
            ·rw[if_pos c65]at H
             have c65b0:(t312 == t310)=true:=beq_iff_eq.mpr c65
             have c65b1:(t312 != t310)=false:=bne_eq_false_iff_eq.mpr c65
             clear c65
             replace H:=Option.bind_eq_some_iff.mp H
             obtain⟨t313,A660,H⟩:=H
             replace H:((laws_toPartS.f kj40 l1).bind fun t316=>((impl_MakeEdition.f kj40 t313 t316).bind fun bt319=>((laws_eqHoleS.f kj40 bt319.1 t282).bind fun t323=>(if t323=true then(laws_FnExactMakeEdition.j2 kj40 t311 t310 (bt319.2 != t283)) else(laws_FnExactMakeEdition.j2 kj40 t311 t310 true)))))=some r:=H
             have A66:=am_ A660
             clear A660
             replace H:=Option.bind_eq_some_iff.mp H
             obtain⟨t316,A670,H⟩:=H
             replace H:((impl_MakeEdition.f kj40 t313 t316).bind fun bt319=>((laws_eqHoleS.f kj40 bt319.1 t282).bind fun t323=>(if t323=true then(laws_FnExactMakeEdition.j2 kj40 t311 t310 (bt319.2 != t283)) else(laws_FnExactMakeEdition.j2 kj40 t311 t310 true))))=some r:=H
             have A67:=am_ A670
             clear A670
             replace H:=Option.bind_eq_some_iff.mp H
             obtain⟨⟨t319,t320⟩,A680,H⟩:=H
             replace H:((laws_eqHoleS.f kj40 t319 t282).bind fun t323=>(if t323=true then(laws_FnExactMakeEdition.j2 kj40 t311 t310 (t320 != t283)) else(laws_FnExactMakeEdition.j2 kj40 t311 t310 true)))=some r:=H
             have A68:=am_ A680
             clear A680
             have HC69:=am_ H
             clear H
             obtain⟨Ao70,co70,eo70⟩:=Kd.R_slice HO_10.out
             subst eo70
             go_upto_region 32 with (first | ((with_reducible refine gate_callee (f:=15) rfl ?_);refine goesL_ (some 85) rfl rfl Try.func15 (by kernel_rfl) rfl #[.slice Ao70 t292.length co70, .int .i64 1] rfl (by(try simp only[List.map_toArray,List.map_cons,List.map_nil]);first | done | rfl | (simp only[List.length_drop,List.length_take];rfl)) ?_;(with_reducible refine(laws_markHoleS.calls kj40 (fun k_=>some k_=(.slice Ao70 t292.length co70:Value).ownBlock) (.slice Ao70 t292.length co70) t292 1 t310 t311 w _ ?side1 ?side2 A60.out).mono ?_);(case side1=>exact a0_);(case side2=>exact Kd.R_tight rfl HO_10.out);rintro e w71 ⟨rfl,hy0,hb,hkp⟩;refine⟨_,rfl,?_⟩;replace HO_6:=am_ (Kd.R_mono (ok':=fun k_=>some k_≠(.slice Ao70 t292.length co70:Value).ownBlock) (Kd.R_keptB (HO_6.out) hkp (fun k_ hk_ hs_=>(hk_) hs_)) (fun k_ hk_=>hk_.1));replace HO_10:=am_ (Kd.R_reok rfl hy0 (fun k_ e_=>HO_10.out.1 k_ e_));replace HB:=am_ (hb);(try clear hb);(try clear hkp);(try clear hy0)) | ((with_reducible refine gate_callee (f:=16) rfl ?_);refine goesL_ (some 88) rfl rfl Try.func16 (by kernel_rfl) rfl #[.slice Ao70 t311.length co70, .int .i64 1] rfl (by(try simp only[List.map_toArray,List.map_cons,List.map_nil]);first | done | (rw[show t311.length=t292.length from(Kd.R_reads' HO_10.out).1.symm]<;>rfl) | rfl | (simp only[List.length_drop,List.length_take];rfl)) ?_;(with_reducible refine(laws_heldHoleS.calls kj40 _ _ t311 1 t312 _ ?side1 ?side2 A61.out).mono ?_);(case side1=>exact(a9_ HO_10.out));(case side2=>rw[show t311.length=t292.length from(Kd.R_reads' HO_10.out).1.symm];exact(Kd.R_reads' HO_10.out).2.1);rintro e w' ⟨rfl,⟨nd,rfl⟩⟩;refine⟨_,rfl,?_⟩) | ((with_reducible refine gate_callee (f:=7) rfl ?_);refine goesL_ (some 96) rfl rfl Try.func7 (by kernel_rfl) rfl #[.slice A0 l0.length c0] rfl (by(try simp only[List.map_toArray,List.map_cons,List.map_nil]);first | done | rfl | (simp only[List.length_drop,List.length_take];rfl)) ?_;(with_reducible refine(laws_toHoleSS.calls kj40 _ _ l0 t313 _ ?side1 ?side2 A66.out).mono ?_);(case side1=>repeat (first | exact(Kd.C_below HR0.out (a0_)) | (with_reducible refine Kd.C_alloc ?_ _) | (with_reducible refine Kd.C_drewN ?_ _) | (with_reducible refine Kd.C_drew ?_)));(case side2=>exact HC0.out);rintro e w72 ⟨v314,rfl,ho0,hb⟩;refine⟨_,rfl,?_⟩;have HO315:=am_ (Kd.S_lower (Kd.S_new' (Kd.S_new' ho0 (Kd.R_lt ((a2_ HO_6.out)))) (Kd.R_lt ((a2_ HO_10.out)))) (below_size (a0_)));replace HO_6:=am_ (Kd.R_below ((a2_ HO_6.out)) hb);replace HO_10:=am_ (Kd.R_below ((a2_ HO_10.out)) hb);replace HB:=am_ (below_step (a0_) hb);(try clear hb);(try clear hb2);(try clear hk);(try clear hi);(try clear ho0)) | ((with_reducible refine gate_callee (f:=8) rfl ?_);refine goesL_ (some 98) rfl rfl Try.func8 (by kernel_rfl) rfl #[.slice A1 l1.length c1] rfl (by(try simp only[List.map_toArray,List.map_cons,List.map_nil]);first | done | rfl | (simp only[List.length_drop,List.length_take];rfl)) ?_;(with_reducible refine(laws_toPartS.calls kj40 _ _ l1 t316 _ ?side1 ?side2 A67.out).mono ?_);(case side1=>exact(a11_ HR1.out));(case side2=>exact HC1.out);rintro e w73 ⟨v317,rfl,ho0,hb⟩;refine⟨_,rfl,?_⟩;replace HO_6:=am_ (Kd.R_below ((a2_ HO_6.out)) hb);replace HO_10:=am_ (Kd.R_below ((a2_ HO_10.out)) hb);replace HO315:=am_ (Kd.S_below ((a10_ HO315.out)) hb);have HO318:=am_ (Kd.R_lower ho0 (below_size (a0_)));replace HB:=am_ (below_step (a0_) hb);(try clear hb);(try clear hb2);(try clear hk);(try clear hi);(try clear ho0);obtain⟨Ao74,co74,eo74⟩:=Kd.S_slice HO315.out;subst eo74;obtain⟨Ao75,co75,eo75⟩:=Kd.R_slice HO318.out;subst eo75) | ((with_reducible refine gate_callee (f:=9) rfl ?_);refine goesL_ (some 99) rfl rfl Try.func9 (by kernel_rfl) rfl #[.slice Ao74 t313.length co74, .slice Ao75 t316.length co75] rfl (by(try simp only[List.map_toArray,List.map_cons,List.map_nil]);first | done | rfl | (simp only[List.length_drop,List.length_take];rfl)) ?_;(with_reducible refine(impl_MakeEdition.calls kj40 _ _ t313 _ _ t316 t319 t320 _ ?side1 ?side2 ?side3 ?side4 A68.out).mono ?_);(case side1=>exact(a19_ HO315.out));(case side2=>exact(Kd.S_reads' HO315.out).2.1);(case side3=>exact(a9_ HO318.out));(case side4=>exact(Kd.R_reads' HO318.out).2.1);rintro e w76 ⟨v321,rfl,ho0,hb⟩;refine⟨_,rfl,?_⟩;replace HO315:=am_ (Kd.S_elder' ((a10_ HO315.out)) (Kd.R_base ho0) hb);replace HO318:=am_ (Kd.R_below ((a2_ HO318.out)) hb);have HO322:=am_ (Kd.R_lower (Kd.R_new' (Kd.R_new' ho0 (Kd.R_lt ((a2_ HO_6.out)))) (Kd.R_lt ((a2_ HO_10.out)))) (below_size (a0_)));replace HO_6:=am_ (Kd.R_elder' ((a2_ HO_6.out)) (Kd.R_base ho0) hb);replace HO_10:=am_ (Kd.R_elder' ((a2_ HO_10.out)) (Kd.R_base ho0) hb);replace HB:=am_ (below_step (a0_) hb);(try clear hb);(try clear hb2);(try clear hk);(try clear hi);(try clear ho0)))
             (try simp only[Act.put,List.setIfInBounds_toArray,List.set_cons_zero,List.set_cons_succ])
             go_cut [110] (fun v110 wc=>∃(kq:Nat) (x110_68:Bool),v110 = .bool x110_68∧Aside0 (laws_FnExactMakeEdition.j2 kq t311 t310 x110_68=some r)∧Aside0 (kq≤kj40)∧Aside0 (Kd.R k47 47 wc w.heap.size (fun _=>True) (.slice Ao70 t292.length co70) t311)∧Aside0 (Below w.heap.size w wc))
             case first=>
              have H:=HC69.out
              clear HC69
              replace H:=Option.bind_eq_some_iff.mp H
              obtain⟨t323,A770,H⟩:=H
              replace H:(if t323=true then(laws_FnExactMakeEdition.j2 kj40 t311 t310 (t320 != t283)) else(laws_FnExactMakeEdition.j2 kj40 t311 t310 true))=some r:=H
              have A77:=am_ A770
              clear A770
              by_cases c78:t323=true
              ·subst c78
               replace H:(laws_FnExactMakeEdition.j2 kj40 t311 t310 (t320 != t283))=some r:=by rw[if_pos rfl]at H;exact H
               have H':=am_ H
               clear H
               obtain⟨Ao79,co79,eo79⟩:=Kd.R_slice HO322.out
               subst eo79
               obtain⟨Ao80,co80,eo80⟩:=Kd.R_slice HO_6.out
               subst eo80
               go_wp2_with (first | ((with_reducible refine gate_callee (f:=10) rfl ?_);refine goesL_ (some 104) rfl rfl Try.func10 (by kernel_rfl) rfl #[.slice Ao79 t319.length co79, .slice Ao80 t282.length co80] rfl (by(try simp only[List.map_toArray,List.map_cons,List.map_nil]);first | done | rfl | (simp only[List.length_drop,List.length_take];rfl)) ?_;(with_reducible refine(laws_eqHoleS.calls kj40 _ _ t319 _ _ t282 true _ ?side1 ?side2 ?side3 ?side4 A77.out).mono ?_);(case side1=>exact(a9_ HO322.out));(case side2=>exact(Kd.R_reads' HO322.out).2.1);(case side3=>exact(a9_ HO_6.out));(case side4=>exact(Kd.R_reads' HO_6.out).2.1);rintro e w81 ⟨rfl,hb⟩;refine⟨_,rfl,?_⟩;replace HO_6:=am_ (Kd.R_below ((a2_ HO_6.out)) hb);replace HO_10:=am_ (Kd.R_below ((a2_ HO_10.out)) hb);replace HO315:=am_ (Kd.S_below ((a10_ HO315.out)) hb);replace HO318:=am_ (Kd.R_below ((a2_ HO318.out)) hb);replace HO322:=am_ (Kd.R_below ((a2_ HO322.out)) hb);replace HB:=am_ (below_step (a0_) hb);(try clear hb);(try clear hb2);(try clear hk);(try clear hi)))
               go_meet
               case rel=>exact⟨_,((t320 != t283)),(a6_),H',⟨by have:=HJ12.out;have:=HJ40.out;first | omega | exact Nat.le_refl _⟩,⟨(a26_ HO_10.out)⟩,⟨a0_⟩⟩
              ·replace c78:=Bool.eq_false_iff.mpr c78
               subst c78
               replace H:(laws_FnExactMakeEdition.j2 kj40 t311 t310 true)=some r:=by rw[if_neg (show ¬(false=true) by decide)]at H;exact H
               have H':=am_ H
               clear H
               obtain⟨Ao82,co82,eo82⟩:=Kd.R_slice HO322.out
               subst eo82
               obtain⟨Ao83,co83,eo83⟩:=Kd.R_slice HO_6.out
               subst eo83
               go_wp2_with (first | ((with_reducible refine gate_callee (f:=10) rfl ?_);refine goesL_ (some 104) rfl rfl Try.func10 (by kernel_rfl) rfl #[.slice Ao82 t319.length co82, .slice Ao83 t282.length co83] rfl (by(try simp only[List.map_toArray,List.map_cons,List.map_nil]);first | done | rfl | (simp only[List.length_drop,List.length_take];rfl)) ?_;(with_reducible refine(laws_eqHoleS.calls kj40 _ _ t319 _ _ t282 false _ ?side1 ?side2 ?side3 ?side4 A77.out).mono ?_);(case side1=>exact(a9_ HO322.out));(case side2=>exact(Kd.R_reads' HO322.out).2.1);(case side3=>exact(a9_ HO_6.out));(case side4=>exact(Kd.R_reads' HO_6.out).2.1);rintro e w84 ⟨rfl,hb⟩;refine⟨_,rfl,?_⟩;replace HO_6:=am_ (Kd.R_below ((a2_ HO_6.out)) hb);replace HO_10:=am_ (Kd.R_below ((a2_ HO_10.out)) hb);replace HO315:=am_ (Kd.S_below ((a10_ HO315.out)) hb);replace HO318:=am_ (Kd.R_below ((a2_ HO318.out)) hb);replace HO322:=am_ (Kd.R_below ((a2_ HO322.out)) hb);replace HB:=am_ (below_step (a0_) hb);(try clear hb);(try clear hb2);(try clear hk);(try clear hi)))
               go_meet
               case rel=>exact⟨_,(true),(a6_),H',⟨by have:=HJ12.out;have:=HJ40.out;first | omega | exact Nat.le_refl _⟩,⟨(a26_ HO_10.out)⟩,⟨a0_⟩⟩
             case rest=>
              clear HC69
              try clear c1
              try clear c2
              try clear p2
              try clear c3
              try clear c4
              try clear c4b0
              try clear c5
              try clear c6
              try clear c6b0
              try clear c7
              try clear c8
              try clear c9
              try clear c10
              try clear c11
              try clear c12
              try clear c13
              try clear c14
              try clear c15
              try clear c16
              try clear c25
              try clear c32
              try clear c35
              try clear c38
              try clear c50
              try clear c50b0
              try clear c52
              try clear c59
              try clear c62
              try clear c62b0
              try clear c65
              try clear c65b0
              try clear c65b1
              try clear c78
              try clear p2
              obtain⟨kq,x110_68,rfl,HA,HJ68,HO_10,HB⟩:=hcut
              have hl10_68:=(Kd.R_reads' HO_10.out).1
              rw[hl10_68]at HO_10
              (try simp only[hl10_68])
              cases kq with
              | zero=>exact absurd HA.out (by simp[laws_FnExactMakeEdition.j2])
              | succ kj68=>
               have H:=HA.out
               clear HA
               simp only[laws_FnExactMakeEdition.j2]at H
               by_cases c85:x110_68=true
               ·subst c85
                replace H:(some false)=some r:=by rw[if_pos rfl]at H;exact H
                obtain rfl:=Option.some.inj H
                go_wp2
                go_ret
                exact⟨a5_,a0_⟩
               ·replace c85:=Bool.eq_false_iff.mpr c85
                subst c85
                replace H:((laws_heldHoleS.f kj68 t311 1).bind fun t324=>(if t324<0 then(some false) else(if t324=t310 then(some true) else(some false))))=some r:=by rw[if_neg (show ¬(false=true) by decide)]at H;exact H
                replace H:=Option.bind_eq_some_iff.mp H
                obtain⟨t324,A860,H⟩:=H
                replace H:(if t324<0 then(some false) else(if t324=t310 then(some true) else(some false)))=some r:=H
                have A86:=am_ A860
                clear A860
                by_cases c87:t324<0
                ·rw[if_pos c87]at H
                 have c87b0:decide (t324<0)=true:=decide_eq_true c87
                 clear c87
                 obtain rfl:=Option.some.inj H
                 go_wp2_with (first | ((with_reducible refine gate_callee (f:=16) rfl ?_);refine goesL_ (some 113) rfl rfl Try.func16 (by kernel_rfl) rfl #[.slice Ao70 t311.length co70, .int .i64 1] rfl (by(try simp only[List.map_toArray,List.map_cons,List.map_nil]);first | done | rfl | (simp only[List.length_drop,List.length_take];rfl)) ?_;(with_reducible refine(laws_heldHoleS.calls kj68 _ _ t311 1 t324 _ ?side1 ?side2 A86.out).mono ?_);(case side1=>exact(a9_ HO_10.out));(case side2=>exact(Kd.R_reads' HO_10.out).2.1);rintro e w' ⟨rfl,⟨nd,rfl⟩⟩;refine⟨_,rfl,?_⟩))
                 go_ret
                 exact⟨a5_,a0_⟩
                ·rw[if_neg c87]at H
                 have c87b0:decide (t324<0)=false:=decide_eq_false c87
                 clear c87
                 by_cases c88:t324=t310
                 ·rw[if_pos c88]at H
                  have c88b0:(t324 == t310)=true:=beq_iff_eq.mpr c88
                  have c88b1:(t324 != t310)=false:=bne_eq_false_iff_eq.mpr c88
                  clear c88
                  obtain rfl:=Option.some.inj H
                  go_wp2_with (first | ((with_reducible refine gate_callee (f:=16) rfl ?_);refine goesL_ (some 113) rfl rfl Try.func16 (by kernel_rfl) rfl #[.slice Ao70 t311.length co70, .int .i64 1] rfl (by(try simp only[List.map_toArray,List.map_cons,List.map_nil]);first | done | rfl | (simp only[List.length_drop,List.length_take];rfl)) ?_;(with_reducible refine(laws_heldHoleS.calls kj68 _ _ t311 1 t324 _ ?side1 ?side2 A86.out).mono ?_);(case side1=>exact(a9_ HO_10.out));(case side2=>exact(Kd.R_reads' HO_10.out).2.1);rintro e w' ⟨rfl,⟨nd,rfl⟩⟩;refine⟨_,rfl,?_⟩))
                  go_ret
                  exact⟨a5_,a0_⟩
                 ·rw[if_neg c88]at H
                  have c88b0:(t324 == t310)=false:=beq_eq_false_iff_ne.mpr c88
                  have c88b1:(t324 != t310)=true:=bne_iff_ne.mpr c88
                  obtain rfl:=Option.some.inj H
                  go_wp2_with (first | ((with_reducible refine gate_callee (f:=16) rfl ?_);refine goesL_ (some 113) rfl rfl Try.func16 (by kernel_rfl) rfl #[.slice Ao70 t311.length co70, .int .i64 1] rfl (by(try simp only[List.map_toArray,List.map_cons,List.map_nil]);first | done | rfl | (simp only[List.length_drop,List.length_take];rfl)) ?_;(with_reducible refine(laws_heldHoleS.calls kj68 _ _ t311 1 t324 _ ?side1 ?side2 A86.out).mono ?_);(case side1=>exact(a9_ HO_10.out));(case side2=>exact(Kd.R_reads' HO_10.out).2.1);rintro e w' ⟨rfl,⟨nd,rfl⟩⟩;refine⟨_,rfl,?_⟩))
                  go_ret
                  exact⟨a5_,a0_⟩
            ·rw[if_neg c65]at H
             have c65b0:(t312 == t310)=false:=beq_eq_false_iff_ne.mpr c65
             have c65b1:(t312 != t310)=true:=bne_iff_ne.mpr c65
             obtain rfl:=Option.some.inj H
             obtain⟨Ao89,co89,eo89⟩:=Kd.R_slice HO_10.out
             subst eo89
             go_wp2_with (first | ((with_reducible refine gate_callee (f:=15) rfl ?_);refine goesL_ (some 85) rfl rfl Try.func15 (by kernel_rfl) rfl #[.slice Ao89 t292.length co89, .int .i64 1] rfl (by(try simp only[List.map_toArray,List.map_cons,List.map_nil]);first | done | rfl | (simp only[List.length_drop,List.length_take];rfl)) ?_;(with_reducible refine(laws_markHoleS.calls kj40 (fun k_=>some k_=(.slice Ao89 t292.length co89:Value).ownBlock) (.slice Ao89 t292.length co89) t292 1 t310 t311 w _ ?side1 ?side2 A60.out).mono ?_);(case side1=>exact a0_);(case side2=>exact Kd.R_tight rfl HO_10.out);rintro e w90 ⟨rfl,hy0,hb,hkp⟩;refine⟨_,rfl,?_⟩;replace HO_6:=am_ (Kd.R_mono (ok':=fun k_=>some k_≠(.slice Ao89 t292.length co89:Value).ownBlock) (Kd.R_keptB (HO_6.out) hkp (fun k_ hk_ hs_=>(hk_) hs_)) (fun k_ hk_=>hk_.1));replace HO_10:=am_ (Kd.R_reok rfl hy0 (fun k_ e_=>HO_10.out.1 k_ e_));replace HB:=am_ (hb);(try clear hb);(try clear hkp);(try clear hy0)) | ((with_reducible refine gate_callee (f:=16) rfl ?_);refine goesL_ (some 88) rfl rfl Try.func16 (by kernel_rfl) rfl #[.slice Ao89 t311.length co89, .int .i64 1] rfl (by(try simp only[List.map_toArray,List.map_cons,List.map_nil]);first | done | (rw[show t311.length=t292.length from(Kd.R_reads' HO_10.out).1.symm]<;>rfl) | rfl | (simp only[List.length_drop,List.length_take];rfl)) ?_;(with_reducible refine(laws_heldHoleS.calls kj40 _ _ t311 1 t312 _ ?side1 ?side2 A61.out).mono ?_);(case side1=>exact(a9_ HO_10.out));(case side2=>rw[show t311.length=t292.length from(Kd.R_reads' HO_10.out).1.symm];exact(Kd.R_reads' HO_10.out).2.1);rintro e w' ⟨rfl,⟨nd,rfl⟩⟩;refine⟨_,rfl,?_⟩))
             go_ret
             exact⟨a5_,a0_⟩
       ·replace c38:=Bool.eq_false_iff.mpr c38
        subst c38
        replace H:(some false)=some r:=by rw[if_neg (show ¬(false=true) by decide)]at H;exact H
        obtain rfl:=Option.some.inj H
        go_wp2_with (first | ((with_reducible refine gate_callee (f:=7) rfl ?_);refine goesL_ (some 56) rfl rfl Try.func7 (by kernel_rfl) rfl #[.slice A0 l0.length c0] rfl (by(try simp only[List.map_toArray,List.map_cons,List.map_nil]);first | done | rfl | (simp only[List.length_drop,List.length_take];rfl)) ?_;(with_reducible refine(laws_toHoleSS.calls kj12 _ _ l0 t297 _ ?side1 ?side2 A33.out).mono ?_);(case side1=>exact(a11_ HR0.out));(case side2=>exact HC0.out);rintro e w91 ⟨v298,rfl,ho0,hb⟩;refine⟨_,rfl,?_⟩;replace HO_9:=am_ (Kd.R_below ((a2_ HO_9.out)) hb);have HO299:=am_ (Kd.S_lower (Kd.S_new' (Kd.S_new' (Kd.S_new' ho0 (Kd.R_lt ((a2_ HO_6.out)))) (Kd.S_lt ((a10_ HO_8.out)))) (Kd.R_lt ((a2_ HO_10.out)))) (below_size (a0_)));replace HO_6:=am_ (Kd.R_below ((a2_ HO_6.out)) hb);replace HO_8:=am_ (Kd.S_elder' ((a10_ HO_8.out)) (Kd.S_base ho0) hb);replace HO_10:=am_ (Kd.R_below ((a2_ HO_10.out)) hb);replace HB:=am_ (below_step (a0_) hb);(try clear hb);(try clear hb2);(try clear hk);(try clear hi);(try clear ho0);obtain⟨Ao92,co92,eo92⟩:=Kd.S_slice HO299.out;subst eo92) | ((with_reducible refine gate_callee (f:=11) rfl ?_);refine goesL_ (some 57) rfl rfl Try.func11 (by kernel_rfl) rfl #[.slice Ao21 t286.length co21, .slice Ao92 t297.length co92] rfl (by(try simp only[List.map_toArray,List.map_cons,List.map_nil]);first | done | rfl | (simp only[List.length_drop,List.length_take];rfl)) ?_;(with_reducible refine(laws_eqHoleSS.calls kj12 _ _ t286 _ _ t297 true _ ?side1 ?side2 ?side3 ?side4 A34.out).mono ?_);(case side1=>exact(a19_ HO_8.out));(case side2=>exact(Kd.S_reads' HO_8.out).2.1);(case side3=>exact(a19_ HO299.out));(case side4=>exact(Kd.S_reads' HO299.out).2.1);rintro e w93 ⟨rfl,hb⟩;refine⟨_,rfl,?_⟩;replace HO_6:=am_ (Kd.R_below ((a2_ HO_6.out)) hb);replace HO_8:=am_ True.intro;replace HO_9:=am_ (Kd.R_below ((a2_ HO_9.out)) hb);replace HO_10:=am_ (Kd.R_below ((a2_ HO_10.out)) hb);replace HO299:=am_ True.intro;replace HB:=am_ (below_step (a0_) hb);(try clear hb);(try clear hb2);(try clear hk);(try clear hi)) | ((with_reducible refine gate_callee (f:=8) rfl ?_);refine goesL_ (some 61) rfl rfl Try.func8 (by kernel_rfl) rfl #[.slice A1 l1.length c1] rfl (by(try simp only[List.map_toArray,List.map_cons,List.map_nil]);first | done | rfl | (simp only[List.length_drop,List.length_take];rfl)) ?_;(with_reducible refine(laws_toPartS.calls kj12 _ _ l1 t301 _ ?side1 ?side2 A36.out).mono ?_);(case side1=>exact(a11_ HR1.out));(case side2=>exact HC1.out);rintro e w94 ⟨v302,rfl,ho0,hb⟩;refine⟨_,rfl,?_⟩;replace HO_6:=am_ (Kd.R_below ((a2_ HO_6.out)) hb);replace HO_8:=am_ True.intro;replace HO_10:=am_ (Kd.R_below ((a2_ HO_10.out)) hb);replace HO299:=am_ True.intro;have HO303:=am_ (Kd.R_lower (Kd.R_new' ho0 (Kd.R_lt ((a2_ HO_9.out)))) (below_size (a0_)));replace HO_9:=am_ (Kd.R_elder' ((a2_ HO_9.out)) (Kd.R_base ho0) hb);replace HB:=am_ (below_step (a0_) hb);(try clear hb);(try clear hb2);(try clear hk);(try clear hi);(try clear ho0);obtain⟨Ao95,co95,eo95⟩:=Kd.R_slice HO303.out;subst eo95) | ((with_reducible refine gate_callee (f:=12) rfl ?_);refine goesL_ (some 62) rfl rfl Try.func12 (by kernel_rfl) rfl #[.slice Ao22 t289.length co22, .slice Ao95 t301.length co95] rfl (by(try simp only[List.map_toArray,List.map_cons,List.map_nil]);first | done | rfl | (simp only[List.length_drop,List.length_take];rfl)) ?_;(with_reducible refine(laws_eqPartS.calls kj12 _ _ t289 _ _ t301 false _ ?side1 ?side2 ?side3 ?side4 A37.out).mono ?_);(case side1=>exact(a9_ HO_9.out));(case side2=>exact(Kd.R_reads' HO_9.out).2.1);(case side3=>exact(a9_ HO303.out));(case side4=>exact(Kd.R_reads' HO303.out).2.1);rintro e w96 ⟨rfl,hb⟩;refine⟨_,rfl,?_⟩;replace HO_6:=am_ (Kd.R_below ((a2_ HO_6.out)) hb);replace HO_8:=am_ True.intro;replace HO_9:=am_ (Kd.R_below ((a2_ HO_9.out)) hb);replace HO_10:=am_ (Kd.R_below ((a2_ HO_10.out)) hb);replace HO299:=am_ True.intro;replace HO303:=am_ True.intro;replace HB:=am_ (below_step (a0_) hb);(try clear hb);(try clear hb2);(try clear hk);(try clear hi)))
        go_ret
        exact⟨a5_,a0_⟩
      ·replace c35:=Bool.eq_false_iff.mpr c35
       subst c35
       replace H:(some false)=some r:=by rw[if_neg (show ¬(false=true) by decide)]at H;exact H
       obtain rfl:=Option.some.inj H
       go_wp2_with (first | ((with_reducible refine gate_callee (f:=7) rfl ?_);refine goesL_ (some 56) rfl rfl Try.func7 (by kernel_rfl) rfl #[.slice A0 l0.length c0] rfl (by(try simp only[List.map_toArray,List.map_cons,List.map_nil]);first | done | rfl | (simp only[List.length_drop,List.length_take];rfl)) ?_;(with_reducible refine(laws_toHoleSS.calls kj12 _ _ l0 t297 _ ?side1 ?side2 A33.out).mono ?_);(case side1=>exact(a11_ HR0.out));(case side2=>exact HC0.out);rintro e w97 ⟨v298,rfl,ho0,hb⟩;refine⟨_,rfl,?_⟩;replace HO_9:=am_ (Kd.R_below ((a2_ HO_9.out)) hb);have HO299:=am_ (Kd.S_lower (Kd.S_new' (Kd.S_new' (Kd.S_new' ho0 (Kd.R_lt ((a2_ HO_6.out)))) (Kd.S_lt ((a10_ HO_8.out)))) (Kd.R_lt ((a2_ HO_10.out)))) (below_size (a0_)));replace HO_6:=am_ (Kd.R_below ((a2_ HO_6.out)) hb);replace HO_8:=am_ (Kd.S_elder' ((a10_ HO_8.out)) (Kd.S_base ho0) hb);replace HO_10:=am_ (Kd.R_below ((a2_ HO_10.out)) hb);replace HB:=am_ (below_step (a0_) hb);(try clear hb);(try clear hb2);(try clear hk);(try clear hi);(try clear ho0);obtain⟨Ao98,co98,eo98⟩:=Kd.S_slice HO299.out;subst eo98) | ((with_reducible refine gate_callee (f:=11) rfl ?_);refine goesL_ (some 57) rfl rfl Try.func11 (by kernel_rfl) rfl #[.slice Ao21 t286.length co21, .slice Ao98 t297.length co98] rfl (by(try simp only[List.map_toArray,List.map_cons,List.map_nil]);first | done | rfl | (simp only[List.length_drop,List.length_take];rfl)) ?_;(with_reducible refine(laws_eqHoleSS.calls kj12 _ _ t286 _ _ t297 false _ ?side1 ?side2 ?side3 ?side4 A34.out).mono ?_);(case side1=>exact(a19_ HO_8.out));(case side2=>exact(Kd.S_reads' HO_8.out).2.1);(case side3=>exact(a19_ HO299.out));(case side4=>exact(Kd.S_reads' HO299.out).2.1);rintro e w99 ⟨rfl,hb⟩;refine⟨_,rfl,?_⟩;replace HO_6:=am_ (Kd.R_below ((a2_ HO_6.out)) hb);replace HO_8:=am_ True.intro;replace HO_9:=am_ (Kd.R_below ((a2_ HO_9.out)) hb);replace HO_10:=am_ (Kd.R_below ((a2_ HO_10.out)) hb);replace HO299:=am_ True.intro;replace HB:=am_ (below_step (a0_) hb);(try clear hb);(try clear hb2);(try clear hk);(try clear hi)))
       go_ret
       exact⟨a5_,a0_⟩

end Go.Proofs.Ytbbiihhaljigjaa.QFnExactMakeEdition
