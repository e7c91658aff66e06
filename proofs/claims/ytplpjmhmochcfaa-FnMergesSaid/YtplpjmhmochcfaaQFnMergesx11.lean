/- Written by a program of this session (the kit's printer, with leaf contracts proved by hand put in): what each Go function computes, and that the call computes it. No condition but those that each theorem names. -/
import Derived.Test.YtplpjmhmochcfaaQFnMergesx0
import Derived.Test.YtplpjmhmochcfaaQFnMergesx3
import Derived.Test.YtplpjmhmochcfaaQFnMergesx7
import Derived.Test.YtplpjmhmochcfaaQFnMergesx8
import Derived.Test.YtplpjmhmochcfaaQFnMergesx9
namespace Go.Proofs.Ytplpjmhmochcfaa.QFnMerges
open Go.RowKit Go.Proofs.YtplpjmhmochcfaaW.PrintWords Go.Proofs.YtplpjmhmochcfaaW.PrintLast Go.Proofs.YtplpjmhmochcfaaW.PrintMore
attribute [local go_sem] max2_int min2_int max_two min_two max_three min_three max_four min_four   -- for this text's walks alone
set_option linter.unusedVariables false
set_option linter.unusedSimpArgs false

/-! ### impl_MergeFirst: function 38 -/
mutual
def impl_MergeFirst.j0:Nat→List (S42)→List (S42)→List (S42)→Bool→Option ((List (S42))×Int×Bool)
 | 0,_,_,_,_=>none
 | k+1,x0,x1,x2,x30=>if x30=true then(some (([]:List (S42)),0,false)) else((impl_firstMerged.f x0 x1 x2).bind fun bt312=>((impl_sheetOf.f k bt312.1).bind fun bt318=>(if bt318.2=true then(impl_MergeFirst.l0 k bt318.1 0 bt312.2 (bt312.2.length:Int) 0) else(some (([]:List (S42)),0,false)))))
def impl_MergeFirst.l0:Nat→List (S42)→Int→List (S42)→Int→Int→Option ((List (S42))×Int×Bool)
 | 0,_,_,_,_,_=>none
 | k+1,x11,x13,x45,x46,x47=>if x47<x46 then(if 0≤x47 then(if x47<(x45.length:Int) then((impl_Hole_66.f x11).bind fun t324=>((some (([(⟨(rd_T42 x45 x47).f0,(rd_T42 x45 x47).f1,(rd_T42 x45 x47).f2⟩:S42)]:List (S42)):List (S42))).bind fun y327=>(if t324.length+y327.length<5864062014805 then((impl_sheetOf.f k (t324 ++ y327)).bind fun bt333=>(if bt333.2=true then(impl_MergeFirst.l0 k bt333.1 x13 x45 x46 (wrap64 (x47+1))) else(impl_MergeFirst.l0 k x11 (wrap64 (x13+1)) x45 x46 (wrap64 (x47+1))))) else(none)))) else(none)) else(none)) else(some (x11,x13,true))
end
def impl_MergeFirst.f (k:Nat) (l0:List (S42)) (l1:List (S42)) (l2:List (S42)):Option ((List (S42))×Int×Bool):=(impl_IsSheet.f k l0).bind fun t309=>(if t309=true then((impl_IsSheet.f k l1).bind fun t310=>(if t310=true then((impl_IsSheet.f k l2).bind fun t311=>(impl_MergeFirst.j0 k l0 l1 l2 (!t311))) else(impl_MergeFirst.j0 k l0 l1 l2 true))) else(impl_MergeFirst.j0 k l0 l1 l2 true))
theorem impl_MergeFirst.mono_l:∀k,(∀y0 y1 y2 y3,LeO (impl_MergeFirst.j0 k y0 y1 y2 y3) (impl_MergeFirst.j0 (k+1) y0 y1 y2 y3))∧(∀y0 y1 y2 y3 y4,LeO (impl_MergeFirst.l0 k y0 y1 y2 y3 y4) (impl_MergeFirst.l0 (k+1) y0 y1 y2 y3 y4))
 | 0=>⟨fun _ _ _ _ r h=>by simp[impl_MergeFirst.j0]at h,fun _ _ _ _ _ r h=>by simp[impl_MergeFirst.l0]at h⟩
 | k+1=>by
  obtain⟨ih0,ih1⟩:=impl_MergeFirst.mono_l k
  refine⟨?_,?_⟩
  intros
  unfold impl_MergeFirst.j0
  rotate_left
  intros
  unfold impl_MergeFirst.l0
  rotate_left
  all_goals repeat' first|(with_reducible first|exact ih0 _ _ _ _|exact ih1 _ _ _ _ _|exact impl_IsSheet.mono _ _|exact impl_sheetOf.mono _ _|exact LeO.refl _|exact LeO.none _|refine LeO.ite ?_ ?_|refine LeO.bind ?_ (fun _=>?_))|exact ih0 _ _ _ _|exact ih1 _ _ _ _ _|exact impl_IsSheet.mono _ _|exact impl_sheetOf.mono _ _|exact LeO.none _|refine LeO.ite ?_ ?_|refine LeO.bind ?_ (fun _=>?_)
theorem impl_MergeFirst.mono:∀a0 a1 a2 k,LeO (impl_MergeFirst.f k a0 a1 a2) (impl_MergeFirst.f (k+1) a0 a1 a2):=by
 intro a0 a1 a2 k
 obtain⟨ih0,ih1⟩:=impl_MergeFirst.mono_l k
 unfold impl_MergeFirst.f
 repeat' first
  |(with_reducible exact ih0 _ _ _ _)
  |(with_reducible exact ih1 _ _ _ _ _)
  |(with_reducible exact impl_IsSheet.mono _ _)
  |(with_reducible exact impl_sheetOf.mono _ _)
  |(with_reducible exact LeO.refl _)
  |(with_reducible exact LeO.none _)
  |(with_reducible refine LeO.ite ?_ ?_)
  |(with_reducible refine LeO.bind ?_ (fun _=>?_))
  |exact ih0 _ _ _ _
  |exact ih1 _ _ _ _ _
  |exact impl_IsSheet.mono _ _
  |exact impl_sheetOf.mono _ _
  |exact LeO.none _
   | refine LeO.ite ?_ ?_
   | refine LeO.bind ?_ (fun _=>?_)
def impl_MergeFirst.T11:Bool×List (List Nat×List Nat):=(true, [([], []),([0], [0]),([], []),([2], [2]),([1,3,1], [1,3]),([4,4], [4]),([5], [5]),([6], [6]),([6], [6]),([7,5,0,1,2,3,4,5,6,7], [7]),([8,9,0,1,2,3,4,5,6,7,8,9], [8])])
def impl_MergeFirst.B11:List Nat:=[0,1,0,4,15,31,63,127,127,255,1023]
theorem impl_MergeFirst.tab11:rtab .any (opsOf Try.f38 11)=impl_MergeFirst.T11:=by kernel_rfl
theorem impl_MergeFirst.bits11:waitsOk impl_MergeFirst.T11.2 impl_MergeFirst.B11=true:=by kernel_rfl
set_option maxHeartbeats 8000000 in
set_option maxRecDepth 100000 in
theorem impl_MergeFirst.calls (k:Nat) (A0:Option Addr) (c0:Nat) (l0:List (S42)) (A1:Option Addr) (c1:Nat) (l1:List (S42)) (A2:Option Addr) (c2:Nat) (l2:List (S42)) (r1:List (S42)) (r2:Int) (r3:Bool) (w:World) (hr0:Kd.C k42 w A0 l0.length l0) (hc0:l0.length≤c0) (hr1:Kd.C k42 w A1 l1.length l1) (hc1:l1.length≤c1) (hr2:Kd.C k42 w A2 l2.length l2) (hc2:l2.length≤c2) (h:impl_MergeFirst.f k l0 l1 l2=some (r1,r2,r3)) :
 Calls Try.prog 38 #[.slice A0 l0.length c0, .slice A1 l1.length c1, .slice A2 l2.length c2] w fun e w'=>∃v0_:Value,e = .returned (.tuple #[v0_, .int .i64 r2, .bool r3])∧Kd.R k42 42 w' w.heap.size (fun _=>True) v0_ r1∧Below w.heap.size w w':=by
 have hu42:=Try.underlying42
 have HR0:=am_ hr0
 have HC0:=am_ hc0
 clear hr0 hc0
 have HR1:=am_ hr1
 have HC1:=am_ hc1
 clear hr1 hc1
 have HR2:=am_ hr2
 have HC2:=am_ hc2
 clear hr2 hc2
 have HB:=am_ (Below.refl w.heap.size w)
 have H:((impl_IsSheet.f k l0).bind fun t309=>(if t309=true then((impl_IsSheet.f k l1).bind fun t310=>(if t310=true then((impl_IsSheet.f k l2).bind fun t311=>(impl_MergeFirst.j0 k l0 l1 l2 (!t311))) else(impl_MergeFirst.j0 k l0 l1 l2 true))) else(impl_MergeFirst.j0 k l0 l1 l2 true)))=some (r1,r2,r3):=h
 clear h
 have HC4:=am_ H
 clear H
 go_enter Try.func38,Try.ntmps38
 go_upto_region 1 with (fail)
 go_cut [30] (fun v30 wc=>∃(kq:Nat) (x30_3:Bool),v30 = .bool x30_3∧Aside0 (impl_MergeFirst.j0 kq l0 l1 l2 x30_3=some (r1,r2,r3))∧Aside0 (kq≤k)∧Aside0 (Below w.heap.size w wc))
 case first=>
  have H:=HC4.out
  clear HC4
  obtain⟨t309,A5,H⟩:=bo_ H
  try dsimp only at H
  by_cases c6:t309=true
  ·subst c6
   replace H:((impl_IsSheet.f k l1).bind fun t310=>(if t310=true then((impl_IsSheet.f k l2).bind fun t311=>(impl_MergeFirst.j0 k l0 l1 l2 (!t311))) else(impl_MergeFirst.j0 k l0 l1 l2 true)))=some (r1,r2,r3):=by rw[if_pos rfl]at H;exact H
   obtain⟨t310,A7,H⟩:=bo_ H
   try dsimp only at H
   by_cases c8:t310=true
   ·subst c8
    replace H:((impl_IsSheet.f k l2).bind fun t311=>(impl_MergeFirst.j0 k l0 l1 l2 (!t311)))=some (r1,r2,r3):=by rw[if_pos rfl]at H;exact H
    obtain⟨t311,A9,H⟩:=bo_ H
    try dsimp only at H
    have H':=am_ H
    clear H
    go_wp2_with (first|((with_reducible refine gate_callee (f:=21) rfl ?_);refine goesL_ (some 19) rfl rfl Try.func21 (by kernel_rfl) rfl #[.slice A0 l0.length c0] rfl gd_ ?_;(with_reducible refine(impl_IsSheet.calls k _ _ l0 true _ ?side1 ?side2 A5.out).mono ?_);(case side1=>exact(a8_ HR0.out));(case side2=>exact HC0.out);rintro e w10 ⟨rfl,hb⟩;refine⟨_,rfl,?_⟩;replace HB:=am_ (below_step (a1_) hb);(try clear hb);(try clear hb2);(try clear hk);(try clear hi))|(go_at_call 21;(with_reducible refine(impl_IsSheet.calls k _ _ l1 true _ ?side1 ?side2 A7.out).mono ?_);(case side1=>exact(a8_ HR1.out));(case side2=>exact HC1.out);rintro e w11 ⟨rfl,hb⟩;replace HB:=am_ (below_step (a1_) hb);(try clear hb);(try clear hb2);(try clear hk);(try clear hi))|(go_at_call 21;(with_reducible refine(impl_IsSheet.calls k _ _ l2 t311 _ ?side1 ?side2 A9.out).mono ?_);(case side1=>exact(a8_ HR2.out));(case side2=>exact HC2.out);rintro e w12 ⟨rfl,hb⟩;replace HB:=am_ (below_step (a1_) hb);(try clear hb);(try clear hb2);(try clear hk);(try clear hi)))
    go_meet
    case rel=>exact⟨_,(!t311),(by first | rfl|(simp;done)|(simp[*];done)),H',⟨by first | omega|exact Nat.le_refl _⟩,⟨a1_⟩⟩
   ·replace c8:=Bool.eq_false_iff.mpr c8
    subst c8
    replace H:(impl_MergeFirst.j0 k l0 l1 l2 true)=some (r1,r2,r3):=by rw[if_neg (show ¬(false=true) by decide)]at H;exact H
    have H':=am_ H
    clear H
    go_wp2_with (first|((with_reducible refine gate_callee (f:=21) rfl ?_);refine goesL_ (some 19) rfl rfl Try.func21 (by kernel_rfl) rfl #[.slice A0 l0.length c0] rfl gd_ ?_;(with_reducible refine(impl_IsSheet.calls k _ _ l0 true _ ?side1 ?side2 A5.out).mono ?_);(case side1=>exact(a8_ HR0.out));(case side2=>exact HC0.out);rintro e w13 ⟨rfl,hb⟩;refine⟨_,rfl,?_⟩;replace HB:=am_ (below_step (a1_) hb);(try clear hb);(try clear hb2);(try clear hk);(try clear hi))|(go_at_call 21;(with_reducible refine(impl_IsSheet.calls k _ _ l1 false _ ?side1 ?side2 A7.out).mono ?_);(case side1=>exact(a8_ HR1.out));(case side2=>exact HC1.out);rintro e w14 ⟨rfl,hb⟩;replace HB:=am_ (below_step (a1_) hb);(try clear hb);(try clear hb2);(try clear hk);(try clear hi)))
    go_meet
    case rel=>exact⟨_,(true),(by first | rfl|(simp;done)|(simp[*];done)),H',⟨by first | omega|exact Nat.le_refl _⟩,⟨a1_⟩⟩
  ·replace c6:=Bool.eq_false_iff.mpr c6
   subst c6
   replace H:(impl_MergeFirst.j0 k l0 l1 l2 true)=some (r1,r2,r3):=by rw[if_neg (show ¬(false=true) by decide)]at H;exact H
   have H':=am_ H
   clear H
   go_wp2_with (first|((with_reducible refine gate_callee (f:=21) rfl ?_);refine goesL_ (some 19) rfl rfl Try.func21 (by kernel_rfl) rfl #[.slice A0 l0.length c0] rfl gd_ ?_;(with_reducible refine(impl_IsSheet.calls k _ _ l0 false _ ?side1 ?side2 A5.out).mono ?_);(case side1=>exact(a8_ HR0.out));(case side2=>exact HC0.out);rintro e w15 ⟨rfl,hb⟩;refine⟨_,rfl,?_⟩;replace HB:=am_ (below_step (a1_) hb);(try clear hb);(try clear hb2);(try clear hk);(try clear hi)))
   go_meet
   case rel=>exact⟨_,(true),(by first | rfl|(simp;done)|(simp[*];done)),H',⟨by first | omega|exact Nat.le_refl _⟩,⟨a1_⟩⟩
 case rest=>
  clear HC4
  try clear c1
  try clear c2
  try clear p2
  try clear c3
  try clear c6
  try clear c8
  obtain⟨kq,x30_3,rfl,HA,HJ3,HB⟩:=hcut
  cases kq with
  | zero=>exact absurd HA.out (by simp[impl_MergeFirst.j0])
  | succ kj3=>
   have H:=HA.out
   clear HA
   simp only[impl_MergeFirst.j0]at H
   by_cases c16:x30_3=true
   ·subst c16
    replace H:(some (([]:List (S42)),0,false))=some (r1,r2,r3):=by rw[if_pos rfl]at H;exact H
    simp only[Option.some.injEq,Prod.mk.injEq]at H
    obtain⟨rfl,rfl,rfl⟩:=H
    go_wp2
    go_ret3
    exact⟨_,a12_,a35_,a1_⟩
   ·replace c16:=Bool.eq_false_iff.mpr c16
    subst c16
    replace H:((impl_firstMerged.f l0 l1 l2).bind fun bt312=>((impl_sheetOf.f kj3 bt312.1).bind fun bt318=>(if bt318.2=true then(impl_MergeFirst.l0 kj3 bt318.1 0 bt312.2 (bt312.2.length:Int) 0) else(some (([]:List (S42)),0,false)))))=some (r1,r2,r3):=by rw[if_neg (show ¬(false=true) by decide)]at H;exact H
    obtain⟨⟨t312,t313⟩,A17,H⟩:=bo_ H
    try dsimp only at H
    obtain⟨⟨t318,t319⟩,A18,H⟩:=bo_ H
    try dsimp only at H
    by_cases c19:t319=true
    ·subst c19
     replace H:(impl_MergeFirst.l0 kj3 t318 0 t313 (t313.length:Int) 0)=some (r1,r2,r3):=by rw[if_pos rfl]at H;exact H
     have H':=am_ H
     clear H
     go_wp2_with (first|((with_reducible refine gate_callee (f:=87) rfl ?_);refine goesL_ (some 35) rfl rfl Try.func87 (by kernel_rfl) rfl #[.slice A0 l0.length c0, .slice A1 l1.length c1, .slice A2 l2.length c2] rfl gd_ ?_;(with_reducible refine(impl_firstMerged.calls _ _ l0 _ _ l1 _ _ l2 t312 t313 _ ?side1 ?side2 ?side3 ?side4 ?side5 ?side6 A17.out).mono ?_);(case side1=>exact(a8_ HR0.out));(case side2=>exact HC0.out);(case side3=>exact(a8_ HR1.out));(case side4=>exact HC1.out);(case side5=>exact(a8_ HR2.out));(case side6=>exact HC2.out);rintro e w20 ⟨v314,v316,rfl,ho0,ho1,hb⟩;refine⟨_,rfl,?_⟩;have HO315:=am_ (Kd.R_lower ho0 (below_size (a1_)));have HO317:=am_ (Kd.R_lower ho1 (below_size (a1_)));replace HB:=am_ (below_step (a1_) hb);(try clear hb);(try clear hb2);(try clear hk);(try clear hi);(try clear ho0);(try clear ho1);obtain⟨Ao21,co21,eo21⟩:=Kd.R_slice HO315.out;subst eo21)|((with_reducible refine gate_callee (f:=83) rfl ?_);refine goesL_ (some 40) rfl rfl Try.func83 (by kernel_rfl) rfl #[.slice Ao21 t312.length co21] rfl gd_ ?_;(with_reducible refine(impl_sheetOf.calls kj3 _ _ t312 t318 true _ ?side1 ?side2 A18.out).mono ?_);(case side1=>exact(a4_ HO315.out));(case side2=>exact(Kd.R_reads' HO315.out).2.1);rintro e w22 ⟨v320,rfl,ho0,hb⟩;refine⟨_,rfl,?_⟩;have HO321:=am_ (Kd.R_lower (Kd.R_new' (Kd.R_new' ho0 (Kd.R_lt ((a0_ HO315.out)))) (Kd.R_lt ((a0_ HO317.out)))) (below_size (a1_)));replace HO315:=am_ (Kd.R_elder' ((a0_ HO315.out)) (Kd.R_base ho0) hb);replace HO317:=am_ (Kd.R_elder' ((a0_ HO317.out)) (Kd.R_base ho0) hb);replace HB:=am_ (below_step (a1_) hb);(try clear hb);(try clear hb2);(try clear hk);(try clear hi);(try clear ho0);obtain⟨Ao23,co23,eo23⟩:=Kd.R_slice HO317.out;subst eo23))
     go_loopg [11,13,47] kj3 (fun kq v11 v13 v47 w'=>∃(x11_2:List (S42)) (x13_2:Int) (x47_2:Int),v13 = .int .i64 x13_2∧v47 = .int .i64 x47_2∧Aside0 (impl_MergeFirst.l0 kq x11_2 x13_2 t313 (t313.length:Int) x47_2=some (r1,r2,r3))∧Aside0 (kq≤kj3)∧Aside0 (Kd.R k42 42 w' w.heap.size (fun k_=>some k_≠((.slice Ao23 t313.length co23):Value).ownBlock) v11 x11_2)∧Aside0 (Kd.R k42 42 w' w.heap.size (fun k_=>some k_≠(v11:Value).ownBlock) (.slice Ao23 t313.length co23) t313)∧Aside0 (Below w.heap.size w w'))
     case atStart=>exact⟨(t318),(0),(0),(by first | rfl|(simp;done)|(simp[*];done)),(by first | rfl|(simp;done)|(simp[*];done)),H',⟨Nat.le_refl _⟩,⟨(a44_ HO321.out)⟩,⟨(a44_ HO317.out)⟩,⟨a1_⟩⟩
     case round=>
      clear H'
      try clear c1
      try clear c2
      try clear p2
      try clear c3
      try clear c6
      try clear c8
      try clear c16
      try clear c19
      try clear c21
      try clear p2
      obtain⟨x11_2,x13_2,x47_2,rfl,rfl,HA,HK2,HO_11,HO_45,HB⟩:=hrel
      cases gk with
      | zero=>exact absurd HA.out (by simp[impl_MergeFirst.l0])
      | succ k2=>
       have H:=HA.out
       clear HA
       simp only[impl_MergeFirst.l0]at H
       by_cases c24:x47_2<(t313.length:Int)
       ·rw[if_pos c24]at H
        have c24b0:decide (x47_2<(t313.length:Int))=true:=decide_eq_true c24
        clear c24
        by_cases c25:0≤x47_2
        ·rw[if_pos c25]at H
         have c25b0:decide (0≤x47_2)=true:=decide_eq_true c25
         clear c25
         by_cases c26:x47_2<(t313.length:Int)
         ·rw[if_pos c26]at H
          have c26b0:decide (x47_2<(t313.length:Int))=true:=decide_eq_true c26
          clear c26
          obtain⟨t324,A27,H⟩:=bo_ H
          try dsimp only at H
          obtain⟨y327,hy327⟩:∃y_:List (S42),y_=(([(⟨(rd_T42 t313 x47_2).f0,(rd_T42 t313 x47_2).f1,(rd_T42 t313 x47_2).f2⟩:S42)]:List (S42))):=⟨_,rfl⟩
          replace H:(if t324.length+y327.length<5864062014805 then((impl_sheetOf.f k2 (t324 ++ y327)).bind fun bt333=>(if bt333.2=true then(impl_MergeFirst.l0 k2 bt333.1 x13_2 t313 (t313.length:Int) (wrap64 (x47_2+1))) else(impl_MergeFirst.l0 k2 x11_2 (wrap64 (x13_2+1)) t313 (t313.length:Int) (wrap64 (x47_2+1))))) else(none))=some (r1,r2,r3):=by first|(rw[hy327];with_reducible exact H)|(have H2_:=(Option.bind_some _ _).symm.trans H;rw[hy327];with_reducible exact H2_)|(have H2_:=(Option.bind_some _ _).symm.trans H;with_reducible exact H2_) | with_reducible exact H|(rw[hy327];exact H)|exact H
          have Ny327:=am_ hy327
          clear hy327
          by_cases c28:t324.length+y327.length<5864062014805
          ·rw[if_pos c28]at H
           have LMc28:=am_ c28
           clear c28
           obtain⟨y330,hy330⟩:∃y_:List (S42),y_=(t324 ++ y327):=⟨_,rfl⟩
           replace H:((impl_sheetOf.f k2 y330).bind fun bt333=>(if bt333.2=true then(impl_MergeFirst.l0 k2 bt333.1 x13_2 t313 (t313.length:Int) (wrap64 (x47_2+1))) else(impl_MergeFirst.l0 k2 x11_2 (wrap64 (x13_2+1)) t313 (t313.length:Int) (wrap64 (x47_2+1)))))=some (r1,r2,r3):=by first|(rw[hy330];with_reducible exact H)|(have H2_:=(Option.bind_some _ _).symm.trans H;rw[hy330];with_reducible exact H2_)|(have H2_:=(Option.bind_some _ _).symm.trans H;with_reducible exact H2_) | with_reducible exact H|(rw[hy330];exact H)|exact H
           have Ny330:=am_ hy330
           clear hy330
           obtain⟨⟨t333,t334⟩,A29,H⟩:=bo_ H
           try dsimp only at H
           by_cases c30:t334=true
           ·subst c30
            replace H:(impl_MergeFirst.l0 k2 t333 x13_2 t313 (t313.length:Int) (wrap64 (x47_2+1)))=some (r1,r2,r3):=by rw[if_pos rfl]at H;exact H
            have H':=am_ H
            clear H
            have p322:0≤(x47_2:Int):=of_decide_eq_true (a13_)
            have q322:x47_2<(t313.length:Int):=of_decide_eq_true (a13_)
            obtain⟨ad322,e322,hx322_0,hx322_1,hx322_2⟩:=at_T42 (Kd.R_reads' HO_45.out).2.2 x47_2 p322 q322
            cases e322
            replace p322:=eq_true p322
            replace q322:=eq_true q322
            try go_wp2_with (first|((with_reducible refine gate_dst (N:=15) rfl ?_);refine box_event ?hg (N:=15) ?hd (cs:= #[.int .i64 0, .int .i64 0, .int .i64 0]) (t:=42) ?hr ?_;(case hd=>rfl);(case hg=>rfl);(case hr=>exact hr_);intro gb323 hg w31 hbox hb;replace HO_11:=am_ (Kd.R_below (Kd.R_elderB ((a0_ HO_11.out)) gb323 (Nat.le_of_eq hg.symm)) hb);replace HO_45:=am_ (Kd.R_below (Kd.R_elderB ((a0_ HO_45.out)) gb323 (Nat.le_of_eq hg.symm)) hb);have BK323:=am_ (hbox);have GW323:=am_ ((by rw[hg];exact(below_size (a1_)):w.heap.size≤gb323));have GE323:=am_ ((by rw[hg];exact(below_size (a1_)):w.heap.size≤gb323));replace HB:=am_ (below_step (a1_) hb);clear hb hbox hg;have hcz32_0:w31.cell? ⟨gb323,0,none⟩=some (.int .i64 0):=(blk_cell BK323.out 0).trans rfl;have hcz32_1:w31.cell? ⟨gb323,1,none⟩=some (.int .i64 0):=(blk_cell BK323.out 1).trans rfl;have hcz32_2:w31.cell? ⟨gb323,2,none⟩=some (.int .i64 0):=(blk_cell BK323.out 2).trans rfl;have hfz32_0:=blk_frozen BK323.out 0;have hfz32_1:=blk_frozen BK323.out 1;have hfz32_2:=blk_frozen BK323.out 2;obtain⟨Ao33,co33,eo33⟩:=Kd.R_slice HO_11.out;subst eo33))
            have n0_:Aside0 (Kd.R k42 42 (((w31.setCell ⟨gb323,0,none⟩ (.int .i64 ((rd_T42 t313 x47_2).f0))).setCell ⟨gb323,1,none⟩ (.int .i64 ((rd_T42 t313 x47_2).f1))).setCell ⟨gb323,2,none⟩ (.int .i64 ((rd_T42 t313 x47_2).f2))) w.heap.size (fun k_=>some k_≠(.slice (some ad322) t313.length co23:Value).ownBlock∧k_≠gb323) (.slice Ao33 x11_2.length co33) x11_2):=⟨(a31_ HO_11.out)⟩
            have n1_:Aside0 (Kd.R k42 42 (((w31.setCell ⟨gb323,0,none⟩ (.int .i64 ((rd_T42 t313 x47_2).f0))).setCell ⟨gb323,1,none⟩ (.int .i64 ((rd_T42 t313 x47_2).f1))).setCell ⟨gb323,2,none⟩ (.int .i64 ((rd_T42 t313 x47_2).f2))) w.heap.size (fun k_=>some k_≠(.slice Ao33 x11_2.length co33:Value).ownBlock∧k_≠gb323) (.slice (some ad322) t313.length co23) t313):=⟨(a31_ HO_45.out)⟩
            have n2_:Aside0 ((((w31.setCell ⟨gb323,0,none⟩ (.int .i64 ((rd_T42 t313 x47_2).f0))).setCell ⟨gb323,1,none⟩ (.int .i64 ((rd_T42 t313 x47_2).f1))).setCell ⟨gb323,2,none⟩ (.int .i64 ((rd_T42 t313 x47_2).f2))).heap[gb323]? = some (.cells #[.int .i64 ((rd_T42 t313 x47_2).f0), .int .i64 ((rd_T42 t313 x47_2).f1), .int .i64 ((rd_T42 t313 x47_2).f2)] 42 (0,0))):=⟨(a36_ BK323.out)⟩
            have n3_:Aside0 (Below w.heap.size w (((w31.setCell ⟨gb323,0,none⟩ (.int .i64 ((rd_T42 t313 x47_2).f0))).setCell ⟨gb323,1,none⟩ (.int .i64 ((rd_T42 t313 x47_2).f1))).setCell ⟨gb323,2,none⟩ (.int .i64 ((rd_T42 t313 x47_2).f2)))):=⟨(a2_ GE323.out)⟩
            (try clear HO_11)
            (try clear HO_45)
            (try clear BK323)
            (try clear HB)
            generalize (((w31.setCell ⟨gb323,0,none⟩ (.int .i64 ((rd_T42 t313 x47_2).f0))).setCell ⟨gb323,1,none⟩ (.int .i64 ((rd_T42 t313 x47_2).f1))).setCell ⟨gb323,2,none⟩ (.int .i64 ((rd_T42 t313 x47_2).f2)))=w34 at n0_ n1_ n2_ n3_ ⊢
            have HO_11:=n0_
            have HO_45:=n1_
            have BK323:=n2_
            have HB:=n3_
            clear n0_ n1_ n2_ n3_
            replace HO_11:=am_ (Kd.R_drew HO_11.out)
            replace HO_45:=am_ (Kd.R_drew HO_45.out)
            replace BK323:=am_ (blk_drew BK323.out)
            replace HB:=am_ (below_drew1 HB.out)
            refine start_ (n:=11) (S:=fun w'=>w'.cell? ⟨gb323,0,none⟩=some (.int .i64 ((rd_T42 t313 x47_2).f0))∧w'.cell? ⟨gb323,1,none⟩=some (.int .i64 ((rd_T42 t313 x47_2).f1))∧w'.cell? ⟨gb323,2,none⟩=some (.int .i64 ((rd_T42 t313 x47_2).f2))) (ds:=[]) #[false,false,false,false,false,false,false,false,false,false,false] (by kernel_rfl) rfl rfl ⟨(blk_cell BK323.out 0).trans rfl,(blk_cell BK323.out 1).trans rfl,(blk_cell BK323.out 2).trans rfl⟩ (fun hHeld=>?_);refine with_tabW impl_MergeFirst.tab11 impl_MergeFirst.bits11 (fun HT_ HW_=>?_)
            generalize w34.drew=w35 at HO_11 HO_45 BK323 HB hHeld ⊢
            refine pure_ (i:=0) (N:=some 52) (v:=?_) (a':=?_) #[true,false,false,false,false,false,false,false,false,false,false] rfl rfl (any_of HT_.out (by kernel_rfl)) (fun _ _ _ h=>h) (Or.inl ⟨by rfl,?_⟩) ?_ ?_
            rotate_left
            ·intro w'
             go_simp
             with_reducible rfl
            rotate_left
            ·simp only[Act.put,pu_]
             rfl
            refine take_ (i:=2) (N:=some 54) (v:=?_) (a':=?_) #[true,false,true,false,false,false,false,false,false,false,false] rfl rfl (take_ofW HT_.out HW_.out (by kernel_rfl)) (fun _ _ _ h=>h) (Or.inl ⟨by rfl,?_⟩) hHeld ?_ ?_
            rotate_left
            ·rintro w' ⟨s0,s1,s2⟩
             go_simp
             with_reducible rfl
            rotate_left
            ·simp only[Act.put,pu_]
             rfl
            refine join_ (σ:=Value×Value) 7 #[true,true,true,true,false,false,false,false,false,false,false] (fun s_=> [(53,s_.1),(55,s_.2)]) (fun s_ w'=>(w'.cell? ⟨gb323,0,none⟩=some (.int .i64 ((rd_T42 t313 x47_2).f0))∧w'.cell? ⟨gb323,1,none⟩=some (.int .i64 ((rd_T42 t313 x47_2).f1))∧w'.cell? ⟨gb323,2,none⟩=some (.int .i64 ((rd_T42 t313 x47_2).f2)))∧(Kd.R k42 42 w' w.heap.size (fun k_=>some k_≠(s_.2:Value).ownBlock∧some k_≠(.slice Ao33 x11_2.length co33:Value).ownBlock∧some k_≠(.slice (some ad322) t313.length co23:Value).ownBlock∧k_≠gb323) s_.1 t324)∧(Kd.R k42 42 w' w.heap.size (fun k_=>some k_≠(s_.1:Value).ownBlock∧some k_≠(.slice Ao33 x11_2.length co33:Value).ownBlock∧some k_≠(.slice (some ad322) t313.length co23:Value).ownBlock∧k_≠gb323) s_.2 y327)∧(Kd.R k42 42 w' w.heap.size (fun k_=>some k_≠(s_.1:Value).ownBlock∧some k_≠(s_.2:Value).ownBlock∧some k_≠(.slice (some ad322) t313.length co23:Value).ownBlock∧k_≠gb323) (.slice Ao33 x11_2.length co33) x11_2)∧(Kd.R k42 42 w' w.heap.size (fun k_=>some k_≠(s_.1:Value).ownBlock∧some k_≠(s_.2:Value).ownBlock∧some k_≠(.slice Ao33 x11_2.length co33:Value).ownBlock∧k_≠gb323) (.slice (some ad322) t313.length co23) t313)∧(w'.heap[gb323]? = some (.cells #[.int .i64 ((rd_T42 t313 x47_2).f0), .int .i64 ((rd_T42 t313 x47_2).f1), .int .i64 ((rd_T42 t313 x47_2).f2)] 42 (0,0)))∧(Below w.heap.size w w')) ?_ ?_
            rotate_left
            ·intro hCont
             refine two_ (i:=1) (j:=3) (Ni:=some 53) (Nj:=some 55) #[true,true,true,false,false,false,false,false,false,false,false] #[true,false,true,true,false,false,false,false,false,false,false] rfl rfl rfl rfl (two_of HT_.out (by kernel_rfl)) (by decide) (by decide) (fun K hK=>?_) (fun K hK=>?_)
             ·skip
              refine goes_ Try.func66 (by kernel_rfl) rfl #[.slice Ao33 x11_2.length co33] (by rfl) rfl rfl gd_ ?_
              with_reducible refine(impl_Hole_66.calls _ _ x11_2 t324 _ ?side1 ?side2 A27.out).mono ?_
              (case side1=>exact(a4_ HO_11.out))
              (case side2=>exact(Kd.R_reads' HO_11.out).2.1)
              rintro e w36 ⟨v325,rfl,ho0,hb⟩
              refine⟨_,rfl,?_⟩
              have HO326:=am_ (Kd.R_lower (Kd.R_newB (Kd.R_new' (Kd.R_new' ho0 (Kd.R_lt ((a0_ HO_11.out)))) (Kd.R_lt ((a0_ HO_45.out)))) (g:=gb323) (o:= .cells #[.int .i64 ((rd_T42 t313 x47_2).f0), .int .i64 ((rd_T42 t313 x47_2).f1), .int .i64 ((rd_T42 t313 x47_2).f2)] 42 (0,0)) ((a3_ BK323.out))) (below_size ((a2_ GE323.out))))
              replace HO_11:=am_ (Kd.R_elder' ((a0_ HO_11.out)) (Kd.R_base ho0) hb)
              replace HO_45:=am_ (Kd.R_elder' ((a0_ HO_45.out)) (Kd.R_base ho0) hb)
              replace BK323:=am_ (blk_below (g:=gb323) (o:= .cells #[.int .i64 ((rd_T42 t313 x47_2).f0), .int .i64 ((rd_T42 t313 x47_2).f1), .int .i64 ((rd_T42 t313 x47_2).f2)] 42 (0,0)) ((a3_ BK323.out)) hb)
              replace HB:=am_ (below_step ((a2_ GE323.out)) hb)
              (try clear hb)
              (try clear hb2)
              (try clear hk)
              (try clear hi)
              (try clear ho0)
              refine hK.out _ _ ⟨(blk_cell BK323.out 0).trans rfl,(blk_cell BK323.out 1).trans rfl,(blk_cell BK323.out 2).trans rfl⟩ (fun hHeld=>?_)
              clear hK K
              refine norm_ (a':=?_) ?_ ?_
              rotate_left
              ·show Act.put _ (some 53) _=_
               simp only[Act.put,pu_]
               rfl
              refine one_ (i:=3) (N:=some 55) #[true,true,true,true,false,false,false,false,false,false,false] rfl rfl (one_of HT_.out (by kernel_rfl)) (by decide) (fun K hK=>?_)
              refine Kd.R_lit_step k42 _ 42 ?hg (N:=55) ?hd (xs:=([(⟨(rd_T42 t313 x47_2).f0,(rd_T42 t313 x47_2).f1,(rd_T42 t313 x47_2).f2⟩:S42)]:List (S42))) (inner:=[.int .i64 ((rd_T42 t313 x47_2).f0), .int .i64 ((rd_T42 t313 x47_2).f1), .int .i64 ((rd_T42 t313 x47_2).f2)]) (ok:=fun _=>True) (okp:=fun _=>True) ?hr ?hp (fun _ hk=>hk) trivial (Below.refl _ _) (Nat.le_refl _) (by simp) ?_;(case hd=>rfl);(case hg=>rfl);(case hr=>exact hr_);(case hp=>exact(Reps.c3 (show Kd.M k42 _ _ _ (⟨(rd_T42 t313 x47_2).f0,(rd_T42 t313 x47_2).f1,(rd_T42 t313 x47_2).f2⟩:S42) [.int .i64 ((rd_T42 t313 x47_2).f0), .int .i64 ((rd_T42 t313 x47_2).f1), .int .i64 ((rd_T42 t313 x47_2).f2)] from(k42_mkM _ _ _ (⟨(rd_T42 t313 x47_2).f0,(rd_T42 t313 x47_2).f1,(rd_T42 t313 x47_2).f2⟩:S42) )) (Reps.none _ _)))
              intro v328 w37 ho38 hb hg_ hnew_
              clear hg_ hnew_
              (first|rw[← Ny327.out]at ho38|(simp only[Int.reduceToNat]at ho38;rw[← Ny327.out]at ho38))
              have HO329:=am_ (Kd.R_lower (Kd.R_newB (Kd.R_new' (Kd.R_new' (Kd.R_new' ho38 (Kd.R_lt ((a0_ HO_11.out)))) (Kd.R_lt ((a0_ HO_45.out)))) (Kd.R_lt ((a0_ HO326.out)))) (g:=gb323) (o:= .cells #[.int .i64 ((rd_T42 t313 x47_2).f0), .int .i64 ((rd_T42 t313 x47_2).f1), .int .i64 ((rd_T42 t313 x47_2).f2)] 42 (0,0)) ((a3_ BK323.out))) (below_size ((a2_ GE323.out))))
              replace HO_11:=am_ (Kd.R_elder' ((a0_ HO_11.out)) (Kd.R_base ho38) hb)
              replace HO_45:=am_ (Kd.R_elder' ((a0_ HO_45.out)) (Kd.R_base ho38) hb)
              replace HO326:=am_ (Kd.R_elder' ((a0_ HO326.out)) (Kd.R_base ho38) hb)
              replace BK323:=am_ (blk_below (g:=gb323) (o:= .cells #[.int .i64 ((rd_T42 t313 x47_2).f0), .int .i64 ((rd_T42 t313 x47_2).f1), .int .i64 ((rd_T42 t313 x47_2).f2)] 42 (0,0)) ((a3_ BK323.out)) hb)
              replace HB:=am_ (below_step ((a2_ GE323.out)) hb)
              clear hb ho38
              refine hK.out _ _ ⟨(blk_cell BK323.out 0).trans rfl,(blk_cell BK323.out 1).trans rfl,(blk_cell BK323.out 2).trans rfl⟩ (fun hHeld=>?_)
              clear hK K
              refine norm_ (a':=?_) ?_ ?_
              rotate_left
              ·show Act.put _ (some 55) _=_
               simp only[Act.put,pu_]
               rfl
              exact norm_ (by simp only[putAll,Act.put,List.setIfInBounds_toArray,List.set_cons_zero,List.set_cons_succ]) (hCont (v325,v328) _ ⟨hHeld,((a56_ HO326.out)),((a57_ HO329.out)),((a58_ HO_11.out)),((a58_ HO_45.out)),((a3_ BK323.out)),((a2_ GE323.out))⟩)
             ·skip
              refine Kd.R_lit_step k42 _ 42 ?hg (N:=55) ?hd (xs:=([(⟨(rd_T42 t313 x47_2).f0,(rd_T42 t313 x47_2).f1,(rd_T42 t313 x47_2).f2⟩:S42)]:List (S42))) (inner:=[.int .i64 ((rd_T42 t313 x47_2).f0), .int .i64 ((rd_T42 t313 x47_2).f1), .int .i64 ((rd_T42 t313 x47_2).f2)]) (ok:=fun _=>True) (okp:=fun _=>True) ?hr ?hp (fun _ hk=>hk) trivial (Below.refl _ _) (Nat.le_refl _) (by simp) ?_;(case hd=>rfl);(case hg=>rfl);(case hr=>exact hr_);(case hp=>exact(Reps.c3 (show Kd.M k42 _ _ _ (⟨(rd_T42 t313 x47_2).f0,(rd_T42 t313 x47_2).f1,(rd_T42 t313 x47_2).f2⟩:S42) [.int .i64 ((rd_T42 t313 x47_2).f0), .int .i64 ((rd_T42 t313 x47_2).f1), .int .i64 ((rd_T42 t313 x47_2).f2)] from(k42_mkM _ _ _ (⟨(rd_T42 t313 x47_2).f0,(rd_T42 t313 x47_2).f1,(rd_T42 t313 x47_2).f2⟩:S42) )) (Reps.none _ _)))
              intro v328 w36 ho37 hb hg_ hnew_
              clear hg_ hnew_
              (first|rw[← Ny327.out]at ho37|(simp only[Int.reduceToNat]at ho37;rw[← Ny327.out]at ho37))
              have HO329:=am_ (Kd.R_lower (Kd.R_newB (Kd.R_new' (Kd.R_new' ho37 (Kd.R_lt ((a0_ HO_11.out)))) (Kd.R_lt ((a0_ HO_45.out)))) (g:=gb323) (o:= .cells #[.int .i64 ((rd_T42 t313 x47_2).f0), .int .i64 ((rd_T42 t313 x47_2).f1), .int .i64 ((rd_T42 t313 x47_2).f2)] 42 (0,0)) ((a3_ BK323.out))) (below_size ((a2_ GE323.out))))
              replace HO_11:=am_ (Kd.R_elder' ((a0_ HO_11.out)) (Kd.R_base ho37) hb)
              replace HO_45:=am_ (Kd.R_elder' ((a0_ HO_45.out)) (Kd.R_base ho37) hb)
              replace BK323:=am_ (blk_below (g:=gb323) (o:= .cells #[.int .i64 ((rd_T42 t313 x47_2).f0), .int .i64 ((rd_T42 t313 x47_2).f1), .int .i64 ((rd_T42 t313 x47_2).f2)] 42 (0,0)) ((a3_ BK323.out)) hb)
              replace HB:=am_ (below_step ((a2_ GE323.out)) hb)
              clear hb ho37
              refine hK.out _ _ ⟨(blk_cell BK323.out 0).trans rfl,(blk_cell BK323.out 1).trans rfl,(blk_cell BK323.out 2).trans rfl⟩ (fun hHeld=>?_)
              clear hK K
              refine norm_ (a':=?_) ?_ ?_
              rotate_left
              ·show Act.put _ (some 55) _=_
               simp only[Act.put,pu_]
               rfl
              refine one_ (i:=1) (N:=some 53) #[true,true,true,true,false,false,false,false,false,false,false] rfl rfl (one_of HT_.out (by kernel_rfl)) (by decide) (fun K hK=>?_)
              refine goes_ Try.func66 (by kernel_rfl) rfl #[.slice Ao33 x11_2.length co33] (by rfl) rfl rfl gd_ ?_
              with_reducible refine(impl_Hole_66.calls _ _ x11_2 t324 _ ?side1 ?side2 A27.out).mono ?_
              (case side1=>exact(a4_ HO_11.out))
              (case side2=>exact(Kd.R_reads' HO_11.out).2.1)
              rintro e w38 ⟨v325,rfl,ho0,hb⟩
              refine⟨_,rfl,?_⟩
              have HO326:=am_ (Kd.R_lower (Kd.R_newB (Kd.R_new' (Kd.R_new' (Kd.R_new' ho0 (Kd.R_lt ((a0_ HO_11.out)))) (Kd.R_lt ((a0_ HO_45.out)))) (Kd.R_lt ((a0_ HO329.out)))) (g:=gb323) (o:= .cells #[.int .i64 ((rd_T42 t313 x47_2).f0), .int .i64 ((rd_T42 t313 x47_2).f1), .int .i64 ((rd_T42 t313 x47_2).f2)] 42 (0,0)) ((a3_ BK323.out))) (below_size ((a2_ GE323.out))))
              replace HO_11:=am_ (Kd.R_elder' ((a0_ HO_11.out)) (Kd.R_base ho0) hb)
              replace HO_45:=am_ (Kd.R_elder' ((a0_ HO_45.out)) (Kd.R_base ho0) hb)
              replace HO329:=am_ (Kd.R_elder' ((a0_ HO329.out)) (Kd.R_base ho0) hb)
              replace BK323:=am_ (blk_below (g:=gb323) (o:= .cells #[.int .i64 ((rd_T42 t313 x47_2).f0), .int .i64 ((rd_T42 t313 x47_2).f1), .int .i64 ((rd_T42 t313 x47_2).f2)] 42 (0,0)) ((a3_ BK323.out)) hb)
              replace HB:=am_ (below_step ((a2_ GE323.out)) hb)
              (try clear hb)
              (try clear hb2)
              (try clear hk)
              (try clear hi)
              (try clear ho0)
              refine hK.out _ _ ⟨(blk_cell BK323.out 0).trans rfl,(blk_cell BK323.out 1).trans rfl,(blk_cell BK323.out 2).trans rfl⟩ (fun hHeld=>?_)
              clear hK K
              refine norm_ (a':=?_) ?_ ?_
              rotate_left
              ·show Act.put _ (some 53) _=_
               simp only[Act.put,pu_]
               rfl
              exact norm_ (by simp only[putAll,Act.put,List.setIfInBounds_toArray,List.set_cons_zero,List.set_cons_succ]) (hCont (v325,v328) _ ⟨hHeld,((a57_ HO326.out)),((a56_ HO329.out)),((a59_ HO_11.out)),((a59_ HO_45.out)),((a3_ BK323.out)),((a2_ GE323.out))⟩)
            rintro⟨v325,v328⟩ w39 ⟨hS_,h0_,h1_,h2_,h3_,h4_,h5_⟩
            have n0_:Aside0 (Kd.R k42 42 w39 w.heap.size (fun k_=>some k_≠(v328:Value).ownBlock∧some k_≠(.slice Ao33 x11_2.length co33:Value).ownBlock∧some k_≠(.slice (some ad322) t313.length co23:Value).ownBlock∧k_≠gb323) v325 t324):=⟨h0_⟩
            have n1_:Aside0 (Kd.R k42 42 w39 w.heap.size (fun k_=>some k_≠(v325:Value).ownBlock∧some k_≠(.slice Ao33 x11_2.length co33:Value).ownBlock∧some k_≠(.slice (some ad322) t313.length co23:Value).ownBlock∧k_≠gb323) v328 y327):=⟨h1_⟩
            have n2_:Aside0 (Kd.R k42 42 w39 w.heap.size (fun k_=>some k_≠(v325:Value).ownBlock∧some k_≠(v328:Value).ownBlock∧some k_≠(.slice (some ad322) t313.length co23:Value).ownBlock∧k_≠gb323) (.slice Ao33 x11_2.length co33) x11_2):=⟨h2_⟩
            have n3_:Aside0 (Kd.R k42 42 w39 w.heap.size (fun k_=>some k_≠(v325:Value).ownBlock∧some k_≠(v328:Value).ownBlock∧some k_≠(.slice Ao33 x11_2.length co33:Value).ownBlock∧k_≠gb323) (.slice (some ad322) t313.length co23) t313):=⟨h3_⟩
            have n4_:Aside0 (w39.heap[gb323]? = some (.cells #[.int .i64 ((rd_T42 t313 x47_2).f0), .int .i64 ((rd_T42 t313 x47_2).f1), .int .i64 ((rd_T42 t313 x47_2).f2)] 42 (0,0))):=⟨h4_⟩
            have n5_:Aside0 (Below w.heap.size w w39):=⟨h5_⟩
            clear HO_11 HO_45 BK323 HB h0_ h1_ h2_ h3_ h4_ h5_
            have HO326:=n0_
            have HO329:=n1_
            have HO_11:=n2_
            have HO_45:=n3_
            have BK323:=n4_
            have HB:=n5_
            clear n0_ n1_ n2_ n3_ n4_ n5_
            have hHeld:w39.cell? ⟨gb323,0,none⟩=some (.int .i64 ((rd_T42 t313 x47_2).f0))∧w39.cell? ⟨gb323,1,none⟩=some (.int .i64 ((rd_T42 t313 x47_2).f1))∧w39.cell? ⟨gb323,2,none⟩=some (.int .i64 ((rd_T42 t313 x47_2).f2)):=hS_
            obtain⟨Ao41,co41,eo41⟩:=Kd.R_slice HO329.out
            (first|subst eo41|(injection eo41 with f1_ f2_ f3_;have f4_:=f1_.symm;have f5_:=f3_.symm;clear f1_ f2_ f3_;subst f4_;subst f5_))
            refine norm_ (a':=?_) ?_ ?_
            rotate_left
            ·simp only[putAll,Act.put,List.setIfInBounds_toArray,List.set_cons_zero,List.set_cons_succ]
             rfl
            refine one_ (i:=4) (N:=some 56) #[true,true,true,true,true,false,false,false,false,false,false] rfl rfl (one_of HT_.out (by kernel_rfl)) (by decide) (fun K hK=>?_)
            refine Kd.R_append_rows_step k42 (w0:=w) w.heap.size (by rfl) (.tmp 53) (.tmp 55) 32 42 (.agg #[(.int .i64 0),(.int .i64 0),(.int .i64 0)]) 24 rfl Try.underlying32 info42 rfl (by decide) (by omega) v325 t324 y327 _ _ _ (fun k_=>some k_≠(.slice Ao33 x11_2.length co33:Value).ownBlock∧some k_≠(.slice (some ad322) t313.length co23:Value).ownBlock∧some k_≠(.slice Ao41 y327.length co41:Value).ownBlock∧k_≠gb323) (fun _=>False) rfl rfl ?aO ?aR (fun _ _ h=>h) (fun _ h=>h.elim) ?aF ?aB ?aS ?aL ?_
            (case aR=>exact(a4_ HO329.out))
            (case aB=>exact((a2_ GE323.out)))
            (case aF=>exact(fun k_ hk=>⟨Kd.fresh' (Kd.R_lt ((a0_ HO_11.out))) k_ hk,Kd.fresh' (Kd.R_lt ((a0_ HO_45.out))) k_ hk,Kd.fresh' (Kd.R_lt ((a0_ HO329.out))) k_ hk,Kd.freshB (g:=gb323) (o:= .cells #[.int .i64 ((rd_T42 t313 x47_2).f0), .int .i64 ((rd_T42 t313 x47_2).f1), .int .i64 ((rd_T42 t313 x47_2).f2)] 42 (0,0)) ((a3_ BK323.out)) k_ hk⟩))
            (case aO=>exact((a69_ HO326.out)))
            (case aS=>exact(below_size ((a2_ GE323.out))))
            (case aL=>have:=LMc28.out;omega)
            intro v331 w40 ho hb hg hat
            rw[← Ny330.out]at ho
            have n0_:=am_ (Kd.R_after (ok:=(fun k_=>some k_≠(.slice (some ad322) t313.length co23:Value).ownBlock∧some k_≠(.slice Ao41 y327.length co41:Value).ownBlock∧k_≠gb323)) ((a60_ HO_11.out)) hg hat)
            have n1_:=am_ (Kd.R_after (ok:=(fun k_=>some k_≠(.slice Ao33 x11_2.length co33:Value).ownBlock∧some k_≠(.slice Ao41 y327.length co41:Value).ownBlock∧k_≠gb323)) ((a60_ HO_45.out)) hg hat)
            have n2_:=am_ (blk_grown (g:=gb323) (o:= .cells #[.int .i64 ((rd_T42 t313 x47_2).f0), .int .i64 ((rd_T42 t313 x47_2).f1), .int .i64 ((rd_T42 t313 x47_2).f2)] 42 (0,0)) ((a3_ BK323.out)) hg (Kd.R_away HO326.out (fun _ hk=>hk.2.2.2)))
            have n3_:=am_ (Kd.R_after (ok:=(fun k_=>some k_≠(.slice Ao33 x11_2.length co33:Value).ownBlock∧some k_≠(.slice (some ad322) t313.length co23:Value).ownBlock∧k_≠gb323)) ((a70_ HO329.out)) hg hat)
            have n4_:=am_ (hb)
            have n5_:=am_ (ho)
            clear HO_11 HO_45 BK323 HO329 HB HO326
            have HO_11:=n0_
            have HO_45:=n1_
            have BK323:=n2_
            have HO329:=n3_
            have HB:=n4_
            have HO332:=n5_
            clear n0_ n1_ n2_ n3_ n4_ n5_ ho hb hg hat
            obtain⟨Ao42,co42,eo42⟩:=Kd.R_slice HO332.out
            (first|subst eo42|(injection eo42 with f1_ f2_ f3_;have f4_:=f1_.symm;have f5_:=f3_.symm;clear f1_ f2_ f3_;subst f4_;subst f5_))
            refine hK.out _ _ ⟨(blk_cell BK323.out 0).trans rfl,(blk_cell BK323.out 1).trans rfl,(blk_cell BK323.out 2).trans rfl⟩ (fun hHeld=>?_)
            clear hK K
            refine norm_ (a':=?_) ?_ ?_
            rotate_left
            ·show Act.put _ (some 56) _=_
             simp only[Act.put,pu_]
             rfl
            refine one_ (i:=5) (N:=some 57) #[true,true,true,true,true,true,false,false,false,false,false] rfl rfl (one_of HT_.out (by kernel_rfl)) (by decide) (fun K hK=>?_)
            refine goes_ Try.func83 (by kernel_rfl) rfl #[.slice Ao42 y330.length co42] (by rfl) rfl rfl gd_ ?_
            with_reducible refine(impl_sheetOf.calls k2 _ _ y330 t333 true _ ?side1 ?side2 A29.out).mono ?_
            (case side1=>exact(a4_ HO332.out))
            (case side2=>exact(Kd.R_reads' HO332.out).2.1)
            rintro e w43 ⟨v335,rfl,ho0,hb⟩
            refine⟨_,rfl,?_⟩
            have HO336:=am_ (Kd.R_lower (Kd.R_newB (Kd.R_new' (Kd.R_new' (Kd.R_new' (Kd.R_new' ho0 (Kd.R_lt ((a0_ HO_11.out)))) (Kd.R_lt ((a0_ HO_45.out)))) (Kd.R_lt ((a0_ HO329.out)))) (Kd.R_lt ((a0_ HO332.out)))) (g:=gb323) (o:= .cells #[.int .i64 ((rd_T42 t313 x47_2).f0), .int .i64 ((rd_T42 t313 x47_2).f1), .int .i64 ((rd_T42 t313 x47_2).f2)] 42 (0,0)) ((a3_ BK323.out))) (below_size ((a2_ GE323.out))))
            replace HO_11:=am_ (Kd.R_elder' ((a0_ HO_11.out)) (Kd.R_base ho0) hb)
            replace HO_45:=am_ (Kd.R_elder' ((a0_ HO_45.out)) (Kd.R_base ho0) hb)
            replace HO329:=am_ (Kd.R_elder' ((a0_ HO329.out)) (Kd.R_base ho0) hb)
            replace HO332:=am_ (Kd.R_elder' ((a0_ HO332.out)) (Kd.R_base ho0) hb)
            replace BK323:=am_ (blk_below (g:=gb323) (o:= .cells #[.int .i64 ((rd_T42 t313 x47_2).f0), .int .i64 ((rd_T42 t313 x47_2).f1), .int .i64 ((rd_T42 t313 x47_2).f2)] 42 (0,0)) ((a3_ BK323.out)) hb)
            replace HB:=am_ (below_step ((a2_ GE323.out)) hb)
            (try clear hb)
            (try clear hb2)
            (try clear hk)
            (try clear hi)
            (try clear ho0)
            refine hK.out _ _ ⟨(blk_cell BK323.out 0).trans rfl,(blk_cell BK323.out 1).trans rfl,(blk_cell BK323.out 2).trans rfl⟩ (fun hHeld=>?_)
            clear hK K
            refine norm_ (a':=?_) ?_ ?_
            rotate_left
            ·show Act.put _ (some 57) _=_
             simp only[Act.put,pu_]
             rfl
            refine pure_ (i:=6) (N:=some 51) (v:=?_) (a':=?_) #[true,true,true,true,true,true,true,false,false,false,false] rfl rfl (any_of HT_.out (by kernel_rfl)) (fun _ _ _ h=>h) (Or.inl ⟨by rfl,?_⟩) ?_ ?_
            rotate_left
            ·intro w'
             go_simp
             with_reducible rfl
            rotate_left
            ·simp only[Act.put,pu_]
             rfl
            refine pure_ (i:=7) (N:=some 58) (v:=?_) (a':=?_) #[true,true,true,true,true,true,true,true,false,false,false] rfl rfl (any_of HT_.out (by kernel_rfl)) (fun _ _ _ h=>h) (Or.inl ⟨by rfl,?_⟩) ?_ ?_
            rotate_left
            ·intro w'
             go_simp
             with_reducible rfl
            rotate_left
            ·simp only[Act.put,pu_]
             rfl
            refine pure_ (i:=8) (N:=some 59) (v:=?_) (a':=?_) #[true,true,true,true,true,true,true,true,true,false,false] rfl rfl (any_of HT_.out (by kernel_rfl)) (fun _ _ _ h=>h) (Or.inl ⟨by rfl,?_⟩) ?_ ?_
            rotate_left
            ·intro w'
             go_simp
             with_reducible rfl
            rotate_left
            ·simp only[Act.put,pu_]
             rfl
            refine pure_ (i:=9) (N:=some 16) (v:=?_) (a':=?_) #[true,true,true,true,true,true,true,true,true,true,false] rfl rfl (any_of HT_.out (by kernel_rfl)) (fun _ _ _ h=>h) (Or.inl ⟨by rfl,?_⟩) ?_ ?_
            rotate_left
            ·intro w'
             go_simp
             with_reducible rfl
            rotate_left
            ·simp only[Act.put,pu_]
             rfl
            refine pure_ (i:=10) (N:=some 17) (v:=?_) (a':=?_) #[true,true,true,true,true,true,true,true,true,true,true] rfl rfl (any_of HT_.out (by kernel_rfl)) (fun _ _ _ h=>h) (Or.inl ⟨by rfl,?_⟩) ?_ ?_
            rotate_left
            ·intro w'
             go_simp
             with_reducible rfl
            rotate_left
            ·simp only[Act.put,pu_]
             rfl
            refine done_ (done_of HT_.out (by kernel_rfl)) ?_
            try go_wp2
            go_roundg k2
            case measure=>have:=HJ3.out;have:=HK2.out;omega
            case rel=>exact⟨(t333),(x13_2),(wrap64 (x47_2+1)),(by first | rfl|(simp;done)|(simp[*];done)),(by first | rfl|(simp;done)|(simp[*];done)),H',⟨by have:=HJ3.out;have:=HK2.out;omega⟩,⟨by(with_reducible repeat (first|apply Kd.R_alloc|apply Kd.R_drewN|apply Kd.R_drew));exact Kd.R_mono HO336.out (fun _ hk=>hk.1.1.1.2)⟩,⟨(a44_ HO_45.out)⟩,⟨(a2_ GE323.out)⟩⟩
           ·replace c30:=Bool.eq_false_iff.mpr c30
            subst c30
            replace H:(impl_MergeFirst.l0 k2 x11_2 (wrap64 (x13_2+1)) t313 (t313.length:Int) (wrap64 (x47_2+1)))=some (r1,r2,r3):=by rw[if_neg (show ¬(false=true) by decide)]at H;exact H
            have H':=am_ H
            clear H
            have p322:0≤(x47_2:Int):=of_decide_eq_true (a13_)
            have q322:x47_2<(t313.length:Int):=of_decide_eq_true (a13_)
            obtain⟨ad322,e322,hx322_0,hx322_1,hx322_2⟩:=at_T42 (Kd.R_reads' HO_45.out).2.2 x47_2 p322 q322
            cases e322
            replace p322:=eq_true p322
            replace q322:=eq_true q322
            try go_wp2_with (first|((with_reducible refine gate_dst (N:=15) rfl ?_);refine box_event ?hg (N:=15) ?hd (cs:= #[.int .i64 0, .int .i64 0, .int .i64 0]) (t:=42) ?hr ?_;(case hd=>rfl);(case hg=>rfl);(case hr=>exact hr_);intro gb323 hg w44 hbox hb;replace HO_11:=am_ (Kd.R_below (Kd.R_elderB ((a0_ HO_11.out)) gb323 (Nat.le_of_eq hg.symm)) hb);replace HO_45:=am_ (Kd.R_below (Kd.R_elderB ((a0_ HO_45.out)) gb323 (Nat.le_of_eq hg.symm)) hb);have BK323:=am_ (hbox);have GW323:=am_ ((by rw[hg];exact(below_size (a1_)):w.heap.size≤gb323));have GE323:=am_ ((by rw[hg];exact(below_size (a1_)):w.heap.size≤gb323));replace HB:=am_ (below_step (a1_) hb);clear hb hbox hg;have hcz45_0:w44.cell? ⟨gb323,0,none⟩=some (.int .i64 0):=(blk_cell BK323.out 0).trans rfl;have hcz45_1:w44.cell? ⟨gb323,1,none⟩=some (.int .i64 0):=(blk_cell BK323.out 1).trans rfl;have hcz45_2:w44.cell? ⟨gb323,2,none⟩=some (.int .i64 0):=(blk_cell BK323.out 2).trans rfl;have hfz45_0:=blk_frozen BK323.out 0;have hfz45_1:=blk_frozen BK323.out 1;have hfz45_2:=blk_frozen BK323.out 2;obtain⟨Ao46,co46,eo46⟩:=Kd.R_slice HO_11.out;subst eo46))
            have n0_:Aside0 (Kd.R k42 42 (((w44.setCell ⟨gb323,0,none⟩ (.int .i64 ((rd_T42 t313 x47_2).f0))).setCell ⟨gb323,1,none⟩ (.int .i64 ((rd_T42 t313 x47_2).f1))).setCell ⟨gb323,2,none⟩ (.int .i64 ((rd_T42 t313 x47_2).f2))) w.heap.size (fun k_=>some k_≠(.slice (some ad322) t313.length co23:Value).ownBlock∧k_≠gb323) (.slice Ao46 x11_2.length co46) x11_2):=⟨(a31_ HO_11.out)⟩
            have n1_:Aside0 (Kd.R k42 42 (((w44.setCell ⟨gb323,0,none⟩ (.int .i64 ((rd_T42 t313 x47_2).f0))).setCell ⟨gb323,1,none⟩ (.int .i64 ((rd_T42 t313 x47_2).f1))).setCell ⟨gb323,2,none⟩ (.int .i64 ((rd_T42 t313 x47_2).f2))) w.heap.size (fun k_=>some k_≠(.slice Ao46 x11_2.length co46:Value).ownBlock∧k_≠gb323) (.slice (some ad322) t313.length co23) t313):=⟨(a31_ HO_45.out)⟩
            have n2_:Aside0 ((((w44.setCell ⟨gb323,0,none⟩ (.int .i64 ((rd_T42 t313 x47_2).f0))).setCell ⟨gb323,1,none⟩ (.int .i64 ((rd_T42 t313 x47_2).f1))).setCell ⟨gb323,2,none⟩ (.int .i64 ((rd_T42 t313 x47_2).f2))).heap[gb323]? = some (.cells #[.int .i64 ((rd_T42 t313 x47_2).f0), .int .i64 ((rd_T42 t313 x47_2).f1), .int .i64 ((rd_T42 t313 x47_2).f2)] 42 (0,0))):=⟨(a36_ BK323.out)⟩
            have n3_:Aside0 (Below w.heap.size w (((w44.setCell ⟨gb323,0,none⟩ (.int .i64 ((rd_T42 t313 x47_2).f0))).setCell ⟨gb323,1,none⟩ (.int .i64 ((rd_T42 t313 x47_2).f1))).setCell ⟨gb323,2,none⟩ (.int .i64 ((rd_T42 t313 x47_2).f2)))):=⟨(a2_ GE323.out)⟩
            (try clear HO_11)
            (try clear HO_45)
            (try clear BK323)
            (try clear HB)
            generalize (((w44.setCell ⟨gb323,0,none⟩ (.int .i64 ((rd_T42 t313 x47_2).f0))).setCell ⟨gb323,1,none⟩ (.int .i64 ((rd_T42 t313 x47_2).f1))).setCell ⟨gb323,2,none⟩ (.int .i64 ((rd_T42 t313 x47_2).f2)))=w47 at n0_ n1_ n2_ n3_ ⊢
            have HO_11:=n0_
            have HO_45:=n1_
            have BK323:=n2_
            have HB:=n3_
            clear n0_ n1_ n2_ n3_
            replace HO_11:=am_ (Kd.R_drew HO_11.out)
            replace HO_45:=am_ (Kd.R_drew HO_45.out)
            replace BK323:=am_ (blk_drew BK323.out)
            replace HB:=am_ (below_drew1 HB.out)
            refine start_ (n:=11) (S:=fun w'=>w'.cell? ⟨gb323,0,none⟩=some (.int .i64 ((rd_T42 t313 x47_2).f0))∧w'.cell? ⟨gb323,1,none⟩=some (.int .i64 ((rd_T42 t313 x47_2).f1))∧w'.cell? ⟨gb323,2,none⟩=some (.int .i64 ((rd_T42 t313 x47_2).f2))) (ds:=[]) #[false,false,false,false,false,false,false,false,false,false,false] (by kernel_rfl) rfl rfl ⟨(blk_cell BK323.out 0).trans rfl,(blk_cell BK323.out 1).trans rfl,(blk_cell BK323.out 2).trans rfl⟩ (fun hHeld=>?_);refine with_tabW impl_MergeFirst.tab11 impl_MergeFirst.bits11 (fun HT_ HW_=>?_)
            generalize w47.drew=w48 at HO_11 HO_45 BK323 HB hHeld ⊢
            refine pure_ (i:=0) (N:=some 52) (v:=?_) (a':=?_) #[true,false,false,false,false,false,false,false,false,false,false] rfl rfl (any_of HT_.out (by kernel_rfl)) (fun _ _ _ h=>h) (Or.inl ⟨by rfl,?_⟩) ?_ ?_
            rotate_left
            ·intro w'
             go_simp
             with_reducible rfl
            rotate_left
            ·simp only[Act.put,pu_]
             rfl
            refine take_ (i:=2) (N:=some 54) (v:=?_) (a':=?_) #[true,false,true,false,false,false,false,false,false,false,false] rfl rfl (take_ofW HT_.out HW_.out (by kernel_rfl)) (fun _ _ _ h=>h) (Or.inl ⟨by rfl,?_⟩) hHeld ?_ ?_
            rotate_left
            ·rintro w' ⟨s0,s1,s2⟩
             go_simp
             with_reducible rfl
            rotate_left
            ·simp only[Act.put,pu_]
             rfl
            refine join_ (σ:=Value×Value) 7 #[true,true,true,true,false,false,false,false,false,false,false] (fun s_=> [(53,s_.1),(55,s_.2)]) (fun s_ w'=>(w'.cell? ⟨gb323,0,none⟩=some (.int .i64 ((rd_T42 t313 x47_2).f0))∧w'.cell? ⟨gb323,1,none⟩=some (.int .i64 ((rd_T42 t313 x47_2).f1))∧w'.cell? ⟨gb323,2,none⟩=some (.int .i64 ((rd_T42 t313 x47_2).f2)))∧(Kd.R k42 42 w' w.heap.size (fun k_=>some k_≠(s_.2:Value).ownBlock∧some k_≠(.slice Ao46 x11_2.length co46:Value).ownBlock∧some k_≠(.slice (some ad322) t313.length co23:Value).ownBlock∧k_≠gb323) s_.1 t324)∧(Kd.R k42 42 w' w.heap.size (fun k_=>some k_≠(s_.1:Value).ownBlock∧some k_≠(.slice Ao46 x11_2.length co46:Value).ownBlock∧some k_≠(.slice (some ad322) t313.length co23:Value).ownBlock∧k_≠gb323) s_.2 y327)∧(Kd.R k42 42 w' w.heap.size (fun k_=>some k_≠(s_.1:Value).ownBlock∧some k_≠(s_.2:Value).ownBlock∧some k_≠(.slice (some ad322) t313.length co23:Value).ownBlock∧k_≠gb323) (.slice Ao46 x11_2.length co46) x11_2)∧(Kd.R k42 42 w' w.heap.size (fun k_=>some k_≠(s_.1:Value).ownBlock∧some k_≠(s_.2:Value).ownBlock∧some k_≠(.slice Ao46 x11_2.length co46:Value).ownBlock∧k_≠gb323) (.slice (some ad322) t313.length co23) t313)∧(w'.heap[gb323]? = some (.cells #[.int .i64 ((rd_T42 t313 x47_2).f0), .int .i64 ((rd_T42 t313 x47_2).f1), .int .i64 ((rd_T42 t313 x47_2).f2)] 42 (0,0)))∧(Below w.heap.size w w')) ?_ ?_
            rotate_left
            ·intro hCont
             refine two_ (i:=1) (j:=3) (Ni:=some 53) (Nj:=some 55) #[true,true,true,false,false,false,false,false,false,false,false] #[true,false,true,true,false,false,false,false,false,false,false] rfl rfl rfl rfl (two_of HT_.out (by kernel_rfl)) (by decide) (by decide) (fun K hK=>?_) (fun K hK=>?_)
             ·skip
              refine goes_ Try.func66 (by kernel_rfl) rfl #[.slice Ao46 x11_2.length co46] (by rfl) rfl rfl gd_ ?_
              with_reducible refine(impl_Hole_66.calls _ _ x11_2 t324 _ ?side1 ?side2 A27.out).mono ?_
              (case side1=>exact(a4_ HO_11.out))
              (case side2=>exact(Kd.R_reads' HO_11.out).2.1)
              rintro e w49 ⟨v325,rfl,ho0,hb⟩
              refine⟨_,rfl,?_⟩
              have HO326:=am_ (Kd.R_lower (Kd.R_newB (Kd.R_new' (Kd.R_new' ho0 (Kd.R_lt ((a0_ HO_11.out)))) (Kd.R_lt ((a0_ HO_45.out)))) (g:=gb323) (o:= .cells #[.int .i64 ((rd_T42 t313 x47_2).f0), .int .i64 ((rd_T42 t313 x47_2).f1), .int .i64 ((rd_T42 t313 x47_2).f2)] 42 (0,0)) ((a3_ BK323.out))) (below_size ((a2_ GE323.out))))
              replace HO_11:=am_ (Kd.R_elder' ((a0_ HO_11.out)) (Kd.R_base ho0) hb)
              replace HO_45:=am_ (Kd.R_elder' ((a0_ HO_45.out)) (Kd.R_base ho0) hb)
              replace BK323:=am_ (blk_below (g:=gb323) (o:= .cells #[.int .i64 ((rd_T42 t313 x47_2).f0), .int .i64 ((rd_T42 t313 x47_2).f1), .int .i64 ((rd_T42 t313 x47_2).f2)] 42 (0,0)) ((a3_ BK323.out)) hb)
              replace HB:=am_ (below_step ((a2_ GE323.out)) hb)
              (try clear hb)
              (try clear hb2)
              (try clear hk)
              (try clear hi)
              (try clear ho0)
              refine hK.out _ _ ⟨(blk_cell BK323.out 0).trans rfl,(blk_cell BK323.out 1).trans rfl,(blk_cell BK323.out 2).trans rfl⟩ (fun hHeld=>?_)
              clear hK K
              refine norm_ (a':=?_) ?_ ?_
              rotate_left
              ·show Act.put _ (some 53) _=_
               simp only[Act.put,pu_]
               rfl
              refine one_ (i:=3) (N:=some 55) #[true,true,true,true,false,false,false,false,false,false,false] rfl rfl (one_of HT_.out (by kernel_rfl)) (by decide) (fun K hK=>?_)
              refine Kd.R_lit_step k42 _ 42 ?hg (N:=55) ?hd (xs:=([(⟨(rd_T42 t313 x47_2).f0,(rd_T42 t313 x47_2).f1,(rd_T42 t313 x47_2).f2⟩:S42)]:List (S42))) (inner:=[.int .i64 ((rd_T42 t313 x47_2).f0), .int .i64 ((rd_T42 t313 x47_2).f1), .int .i64 ((rd_T42 t313 x47_2).f2)]) (ok:=fun _=>True) (okp:=fun _=>True) ?hr ?hp (fun _ hk=>hk) trivial (Below.refl _ _) (Nat.le_refl _) (by simp) ?_;(case hd=>rfl);(case hg=>rfl);(case hr=>exact hr_);(case hp=>exact(Reps.c3 (show Kd.M k42 _ _ _ (⟨(rd_T42 t313 x47_2).f0,(rd_T42 t313 x47_2).f1,(rd_T42 t313 x47_2).f2⟩:S42) [.int .i64 ((rd_T42 t313 x47_2).f0), .int .i64 ((rd_T42 t313 x47_2).f1), .int .i64 ((rd_T42 t313 x47_2).f2)] from(k42_mkM _ _ _ (⟨(rd_T42 t313 x47_2).f0,(rd_T42 t313 x47_2).f1,(rd_T42 t313 x47_2).f2⟩:S42) )) (Reps.none _ _)))
              intro v328 w50 ho51 hb hg_ hnew_
              clear hg_ hnew_
              (first|rw[← Ny327.out]at ho51|(simp only[Int.reduceToNat]at ho51;rw[← Ny327.out]at ho51))
              have HO329:=am_ (Kd.R_lower (Kd.R_newB (Kd.R_new' (Kd.R_new' (Kd.R_new' ho51 (Kd.R_lt ((a0_ HO_11.out)))) (Kd.R_lt ((a0_ HO_45.out)))) (Kd.R_lt ((a0_ HO326.out)))) (g:=gb323) (o:= .cells #[.int .i64 ((rd_T42 t313 x47_2).f0), .int .i64 ((rd_T42 t313 x47_2).f1), .int .i64 ((rd_T42 t313 x47_2).f2)] 42 (0,0)) ((a3_ BK323.out))) (below_size ((a2_ GE323.out))))
              replace HO_11:=am_ (Kd.R_elder' ((a0_ HO_11.out)) (Kd.R_base ho51) hb)
              replace HO_45:=am_ (Kd.R_elder' ((a0_ HO_45.out)) (Kd.R_base ho51) hb)
              replace HO326:=am_ (Kd.R_elder' ((a0_ HO326.out)) (Kd.R_base ho51) hb)
              replace BK323:=am_ (blk_below (g:=gb323) (o:= .cells #[.int .i64 ((rd_T42 t313 x47_2).f0), .int .i64 ((rd_T42 t313 x47_2).f1), .int .i64 ((rd_T42 t313 x47_2).f2)] 42 (0,0)) ((a3_ BK323.out)) hb)
              replace HB:=am_ (below_step ((a2_ GE323.out)) hb)
              clear hb ho51
              refine hK.out _ _ ⟨(blk_cell BK323.out 0).trans rfl,(blk_cell BK323.out 1).trans rfl,(blk_cell BK323.out 2).trans rfl⟩ (fun hHeld=>?_)
              clear hK K
              refine norm_ (a':=?_) ?_ ?_
              rotate_left
              ·show Act.put _ (some 55) _=_
               simp only[Act.put,pu_]
               rfl
              exact norm_ (by simp only[putAll,Act.put,List.setIfInBounds_toArray,List.set_cons_zero,List.set_cons_succ]) (hCont (v325,v328) _ ⟨hHeld,((a56_ HO326.out)),((a57_ HO329.out)),((a58_ HO_11.out)),((a58_ HO_45.out)),((a3_ BK323.out)),((a2_ GE323.out))⟩)
             ·skip
              refine Kd.R_lit_step k42 _ 42 ?hg (N:=55) ?hd (xs:=([(⟨(rd_T42 t313 x47_2).f0,(rd_T42 t313 x47_2).f1,(rd_T42 t313 x47_2).f2⟩:S42)]:List (S42))) (inner:=[.int .i64 ((rd_T42 t313 x47_2).f0), .int .i64 ((rd_T42 t313 x47_2).f1), .int .i64 ((rd_T42 t313 x47_2).f2)]) (ok:=fun _=>True) (okp:=fun _=>True) ?hr ?hp (fun _ hk=>hk) trivial (Below.refl _ _) (Nat.le_refl _) (by simp) ?_;(case hd=>rfl);(case hg=>rfl);(case hr=>exact hr_);(case hp=>exact(Reps.c3 (show Kd.M k42 _ _ _ (⟨(rd_T42 t313 x47_2).f0,(rd_T42 t313 x47_2).f1,(rd_T42 t313 x47_2).f2⟩:S42) [.int .i64 ((rd_T42 t313 x47_2).f0), .int .i64 ((rd_T42 t313 x47_2).f1), .int .i64 ((rd_T42 t313 x47_2).f2)] from(k42_mkM _ _ _ (⟨(rd_T42 t313 x47_2).f0,(rd_T42 t313 x47_2).f1,(rd_T42 t313 x47_2).f2⟩:S42) )) (Reps.none _ _)))
              intro v328 w49 ho50 hb hg_ hnew_
              clear hg_ hnew_
              (first|rw[← Ny327.out]at ho50|(simp only[Int.reduceToNat]at ho50;rw[← Ny327.out]at ho50))
              have HO329:=am_ (Kd.R_lower (Kd.R_newB (Kd.R_new' (Kd.R_new' ho50 (Kd.R_lt ((a0_ HO_11.out)))) (Kd.R_lt ((a0_ HO_45.out)))) (g:=gb323) (o:= .cells #[.int .i64 ((rd_T42 t313 x47_2).f0), .int .i64 ((rd_T42 t313 x47_2).f1), .int .i64 ((rd_T42 t313 x47_2).f2)] 42 (0,0)) ((a3_ BK323.out))) (below_size ((a2_ GE323.out))))
              replace HO_11:=am_ (Kd.R_elder' ((a0_ HO_11.out)) (Kd.R_base ho50) hb)
              replace HO_45:=am_ (Kd.R_elder' ((a0_ HO_45.out)) (Kd.R_base ho50) hb)
              replace BK323:=am_ (blk_below (g:=gb323) (o:= .cells #[.int .i64 ((rd_T42 t313 x47_2).f0), .int .i64 ((rd_T42 t313 x47_2).f1), .int .i64 ((rd_T42 t313 x47_2).f2)] 42 (0,0)) ((a3_ BK323.out)) hb)
              replace HB:=am_ (below_step ((a2_ GE323.out)) hb)
              clear hb ho50
              refine hK.out _ _ ⟨(blk_cell BK323.out 0).trans rfl,(blk_cell BK323.out 1).trans rfl,(blk_cell BK323.out 2).trans rfl⟩ (fun hHeld=>?_)
              clear hK K
              refine norm_ (a':=?_) ?_ ?_
              rotate_left
              ·show Act.put _ (some 55) _=_
               simp only[Act.put,pu_]
               rfl
              refine one_ (i:=1) (N:=some 53) #[true,true,true,true,false,false,false,false,false,false,false] rfl rfl (one_of HT_.out (by kernel_rfl)) (by decide) (fun K hK=>?_)
              refine goes_ Try.func66 (by kernel_rfl) rfl #[.slice Ao46 x11_2.length co46] (by rfl) rfl rfl gd_ ?_
              with_reducible refine(impl_Hole_66.calls _ _ x11_2 t324 _ ?side1 ?side2 A27.out).mono ?_
              (case side1=>exact(a4_ HO_11.out))
              (case side2=>exact(Kd.R_reads' HO_11.out).2.1)
              rintro e w51 ⟨v325,rfl,ho0,hb⟩
              refine⟨_,rfl,?_⟩
              have HO326:=am_ (Kd.R_lower (Kd.R_newB (Kd.R_new' (Kd.R_new' (Kd.R_new' ho0 (Kd.R_lt ((a0_ HO_11.out)))) (Kd.R_lt ((a0_ HO_45.out)))) (Kd.R_lt ((a0_ HO329.out)))) (g:=gb323) (o:= .cells #[.int .i64 ((rd_T42 t313 x47_2).f0), .int .i64 ((rd_T42 t313 x47_2).f1), .int .i64 ((rd_T42 t313 x47_2).f2)] 42 (0,0)) ((a3_ BK323.out))) (below_size ((a2_ GE323.out))))
              replace HO_11:=am_ (Kd.R_elder' ((a0_ HO_11.out)) (Kd.R_base ho0) hb)
              replace HO_45:=am_ (Kd.R_elder' ((a0_ HO_45.out)) (Kd.R_base ho0) hb)
              replace HO329:=am_ (Kd.R_elder' ((a0_ HO329.out)) (Kd.R_base ho0) hb)
              replace BK323:=am_ (blk_below (g:=gb323) (o:= .cells #[.int .i64 ((rd_T42 t313 x47_2).f0), .int .i64 ((rd_T42 t313 x47_2).f1), .int .i64 ((rd_T42 t313 x47_2).f2)] 42 (0,0)) ((a3_ BK323.out)) hb)
              replace HB:=am_ (below_step ((a2_ GE323.out)) hb)
              (try clear hb)
              (try clear hb2)
              (try clear hk)
              (try clear hi)
              (try clear ho0)
              refine hK.out _ _ ⟨(blk_cell BK323.out 0).trans rfl,(blk_cell BK323.out 1).trans rfl,(blk_cell BK323.out 2).trans rfl⟩ (fun hHeld=>?_)
              clear hK K
              refine norm_ (a':=?_) ?_ ?_
              rotate_left
              ·show Act.put _ (some 53) _=_
               simp only[Act.put,pu_]
               rfl
              exact norm_ (by simp only[putAll,Act.put,List.setIfInBounds_toArray,List.set_cons_zero,List.set_cons_succ]) (hCont (v325,v328) _ ⟨hHeld,((a57_ HO326.out)),((a56_ HO329.out)),((a59_ HO_11.out)),((a59_ HO_45.out)),((a3_ BK323.out)),((a2_ GE323.out))⟩)
            rintro⟨v325,v328⟩ w52 ⟨hS_,h0_,h1_,h2_,h3_,h4_,h5_⟩
            have n0_:Aside0 (Kd.R k42 42 w52 w.heap.size (fun k_=>some k_≠(v328:Value).ownBlock∧some k_≠(.slice Ao46 x11_2.length co46:Value).ownBlock∧some k_≠(.slice (some ad322) t313.length co23:Value).ownBlock∧k_≠gb323) v325 t324):=⟨h0_⟩
            have n1_:Aside0 (Kd.R k42 42 w52 w.heap.size (fun k_=>some k_≠(v325:Value).ownBlock∧some k_≠(.slice Ao46 x11_2.length co46:Value).ownBlock∧some k_≠(.slice (some ad322) t313.length co23:Value).ownBlock∧k_≠gb323) v328 y327):=⟨h1_⟩
            have n2_:Aside0 (Kd.R k42 42 w52 w.heap.size (fun k_=>some k_≠(v325:Value).ownBlock∧some k_≠(v328:Value).ownBlock∧some k_≠(.slice (some ad322) t313.length co23:Value).ownBlock∧k_≠gb323) (.slice Ao46 x11_2.length co46) x11_2):=⟨h2_⟩
            have n3_:Aside0 (Kd.R k42 42 w52 w.heap.size (fun k_=>some k_≠(v325:Value).ownBlock∧some k_≠(v328:Value).ownBlock∧some k_≠(.slice Ao46 x11_2.length co46:Value).ownBlock∧k_≠gb323) (.slice (some ad322) t313.length co23) t313):=⟨h3_⟩
            have n4_:Aside0 (w52.heap[gb323]? = some (.cells #[.int .i64 ((rd_T42 t313 x47_2).f0), .int .i64 ((rd_T42 t313 x47_2).f1), .int .i64 ((rd_T42 t313 x47_2).f2)] 42 (0,0))):=⟨h4_⟩
            have n5_:Aside0 (Below w.heap.size w w52):=⟨h5_⟩
            clear HO_11 HO_45 BK323 HB h0_ h1_ h2_ h3_ h4_ h5_
            have HO326:=n0_
            have HO329:=n1_
            have HO_11:=n2_
            have HO_45:=n3_
            have BK323:=n4_
            have HB:=n5_
            clear n0_ n1_ n2_ n3_ n4_ n5_
            have hHeld:w52.cell? ⟨gb323,0,none⟩=some (.int .i64 ((rd_T42 t313 x47_2).f0))∧w52.cell? ⟨gb323,1,none⟩=some (.int .i64 ((rd_T42 t313 x47_2).f1))∧w52.cell? ⟨gb323,2,none⟩=some (.int .i64 ((rd_T42 t313 x47_2).f2)):=hS_
            obtain⟨Ao54,co54,eo54⟩:=Kd.R_slice HO329.out
            (first|subst eo54|(injection eo54 with f1_ f2_ f3_;have f4_:=f1_.symm;have f5_:=f3_.symm;clear f1_ f2_ f3_;subst f4_;subst f5_))
            refine norm_ (a':=?_) ?_ ?_
            rotate_left
            ·simp only[putAll,Act.put,List.setIfInBounds_toArray,List.set_cons_zero,List.set_cons_succ]
             rfl
            refine one_ (i:=4) (N:=some 56) #[true,true,true,true,true,false,false,false,false,false,false] rfl rfl (one_of HT_.out (by kernel_rfl)) (by decide) (fun K hK=>?_)
            refine Kd.R_append_rows_step k42 (w0:=w) w.heap.size (by rfl) (.tmp 53) (.tmp 55) 32 42 (.agg #[(.int .i64 0),(.int .i64 0),(.int .i64 0)]) 24 rfl Try.underlying32 info42 rfl (by decide) (by omega) v325 t324 y327 _ _ _ (fun k_=>some k_≠(.slice Ao46 x11_2.length co46:Value).ownBlock∧some k_≠(.slice (some ad322) t313.length co23:Value).ownBlock∧some k_≠(.slice Ao54 y327.length co54:Value).ownBlock∧k_≠gb323) (fun _=>False) rfl rfl ?aO ?aR (fun _ _ h=>h) (fun _ h=>h.elim) ?aF ?aB ?aS ?aL ?_
            (case aR=>exact(a4_ HO329.out))
            (case aB=>exact((a2_ GE323.out)))
            (case aF=>exact(fun k_ hk=>⟨Kd.fresh' (Kd.R_lt ((a0_ HO_11.out))) k_ hk,Kd.fresh' (Kd.R_lt ((a0_ HO_45.out))) k_ hk,Kd.fresh' (Kd.R_lt ((a0_ HO329.out))) k_ hk,Kd.freshB (g:=gb323) (o:= .cells #[.int .i64 ((rd_T42 t313 x47_2).f0), .int .i64 ((rd_T42 t313 x47_2).f1), .int .i64 ((rd_T42 t313 x47_2).f2)] 42 (0,0)) ((a3_ BK323.out)) k_ hk⟩))
            (case aO=>exact((a69_ HO326.out)))
            (case aS=>exact(below_size ((a2_ GE323.out))))
            (case aL=>have:=LMc28.out;omega)
            intro v331 w53 ho hb hg hat
            rw[← Ny330.out]at ho
            have n0_:=am_ (Kd.R_after (ok:=(fun k_=>some k_≠(.slice (some ad322) t313.length co23:Value).ownBlock∧some k_≠(.slice Ao54 y327.length co54:Value).ownBlock∧k_≠gb323)) ((a60_ HO_11.out)) hg hat)
            have n1_:=am_ (Kd.R_after (ok:=(fun k_=>some k_≠(.slice Ao46 x11_2.length co46:Value).ownBlock∧some k_≠(.slice Ao54 y327.length co54:Value).ownBlock∧k_≠gb323)) ((a60_ HO_45.out)) hg hat)
            have n2_:=am_ (blk_grown (g:=gb323) (o:= .cells #[.int .i64 ((rd_T42 t313 x47_2).f0), .int .i64 ((rd_T42 t313 x47_2).f1), .int .i64 ((rd_T42 t313 x47_2).f2)] 42 (0,0)) ((a3_ BK323.out)) hg (Kd.R_away HO326.out (fun _ hk=>hk.2.2.2)))
            have n3_:=am_ (Kd.R_after (ok:=(fun k_=>some k_≠(.slice Ao46 x11_2.length co46:Value).ownBlock∧some k_≠(.slice (some ad322) t313.length co23:Value).ownBlock∧k_≠gb323)) ((a70_ HO329.out)) hg hat)
            have n4_:=am_ (hb)
            have n5_:=am_ (ho)
            clear HO_11 HO_45 BK323 HO329 HB HO326
            have HO_11:=n0_
            have HO_45:=n1_
            have BK323:=n2_
            have HO329:=n3_
            have HB:=n4_
            have HO332:=n5_
            clear n0_ n1_ n2_ n3_ n4_ n5_ ho hb hg hat
            obtain⟨Ao55,co55,eo55⟩:=Kd.R_slice HO332.out
            (first|subst eo55|(injection eo55 with f1_ f2_ f3_;have f4_:=f1_.symm;have f5_:=f3_.symm;clear f1_ f2_ f3_;subst f4_;subst f5_))
            refine hK.out _ _ ⟨(blk_cell BK323.out 0).trans rfl,(blk_cell BK323.out 1).trans rfl,(blk_cell BK323.out 2).trans rfl⟩ (fun hHeld=>?_)
            clear hK K
            refine norm_ (a':=?_) ?_ ?_
            rotate_left
            ·show Act.put _ (some 56) _=_
             simp only[Act.put,pu_]
             rfl
            refine one_ (i:=5) (N:=some 57) #[true,true,true,true,true,true,false,false,false,false,false] rfl rfl (one_of HT_.out (by kernel_rfl)) (by decide) (fun K hK=>?_)
            refine goes_ Try.func83 (by kernel_rfl) rfl #[.slice Ao55 y330.length co55] (by rfl) rfl rfl gd_ ?_
            with_reducible refine(impl_sheetOf.calls k2 _ _ y330 t333 false _ ?side1 ?side2 A29.out).mono ?_
            (case side1=>exact(a4_ HO332.out))
            (case side2=>exact(Kd.R_reads' HO332.out).2.1)
            rintro e w56 ⟨v335,rfl,ho0,hb⟩
            refine⟨_,rfl,?_⟩
            have HO336:=am_ (Kd.R_lower (Kd.R_newB (Kd.R_new' (Kd.R_new' (Kd.R_new' (Kd.R_new' ho0 (Kd.R_lt ((a0_ HO_11.out)))) (Kd.R_lt ((a0_ HO_45.out)))) (Kd.R_lt ((a0_ HO329.out)))) (Kd.R_lt ((a0_ HO332.out)))) (g:=gb323) (o:= .cells #[.int .i64 ((rd_T42 t313 x47_2).f0), .int .i64 ((rd_T42 t313 x47_2).f1), .int .i64 ((rd_T42 t313 x47_2).f2)] 42 (0,0)) ((a3_ BK323.out))) (below_size ((a2_ GE323.out))))
            replace HO_11:=am_ (Kd.R_elder' ((a0_ HO_11.out)) (Kd.R_base ho0) hb)
            replace HO_45:=am_ (Kd.R_elder' ((a0_ HO_45.out)) (Kd.R_base ho0) hb)
            replace HO329:=am_ (Kd.R_elder' ((a0_ HO329.out)) (Kd.R_base ho0) hb)
            replace HO332:=am_ (Kd.R_elder' ((a0_ HO332.out)) (Kd.R_base ho0) hb)
            replace BK323:=am_ (blk_below (g:=gb323) (o:= .cells #[.int .i64 ((rd_T42 t313 x47_2).f0), .int .i64 ((rd_T42 t313 x47_2).f1), .int .i64 ((rd_T42 t313 x47_2).f2)] 42 (0,0)) ((a3_ BK323.out)) hb)
            replace HB:=am_ (below_step ((a2_ GE323.out)) hb)
            (try clear hb)
            (try clear hb2)
            (try clear hk)
            (try clear hi)
            (try clear ho0)
            refine hK.out _ _ ⟨(blk_cell BK323.out 0).trans rfl,(blk_cell BK323.out 1).trans rfl,(blk_cell BK323.out 2).trans rfl⟩ (fun hHeld=>?_)
            clear hK K
            refine norm_ (a':=?_) ?_ ?_
            rotate_left
            ·show Act.put _ (some 57) _=_
             simp only[Act.put,pu_]
             rfl
            refine pure_ (i:=6) (N:=some 51) (v:=?_) (a':=?_) #[true,true,true,true,true,true,true,false,false,false,false] rfl rfl (any_of HT_.out (by kernel_rfl)) (fun _ _ _ h=>h) (Or.inl ⟨by rfl,?_⟩) ?_ ?_
            rotate_left
            ·intro w'
             go_simp
             with_reducible rfl
            rotate_left
            ·simp only[Act.put,pu_]
             rfl
            refine pure_ (i:=7) (N:=some 58) (v:=?_) (a':=?_) #[true,true,true,true,true,true,true,true,false,false,false] rfl rfl (any_of HT_.out (by kernel_rfl)) (fun _ _ _ h=>h) (Or.inl ⟨by rfl,?_⟩) ?_ ?_
            rotate_left
            ·intro w'
             go_simp
             with_reducible rfl
            rotate_left
            ·simp only[Act.put,pu_]
             rfl
            refine pure_ (i:=8) (N:=some 59) (v:=?_) (a':=?_) #[true,true,true,true,true,true,true,true,true,false,false] rfl rfl (any_of HT_.out (by kernel_rfl)) (fun _ _ _ h=>h) (Or.inl ⟨by rfl,?_⟩) ?_ ?_
            rotate_left
            ·intro w'
             go_simp
             with_reducible rfl
            rotate_left
            ·simp only[Act.put,pu_]
             rfl
            refine pure_ (i:=9) (N:=some 16) (v:=?_) (a':=?_) #[true,true,true,true,true,true,true,true,true,true,false] rfl rfl (any_of HT_.out (by kernel_rfl)) (fun _ _ _ h=>h) (Or.inl ⟨by rfl,?_⟩) ?_ ?_
            rotate_left
            ·intro w'
             go_simp
             with_reducible rfl
            rotate_left
            ·simp only[Act.put,pu_]
             rfl
            refine pure_ (i:=10) (N:=some 17) (v:=?_) (a':=?_) #[true,true,true,true,true,true,true,true,true,true,true] rfl rfl (any_of HT_.out (by kernel_rfl)) (fun _ _ _ h=>h) (Or.inl ⟨by rfl,?_⟩) ?_ ?_
            rotate_left
            ·intro w'
             go_simp
             with_reducible rfl
            rotate_left
            ·simp only[Act.put,pu_]
             rfl
            refine done_ (done_of HT_.out (by kernel_rfl)) ?_
            try go_wp2
            go_roundg k2
            case measure=>have:=HJ3.out;have:=HK2.out;omega
            case rel=>exact⟨(x11_2),(wrap64 (x13_2+1)),(wrap64 (x47_2+1)),(by first | rfl|(simp;done)|(simp[*];done)),(by first | rfl|(simp;done)|(simp[*];done)),H',⟨by have:=HJ3.out;have:=HK2.out;omega⟩,⟨by(with_reducible repeat (first|apply Kd.R_alloc|apply Kd.R_drewN|apply Kd.R_drew));exact Kd.R_mono HO_11.out (fun _ hk=>hk.1.1.1)⟩,⟨by(with_reducible repeat (first|apply Kd.R_alloc|apply Kd.R_drewN|apply Kd.R_drew));exact Kd.R_mono HO_45.out (fun _ hk=>hk.1.1.1)⟩,⟨(a2_ GE323.out)⟩⟩
          ·rw[if_neg c28]at H
           exact absurd H (by simp)
         ·rw[if_neg c26]at H
          exact absurd H (by simp)
        ·rw[if_neg c25]at H
         exact absurd H (by simp)
       ·rw[if_neg c24]at H
        have c24b0:decide (x47_2<(t313.length:Int))=false:=decide_eq_false c24
        clear c24
        simp only[Option.some.injEq,Prod.mk.injEq]at H
        obtain⟨rfl,rfl,rfl⟩:=H
        go_wp2
        go_ret3
        exact⟨_,a12_,(a28_ HO_11.out),a1_⟩
    ·replace c19:=Bool.eq_false_iff.mpr c19
     subst c19
     replace H:(some (([]:List (S42)),0,false))=some (r1,r2,r3):=by rw[if_neg (show ¬(false=true) by decide)]at H;exact H
     simp only[Option.some.injEq,Prod.mk.injEq]at H
     obtain⟨rfl,rfl,rfl⟩:=H
     go_wp2_with (first|((with_reducible refine gate_callee (f:=87) rfl ?_);refine goesL_ (some 35) rfl rfl Try.func87 (by kernel_rfl) rfl #[.slice A0 l0.length c0, .slice A1 l1.length c1, .slice A2 l2.length c2] rfl gd_ ?_;(with_reducible refine(impl_firstMerged.calls _ _ l0 _ _ l1 _ _ l2 t312 t313 _ ?side1 ?side2 ?side3 ?side4 ?side5 ?side6 A17.out).mono ?_);(case side1=>exact(a8_ HR0.out));(case side2=>exact HC0.out);(case side3=>exact(a8_ HR1.out));(case side4=>exact HC1.out);(case side5=>exact(a8_ HR2.out));(case side6=>exact HC2.out);rintro e w57 ⟨v314,v316,rfl,ho0,ho1,hb⟩;refine⟨_,rfl,?_⟩;have HO315:=am_ (Kd.R_lower ho0 (below_size (a1_)));have HO317:=am_ (Kd.R_lower ho1 (below_size (a1_)));replace HB:=am_ (below_step (a1_) hb);(try clear hb);(try clear hb2);(try clear hk);(try clear hi);(try clear ho0);(try clear ho1);obtain⟨Ao58,co58,eo58⟩:=Kd.R_slice HO315.out;subst eo58)|((with_reducible refine gate_callee (f:=83) rfl ?_);refine goesL_ (some 40) rfl rfl Try.func83 (by kernel_rfl) rfl #[.slice Ao58 t312.length co58] rfl gd_ ?_;(with_reducible refine(impl_sheetOf.calls kj3 _ _ t312 t318 false _ ?side1 ?side2 A18.out).mono ?_);(case side1=>exact(a4_ HO315.out));(case side2=>exact(Kd.R_reads' HO315.out).2.1);rintro e w59 ⟨v320,rfl,ho0,hb⟩;refine⟨_,rfl,?_⟩;have HO321:=am_ (Kd.R_lower (Kd.R_new' (Kd.R_new' ho0 (Kd.R_lt ((a0_ HO315.out)))) (Kd.R_lt ((a0_ HO317.out)))) (below_size (a1_)));replace HO315:=am_ (Kd.R_elder' ((a0_ HO315.out)) (Kd.R_base ho0) hb);replace HO317:=am_ (Kd.R_elder' ((a0_ HO317.out)) (Kd.R_base ho0) hb);replace HB:=am_ (below_step (a1_) hb);(try clear hb);(try clear hb2);(try clear hk);(try clear hi);(try clear ho0)))
     go_ret3
     exact⟨_,a12_,a35_,a1_⟩

end Go.Proofs.Ytplpjmhmochcfaa.QFnMerges
