/- Written by a program of this session (the kit's printer, with leaf contracts proved by hand put in): what each Go function computes, and that the call computes it. No condition but those that each theorem names. -/
import Derived.Test.YtplpjmhmochcfaaQFnCopiesx0
import Derived.Test.YtplpjmhmochcfaaQFnCopiesx1
import Derived.Test.YtplpjmhmochcfaaQFnCopiesx2
import Derived.Test.YtplpjmhmochcfaaQFnCopiesx3
import Derived.Test.YtplpjmhmochcfaaQFnCopiesx8
import Derived.Test.YtplpjmhmochcfaaQFnCopiesx9
import Derived.Test.YtplpjmhmochcfaaQFnCopiesx11
namespace Go.Proofs.Ytplpjmhmochcfaa.QFnCopies
open Go.RowKit Go.Proofs.YtplpjmhmochcfaaW.PrintWords Go.Proofs.YtplpjmhmochcfaaW.PrintLast Go.Proofs.YtplpjmhmochcfaaW.PrintMore
attribute [local go_sem] max2_int min2_int max_two min_two max_three min_three max_four min_four   -- for this text's walks alone
set_option linter.unusedVariables false
set_option linter.unusedSimpArgs false

attribute [local go_sem high] eqA42
/-! ### impl_SingleChanges: function 17 -/
mutual
def impl_SingleChanges.j0:Nat→List (S42)→Int→Bool→Option ((List (List (S42)))×Bool)
 | 0,_,_,_=>none
 | k+1,x0,x1,x17=>if x17=true then(some (([]:List (List (S42))),false)) else(impl_SingleChanges.l0 k x0 x1 (([]:List (List (S42)))) (x0.length:Int) 0)
def impl_SingleChanges.l0:Nat→List (S42)→Int→List (List (S42))→Int→Int→Option ((List (List (S42)))×Bool)
 | 0,_,_,_,_,_=>none
 | k+1,x0,x1,x6,x20,x21=>if x21<x20 then(impl_SingleChanges.l1 k x0 x1 x6 x21 (-3) x20 x21) else(some (x6,true))
def impl_SingleChanges.l1:Nat→List (S42)→Int→List (List (S42))→Int→Int→Int→Int→Option ((List (List (S42)))×Bool)
 | 0,_,_,_,_,_,_,_=>none
 | k+1,x0,x1,x6,x7,x8,x20,x21=>if x8≤3 then((impl_Hole_66.f x0).bind fun t494=>(if 0≤x7 then(if x7<(t494.length:Int) then((some (t494.set (x7:Int).toNat (⟨(rd_T42 t494 x7).f0,(rd_T42 t494 x7).f1,wrap64 (((rd_T42 t494 x7).f2)+x8)⟩:S42):List (S42))).bind fun y498=>(if x8=0 then(impl_SingleChanges.l1 k x0 x1 x6 x7 (wrap64 (x8+1)) x20 x21) else((impl_IsSheet.f k y498).bind fun t499=>(if t499=true then((impl_checksumOf.f k y498).bind fun t500=>(if t500=x1 then(if x6.length<5864062014805 then(impl_SingleChanges.l1 k x0 x1 (x6 ++ [y498]) x7 (wrap64 (x8+1)) x20 x21) else(none)) else(impl_SingleChanges.l1 k x0 x1 x6 x7 (wrap64 (x8+1)) x20 x21))) else(impl_SingleChanges.l1 k x0 x1 x6 x7 (wrap64 (x8+1)) x20 x21))))) else(none)) else(none))) else(impl_SingleChanges.l0 k x0 x1 x6 x20 (wrap64 (x21+1)))
end
def impl_SingleChanges.f (k:Nat) (l0:List (S42)) (a1:Int):Option ((List (List (S42)))×Bool):=(impl_IsSheet.f k l0).bind fun t489=>(if t489=true then((impl_isChecksum.f a1).bind fun t490=>(impl_SingleChanges.j0 k l0 a1 (!t490))) else(impl_SingleChanges.j0 k l0 a1 true))
theorem impl_SingleChanges.mono_l:∀k,(∀y0 y1 y2,LeO (impl_SingleChanges.j0 k y0 y1 y2) (impl_SingleChanges.j0 (k+1) y0 y1 y2))∧(∀y0 y1 y2 y3 y4,LeO (impl_SingleChanges.l0 k y0 y1 y2 y3 y4) (impl_SingleChanges.l0 (k+1) y0 y1 y2 y3 y4))∧(∀y0 y1 y2 y3 y4 y5 y6,LeO (impl_SingleChanges.l1 k y0 y1 y2 y3 y4 y5 y6) (impl_SingleChanges.l1 (k+1) y0 y1 y2 y3 y4 y5 y6))
 | 0=>⟨fun _ _ _ r h=>by simp[impl_SingleChanges.j0]at h,fun _ _ _ _ _ r h=>by simp[impl_SingleChanges.l0]at h,fun _ _ _ _ _ _ _ r h=>by simp[impl_SingleChanges.l1]at h⟩
 | k+1=>by
  obtain⟨ih0,ih1,ih2⟩:=impl_SingleChanges.mono_l k
  refine⟨?_,?_,?_⟩
  intros
  unfold impl_SingleChanges.j0
  rotate_left
  intros
  unfold impl_SingleChanges.l0
  rotate_left
  intros
  unfold impl_SingleChanges.l1
  rotate_left
  all_goals repeat' first|(with_reducible first|exact ih0 _ _ _|exact ih1 _ _ _ _ _|exact ih2 _ _ _ _ _ _ _|exact impl_IsSheet.mono _ _|exact impl_checksumOf.mono _ _|exact LeO.refl _|exact LeO.none _|refine LeO.ite ?_ ?_|refine LeO.bind ?_ (fun _=>?_))|exact ih0 _ _ _|exact ih1 _ _ _ _ _|exact ih2 _ _ _ _ _ _ _|exact impl_IsSheet.mono _ _|exact impl_checksumOf.mono _ _|exact LeO.none _|refine LeO.ite ?_ ?_|refine LeO.bind ?_ (fun _=>?_)
theorem impl_SingleChanges.mono:∀a0 a1 k,LeO (impl_SingleChanges.f k a0 a1) (impl_SingleChanges.f (k+1) a0 a1):=by
 intro a0 a1 k
 obtain⟨ih0,ih1,ih2⟩:=impl_SingleChanges.mono_l k
 unfold impl_SingleChanges.f
 repeat' first
  |(with_reducible exact ih0 _ _ _)
  |(with_reducible exact ih1 _ _ _ _ _)
  |(with_reducible exact ih2 _ _ _ _ _ _ _)
  |(with_reducible exact impl_IsSheet.mono _ _)
  |(with_reducible exact impl_checksumOf.mono _ _)
  |(with_reducible exact LeO.refl _)
  |(with_reducible exact LeO.none _)
  |(with_reducible refine LeO.ite ?_ ?_)
  |(with_reducible refine LeO.bind ?_ (fun _=>?_))
  |exact ih0 _ _ _
  |exact ih1 _ _ _ _ _
  |exact ih2 _ _ _ _ _ _ _
  |exact impl_IsSheet.mono _ _
  |exact impl_checksumOf.mono _ _
  |exact LeO.none _
   | refine LeO.ite ?_ ?_
   | refine LeO.bind ?_ (fun _=>?_)
set_option maxHeartbeats 8000000 in
set_option maxRecDepth 100000 in
theorem impl_SingleChanges.calls (k:Nat) (A0:Option Addr) (c0:Nat) (l0:List (S42)) (a1:Int) (r1:List (List (S42))) (r2:Bool) (w:World) (hr0:Kd.C k42 w A0 l0.length l0) (hc0:l0.length≤c0) (h:impl_SingleChanges.f k l0 a1=some (r1,r2)) :
 Calls Try.prog 17 #[.slice A0 l0.length c0, .int .i64 a1] w fun e w'=>∃v0_:Value,e = .returned (.tuple #[v0_, .bool r2])∧Kd.S (Kd.slice 42 k42) 32 w' w.heap.size (fun _=>True) v0_ r1∧Below w.heap.size w w':=by
 have HR0:=am_ hr0
 have HC0:=am_ hc0
 clear hr0 hc0
 have HB:=am_ (Below.refl w.heap.size w)
 have H:((impl_IsSheet.f k l0).bind fun t489=>(if t489=true then((impl_isChecksum.f a1).bind fun t490=>(impl_SingleChanges.j0 k l0 a1 (!t490))) else(impl_SingleChanges.j0 k l0 a1 true)))=some (r1,r2):=h
 clear h
 have HC3:=am_ H
 clear H
 go_enter Try.func17,Try.ntmps17
 go_upto_region 1 with (fail)
 go_cut [17] (fun v17 wc=>∃(kq:Nat) (x17_2:Bool),v17 = .bool x17_2∧Aside0 (impl_SingleChanges.j0 kq l0 a1 x17_2=some (r1,r2))∧Aside0 (kq≤k)∧Aside0 (Below w.heap.size w wc))
 case first=>
  have H:=HC3.out
  clear HC3
  obtain⟨t489,A4,H⟩:=bo_ H
  try dsimp only at H
  by_cases c5:t489=true
  ·subst c5
   replace H:((impl_isChecksum.f a1).bind fun t490=>(impl_SingleChanges.j0 k l0 a1 (!t490)))=some (r1,r2):=by rw[if_pos rfl]at H;exact H
   obtain⟨t490,A6,H⟩:=bo_ H
   try dsimp only at H
   have H':=am_ H
   clear H
   go_wp2_with (first|((with_reducible refine gate_callee (f:=21) rfl ?_);refine goesL_ (some 11) rfl rfl Try.func21 (by kernel_rfl) rfl #[.slice A0 l0.length c0] rfl gd_ ?_;(with_reducible refine(impl_IsSheet.calls k _ _ l0 true _ ?side1 ?side2 A4.out).mono ?_);(case side1=>exact(a13_ HR0.out));(case side2=>exact HC0.out);rintro e w7 ⟨rfl,hb⟩;refine⟨_,rfl,?_⟩;replace HB:=am_ (below_step (a0_) hb);(try clear hb);(try clear hb2);(try clear hk);(try clear hi))|(go_at_call 65;(with_reducible refine(impl_isChecksum.calls a1 t490 _ A6.out).mono ?_);rintro e w' ⟨rfl,⟨nd,rfl⟩⟩))
   go_meet
   case rel=>exact⟨_,(!t490),(by first | rfl|(simp;done)|(simp[*];done)),H',⟨by first | omega|exact Nat.le_refl _⟩,⟨a0_⟩⟩
  ·replace c5:=Bool.eq_false_iff.mpr c5
   subst c5
   replace H:(impl_SingleChanges.j0 k l0 a1 true)=some (r1,r2):=by rw[if_neg (show ¬(false=true) by decide)]at H;exact H
   have H':=am_ H
   clear H
   go_wp2_with (first|((with_reducible refine gate_callee (f:=21) rfl ?_);refine goesL_ (some 11) rfl rfl Try.func21 (by kernel_rfl) rfl #[.slice A0 l0.length c0] rfl gd_ ?_;(with_reducible refine(impl_IsSheet.calls k _ _ l0 false _ ?side1 ?side2 A4.out).mono ?_);(case side1=>exact(a13_ HR0.out));(case side2=>exact HC0.out);rintro e w8 ⟨rfl,hb⟩;refine⟨_,rfl,?_⟩;replace HB:=am_ (below_step (a0_) hb);(try clear hb);(try clear hb2);(try clear hk);(try clear hi)))
   go_meet
   case rel=>exact⟨_,(true),(by first | rfl|(simp;done)|(simp[*];done)),H',⟨by first | omega|exact Nat.le_refl _⟩,⟨a0_⟩⟩
 case rest=>
  clear HC3
  try clear c1
  try clear c2
  try clear p2
  try clear c5
  obtain⟨kq,x17_2,rfl,HA,HJ2,HB⟩:=hcut
  cases kq with
  | zero=>exact absurd HA.out (by simp[impl_SingleChanges.j0])
  | succ kj2=>
   have H:=HA.out
   clear HA
   simp only[impl_SingleChanges.j0]at H
   by_cases c9:x17_2=true
   ·subst c9
    replace H:(some (([]:List (List (S42))),false))=some (r1,r2):=by rw[if_pos rfl]at H;exact H
    simp only[Option.some.injEq,Prod.mk.injEq]at H
    obtain⟨rfl,rfl⟩:=H
    go_wp2
    go_ret2
    exact⟨_,a9_,a47_,a0_⟩
   ·replace c9:=Bool.eq_false_iff.mpr c9
    subst c9
    replace H:(impl_SingleChanges.l0 kj2 l0 a1 (([]:List (List (S42)))) (l0.length:Int) 0)=some (r1,r2):=by rw[if_neg (show ¬(false=true) by decide)]at H;exact H
    obtain⟨y491,hy491⟩:∃y_:List (List (S42)),y_=(([]:List (List (S42)))):=⟨_,rfl⟩
    replace H:(impl_SingleChanges.l0 kj2 l0 a1 y491 (l0.length:Int) 0)=some (r1,r2):=by first|(rw[hy491];with_reducible exact H)|(have H2_:=(Option.bind_some _ _).symm.trans H;rw[hy491];with_reducible exact H2_)|(have H2_:=(Option.bind_some _ _).symm.trans H;with_reducible exact H2_) | with_reducible exact H|(rw[hy491];exact H)|exact H
    have Ny491:=am_ hy491
    clear hy491
    have H':=am_ H
    clear H
    go_wp2_with (first|((with_reducible refine gate_dst (N:=18) rfl ?_);refine Kd.S_lit (Kd.slice 42 k42) _ 32 ?hg (N:=18) ?hd (xs:=([]:List (List (S42)))) (inner:=[]) (ok:=fun _=>True) (okp:=fun _=>True) ?hr ?hp (fun _ hk=>hk) trivial (Below.refl _ _) (Nat.le_refl _) (by simp) ?_;(case hd=>rfl);(case hg=>rfl);(case hr=>exact hr_);(case hp=>exact(Reps.none _ _));intro v492 w10 ho11 hb hg_ hnew_;clear hg_ hnew_;(first|rw[← Ny491.out]at ho11|(simp only[Int.reduceToNat]at ho11;rw[← Ny491.out]at ho11));have HO493:=am_ (Kd.S_lower ho11 (below_size (a0_)));replace HB:=am_ (below_step (a0_) hb);clear hb ho11))
    (try simp only[Act.put,List.setIfInBounds_toArray,List.set_cons_zero,List.set_cons_succ])
    go_loopg [6,21] kj2 (fun kq v6 v21 w'=>∃(x6_2:List (List (S42))) (x21_2:Int),v21 = .int .i64 x21_2∧Aside0 (impl_SingleChanges.l0 kq l0 a1 x6_2 (l0.length:Int) x21_2=some (r1,r2))∧Aside0 (kq≤kj2)∧Aside0 (Kd.S (Kd.slice 42 k42) 32 w' w.heap.size (fun _=>True) v6 x6_2)∧Aside0 (Below w.heap.size w w'))
    case atStart=>exact⟨(y491),(0),(by first | rfl|(simp;done)|(simp[*];done)),H',⟨Nat.le_refl _⟩,⟨(a18_ HO493.out)⟩,⟨a0_⟩⟩
    case round=>
     clear H'
     try clear c1
     try clear c2
     try clear p2
     try clear c5
     try clear c9
     try clear p2
     obtain⟨x6_2,x21_2,rfl,HA,HK2,HO_6,HB⟩:=hrel
     cases gk with
     | zero=>exact absurd HA.out (by simp[impl_SingleChanges.l0])
     | succ k2=>
      have H:=HA.out
      clear HA
      simp only[impl_SingleChanges.l0]at H
      by_cases c12:x21_2<(l0.length:Int)
      ·rw[if_pos c12]at H
       have c12b0:decide (x21_2<(l0.length:Int))=true:=decide_eq_true c12
       clear c12
       have H':=am_ H
       clear H
       go_wp2
       (try simp only[Act.put,List.setIfInBounds_toArray,List.set_cons_zero,List.set_cons_succ])
       go_loopg [6,8] k2 (fun kq v6 v8 w'=>∃(x6_3:List (List (S42))) (x8_3:Int),v8 = .int .i64 x8_3∧Aside0 (impl_SingleChanges.l1 kq l0 a1 x6_3 x21_2 x8_3 (l0.length:Int) x21_2=some (r1,r2))∧Aside0 (kq≤k2)∧Aside0 (Kd.S (Kd.slice 42 k42) 32 w' w.heap.size (fun _=>True) v6 x6_3)∧Aside0 (Below w.heap.size w w'))
       case atStart=>exact⟨(x6_2),((-3)),(by first | rfl|(simp;done)|(simp[*];done)),H',⟨Nat.le_refl _⟩,⟨(a18_ HO_6.out)⟩,⟨a0_⟩⟩
       case round=>
        clear H'
        try clear c1
        try clear c2
        try clear p2
        try clear c5
        try clear c9
        try clear c12
        try clear c12b0
        try clear p2
        obtain⟨x6_3,x8_3,rfl,HA,HK3,HO_6,HB⟩:=hrel
        cases gk with
        | zero=>exact absurd HA.out (by simp[impl_SingleChanges.l1])
        | succ k3=>
         have H:=HA.out
         clear HA
         simp only[impl_SingleChanges.l1]at H
         by_cases c13:x8_3≤3
         ·rw[if_pos c13]at H
          have c13b0:decide (x8_3≤3)=true:=decide_eq_true c13
          clear c13
          obtain⟨t494,A14,H⟩:=bo_ H
          try dsimp only at H
          by_cases c15:0≤x21_2
          ·rw[if_pos c15]at H
           have c15b0:decide (0≤x21_2)=true:=decide_eq_true c15
           clear c15
           by_cases c16:x21_2<(t494.length:Int)
           ·rw[if_pos c16]at H
            have c16b0:decide (x21_2<(t494.length:Int))=true:=decide_eq_true c16
            clear c16
            obtain⟨y498,hy498⟩:∃y_:List (S42),y_=(t494.set (x21_2:Int).toNat (⟨(rd_T42 t494 x21_2).f0,(rd_T42 t494 x21_2).f1,wrap64 (((rd_T42 t494 x21_2).f2)+x8_3)⟩:S42)):=⟨_,rfl⟩
            replace H:(if x8_3=0 then(impl_SingleChanges.l1 k3 l0 a1 x6_3 x21_2 (wrap64 (x8_3+1)) (l0.length:Int) x21_2) else((impl_IsSheet.f k3 y498).bind fun t499=>(if t499=true then((impl_checksumOf.f k3 y498).bind fun t500=>(if t500=a1 then(if x6_3.length<5864062014805 then(impl_SingleChanges.l1 k3 l0 a1 (x6_3 ++ [y498]) x21_2 (wrap64 (x8_3+1)) (l0.length:Int) x21_2) else(none)) else(impl_SingleChanges.l1 k3 l0 a1 x6_3 x21_2 (wrap64 (x8_3+1)) (l0.length:Int) x21_2))) else(impl_SingleChanges.l1 k3 l0 a1 x6_3 x21_2 (wrap64 (x8_3+1)) (l0.length:Int) x21_2))))=some (r1,r2):=by first|(rw[hy498];with_reducible exact H)|(have H2_:=(Option.bind_some _ _).symm.trans H;rw[hy498];with_reducible exact H2_)|(have H2_:=(Option.bind_some _ _).symm.trans H;with_reducible exact H2_) | with_reducible exact H|(rw[hy498];exact H)|exact H
            have Ny498:=am_ hy498
            clear hy498
            by_cases c18:x8_3=0
            ·rw[if_pos c18]at H
             have c18b0:(x8_3 == 0)=true:=beq_iff_eq.mpr c18
             have c18b1:(x8_3 != 0)=false:=bne_eq_false_iff_eq.mpr c18
             clear c18
             have H':=am_ H
             clear H
             go_wp2_with (first|((with_reducible refine gate_callee (f:=66) rfl ?_);refine goesL_ (some 29) rfl rfl Try.func66 (by kernel_rfl) rfl #[.slice A0 l0.length c0] rfl gd_ ?_;(with_reducible refine(impl_Hole_66.calls _ _ l0 t494 _ ?side1 ?side2 A14.out).mono ?_);(case side1=>exact(a13_ HR0.out));(case side2=>exact HC0.out);rintro e w19 ⟨v495,rfl,ho0,hb⟩;refine⟨_,rfl,?_⟩;replace HO_6:=am_ (Kd.S_elder' ((a18_ HO_6.out)) (Kd.R_base ho0) hb);have HO496:=am_ (Kd.R_lower ho0 (below_size (a0_)));replace HB:=am_ (below_step (a0_) hb);(try clear hb);(try clear hb2);(try clear hk);(try clear hi);(try clear ho0);obtain⟨Ao20,co20,eo20⟩:=Kd.R_slice HO496.out;subst eo20;have p497:0≤(x21_2:Int):=of_decide_eq_true (a8_);have q497:x21_2<(t494.length:Int):=of_decide_eq_true (a8_);obtain⟨ad497,e497,hx497_0,hx497_1,hx497_2⟩:=at_T42 (Kd.R_reads' HO496.out).2.2 x21_2 p497 q497;cases e497;replace p497:=eq_true p497;replace q497:=eq_true q497;have p17:0≤(x21_2:Int):=of_decide_eq_true (a8_);have q17:(x21_2:Int)<((t494.length:Int):Int):=of_decide_eq_true (a8_);obtain⟨go17,co17,eo17,gb17,gl17,cl17,HG17⟩:=Kd.R_form HO496.out (by omega);(first|cases eo17|(injection eo17 with ea_ en_ ec_;(first|subst ea_|(injection ea_ with ea_;subst ea_));subst ec_;clear en_));have GB17:=am_ gb17;have GG17:=am_ HG17;clear gb17 gl17 HG17;(first|simp only[add_plain]at hx497_0 | skip);(first|simp only[add_plain]at hx497_1 | skip);(first|simp only[add_plain]at hx497_2 | skip);obtain⟨ce17,hcl17,hM17,hcc17,hfr17⟩:=Kd.R_elem HO496.out z42 (x21_2:Int) p17 q17;obtain rfl:=k42_openM hM17;have hx17_0:w19.cell? ⟨go17,(x21_2:Int).toNat*3,none⟩=some (.int .i64 ((rd_T42 t494 x21_2).f0)):=hcc17 0 _ rfl;have hx17_1:w19.cell? ⟨go17,(x21_2:Int).toNat*3+1,none⟩=some (.int .i64 ((rd_T42 t494 x21_2).f1)):=hcc17 1 _ rfl;have hx17_2:w19.cell? ⟨go17,(x21_2:Int).toNat*3+2,none⟩=some (.int .i64 ((rd_T42 t494 x21_2).f2)):=hcc17 2 _ rfl;have hf17_0:w19.frozen? ⟨go17,(x21_2:Int).toNat*3,none⟩=false:=hfr17 0;have hf17_1:w19.frozen? ⟨go17,(x21_2:Int).toNat*3+1,none⟩=false:=hfr17 1;have hf17_2:w19.frozen? ⟨go17,(x21_2:Int).toNat*3+2,none⟩=false:=hfr17 2;clear hcl17 hcc17 hfr17;(try clear hM17);replace p17:=eq_true p17;replace q17:=eq_true q17;have HX21:=am_ (show Kd.R k42 42 w19 w.heap.size (fun _=>True) (.slice (some ⟨go17,0,none⟩) t494.length co20) t494 from((a1_ HO496.out)));obtain⟨ce21,hcl21,hM21,hcc21,hfr21⟩:=Kd.R_elem HX21.out z42 (x21_2:Int) (of_decide_eq_true (a8_)) (by have h_:(x21_2:Int)<((t494.length:Int):Int):=of_decide_eq_true (a8_);first|exact h_|(have e_:=(Kd.R_reads' HO496.out).1;omega) | simpa using h_);obtain rfl:=k42_openM hM21;have HP21:=Kd.R_seg HX21.out (x21_2:Int) (of_decide_eq_true (a8_)) (by have h_:(x21_2:Int)<((t494.length:Int):Int):=of_decide_eq_true (a8_);first|exact h_|(have e_:=(Kd.R_reads' HO496.out).1;omega) | simpa using h_) (seg:=[.int .i64 (wrap64 (((rd_T42 t494 x21_2).f2)+x8_3))]) (j:=2) hcl21 hcc21 (show 3≤3 from by decide) (x':=(⟨(rd_T42 t494 x21_2).f0,(rd_T42 t494 x21_2).f1,wrap64 (((rd_T42 t494 x21_2).f2)+x8_3)⟩:S42)) (k42_mkM _ _ _ (⟨(rd_T42 t494 x21_2).f0,(rd_T42 t494 x21_2).f1,wrap64 (((rd_T42 t494 x21_2).f2)+x8_3)⟩:S42) ) (fun _ hk=>hk);have hx21_2:=hcc21 2 _ rfl;(try simp only[show(k42).sz=3 from rfl,Nat.mul_one,Nat.add_zero]at hx21_2);have hf21_2:=hfr21 2;(try simp only[show(k42).sz=3 from rfl,Nat.mul_one,Nat.add_zero]at hf21_2);clear hcl21 hcc21 hfr21;(try clear hM21))|((with_reducible refine gate_store (t:=3) (p:=38) rfl ?_);refine store_event (t:=3) (p:=38) (v:=?vo_w22) (w1:=(w19.setCell ⟨go17,(x21_2:Int).toNat*3+2,none⟩ (.int .i64 (wrap64 (((rd_T42 t494 x21_2).f2)+x8_3))))) ?hg ?ho ?hn ?hr ?_;(case ho=>rfl);(case hg=>rfl);(case hn=>rfl);(case hr=>exact hr_);intro w22 hw;have hg:w19.grownBy w22 (some go17):=(by rw[hw];exact HP21.2);have hp_:Kd.R k42 42 w22 w.heap.size (fun _=>True) (.slice (some ⟨go17,0,none⟩) t494.length co20) y498:=(by rw[hw,Ny498.out];exact HP21.1);clear HP21;replace HO_6:=am_ (Kd.S_after (v:=(.slice (some ⟨go17,0,none⟩) t494.length co20)) (v1:=(.slice (some ⟨go17,0,none⟩) t494.length co20)) (ok:=(fun _=>True)) ((a18_ HO_6.out)) hg (.inl rfl));replace HO496:=am_ (hp_);replace HB:=am_ ((by rw[hw];exact below_set (HB.out) GB17.out:Below w.heap.size w w22));clear hg hw hp_))
             go_roundg k3
             case measure=>have:=HJ2.out;have:=HK2.out;have:=HK3.out;omega
             case rel=>exact⟨(x6_3),(wrap64 (x8_3+1)),(by first | rfl|(simp;done)|(simp[*];done)),H',⟨by have:=HJ2.out;have:=HK2.out;have:=HK3.out;omega⟩,⟨(a40_ HO_6.out)⟩,⟨a0_⟩⟩
            ·rw[if_neg c18]at H
             have c18b0:(x8_3 == 0)=false:=beq_eq_false_iff_ne.mpr c18
             have c18b1:(x8_3 != 0)=true:=bne_iff_ne.mpr c18
             obtain⟨t499,A23,H⟩:=bo_ H
             try dsimp only at H
             by_cases c24:t499=true
             ·subst c24
              replace H:((impl_checksumOf.f k3 y498).bind fun t500=>(if t500=a1 then(if x6_3.length<5864062014805 then(impl_SingleChanges.l1 k3 l0 a1 (x6_3 ++ [y498]) x21_2 (wrap64 (x8_3+1)) (l0.length:Int) x21_2) else(none)) else(impl_SingleChanges.l1 k3 l0 a1 x6_3 x21_2 (wrap64 (x8_3+1)) (l0.length:Int) x21_2)))=some (r1,r2):=by rw[if_pos rfl]at H;exact H
              obtain⟨t500,A25,H⟩:=bo_ H
              try dsimp only at H
              by_cases c26:t500=a1
              ·rw[if_pos c26]at H
               have c26b0:(t500 == a1)=true:=beq_iff_eq.mpr c26
               have c26b1:(t500 != a1)=false:=bne_eq_false_iff_eq.mpr c26
               clear c26
               by_cases c27:x6_3.length<5864062014805
               ·rw[if_pos c27]at H
                have LMc27:=am_ c27
                clear c27
                obtain⟨y501,hy501⟩:∃y_:List (List (S42)),y_=(x6_3 ++ [y498]):=⟨_,rfl⟩
                replace H:(impl_SingleChanges.l1 k3 l0 a1 y501 x21_2 (wrap64 (x8_3+1)) (l0.length:Int) x21_2)=some (r1,r2):=by first|(rw[hy501];with_reducible exact H)|(have H2_:=(Option.bind_some _ _).symm.trans H;rw[hy501];with_reducible exact H2_)|(have H2_:=(Option.bind_some _ _).symm.trans H;with_reducible exact H2_) | with_reducible exact H|(rw[hy501];exact H)|exact H
                have Ny501:=am_ hy501
                clear hy501
                have H':=am_ H
                clear H
                go_wp2_with (first|((with_reducible refine gate_callee (f:=66) rfl ?_);refine goesL_ (some 29) rfl rfl Try.func66 (by kernel_rfl) rfl #[.slice A0 l0.length c0] rfl gd_ ?_;(with_reducible refine(impl_Hole_66.calls _ _ l0 t494 _ ?side1 ?side2 A14.out).mono ?_);(case side1=>exact(a13_ HR0.out));(case side2=>exact HC0.out);rintro e w28 ⟨v495,rfl,ho0,hb⟩;refine⟨_,rfl,?_⟩;replace HO_6:=am_ (Kd.S_elder' ((a18_ HO_6.out)) (Kd.R_base ho0) hb);have HO496:=am_ (Kd.R_lower ho0 (below_size (a0_)));replace HB:=am_ (below_step (a0_) hb);(try clear hb);(try clear hb2);(try clear hk);(try clear hi);(try clear ho0);obtain⟨Ao29,co29,eo29⟩:=Kd.R_slice HO496.out;subst eo29;have p497:0≤(x21_2:Int):=of_decide_eq_true (a8_);have q497:x21_2<(t494.length:Int):=of_decide_eq_true (a8_);obtain⟨ad497,e497,hx497_0,hx497_1,hx497_2⟩:=at_T42 (Kd.R_reads' HO496.out).2.2 x21_2 p497 q497;cases e497;replace p497:=eq_true p497;replace q497:=eq_true q497;have p17:0≤(x21_2:Int):=of_decide_eq_true (a8_);have q17:(x21_2:Int)<((t494.length:Int):Int):=of_decide_eq_true (a8_);obtain⟨go17,co17,eo17,gb17,gl17,cl17,HG17⟩:=Kd.R_form HO496.out (by omega);(first|cases eo17|(injection eo17 with ea_ en_ ec_;(first|subst ea_|(injection ea_ with ea_;subst ea_));subst ec_;clear en_));have GB17:=am_ gb17;have GG17:=am_ HG17;clear gb17 gl17 HG17;(first|simp only[add_plain]at hx497_0 | skip);(first|simp only[add_plain]at hx497_1 | skip);(first|simp only[add_plain]at hx497_2 | skip);obtain⟨ce17,hcl17,hM17,hcc17,hfr17⟩:=Kd.R_elem HO496.out z42 (x21_2:Int) p17 q17;obtain rfl:=k42_openM hM17;have hx17_0:w28.cell? ⟨go17,(x21_2:Int).toNat*3,none⟩=some (.int .i64 ((rd_T42 t494 x21_2).f0)):=hcc17 0 _ rfl;have hx17_1:w28.cell? ⟨go17,(x21_2:Int).toNat*3+1,none⟩=some (.int .i64 ((rd_T42 t494 x21_2).f1)):=hcc17 1 _ rfl;have hx17_2:w28.cell? ⟨go17,(x21_2:Int).toNat*3+2,none⟩=some (.int .i64 ((rd_T42 t494 x21_2).f2)):=hcc17 2 _ rfl;have hf17_0:w28.frozen? ⟨go17,(x21_2:Int).toNat*3,none⟩=false:=hfr17 0;have hf17_1:w28.frozen? ⟨go17,(x21_2:Int).toNat*3+1,none⟩=false:=hfr17 1;have hf17_2:w28.frozen? ⟨go17,(x21_2:Int).toNat*3+2,none⟩=false:=hfr17 2;clear hcl17 hcc17 hfr17;(try clear hM17);replace p17:=eq_true p17;replace q17:=eq_true q17;have HX30:=am_ (show Kd.R k42 42 w28 w.heap.size (fun _=>True) (.slice (some ⟨go17,0,none⟩) t494.length co29) t494 from((a1_ HO496.out)));obtain⟨ce30,hcl30,hM30,hcc30,hfr30⟩:=Kd.R_elem HX30.out z42 (x21_2:Int) (of_decide_eq_true (a8_)) (by have h_:(x21_2:Int)<((t494.length:Int):Int):=of_decide_eq_true (a8_);first|exact h_|(have e_:=(Kd.R_reads' HO496.out).1;omega) | simpa using h_);obtain rfl:=k42_openM hM30;have HP30:=Kd.R_seg HX30.out (x21_2:Int) (of_decide_eq_true (a8_)) (by have h_:(x21_2:Int)<((t494.length:Int):Int):=of_decide_eq_true (a8_);first|exact h_|(have e_:=(Kd.R_reads' HO496.out).1;omega) | simpa using h_) (seg:=[.int .i64 (wrap64 (((rd_T42 t494 x21_2).f2)+x8_3))]) (j:=2) hcl30 hcc30 (show 3≤3 from by decide) (x':=(⟨(rd_T42 t494 x21_2).f0,(rd_T42 t494 x21_2).f1,wrap64 (((rd_T42 t494 x21_2).f2)+x8_3)⟩:S42)) (k42_mkM _ _ _ (⟨(rd_T42 t494 x21_2).f0,(rd_T42 t494 x21_2).f1,wrap64 (((rd_T42 t494 x21_2).f2)+x8_3)⟩:S42) ) (fun _ hk=>hk);have hx30_2:=hcc30 2 _ rfl;(try simp only[show(k42).sz=3 from rfl,Nat.mul_one,Nat.add_zero]at hx30_2);have hf30_2:=hfr30 2;(try simp only[show(k42).sz=3 from rfl,Nat.mul_one,Nat.add_zero]at hf30_2);clear hcl30 hcc30 hfr30;(try clear hM30))|((with_reducible refine gate_store (t:=3) (p:=38) rfl ?_);refine store_event (t:=3) (p:=38) (v:=?vo_w31) (w1:=(w28.setCell ⟨go17,(x21_2:Int).toNat*3+2,none⟩ (.int .i64 (wrap64 (((rd_T42 t494 x21_2).f2)+x8_3))))) ?hg ?ho ?hn ?hr ?_;(case ho=>rfl);(case hg=>rfl);(case hn=>rfl);(case hr=>exact hr_);intro w31 hw;have hg:w28.grownBy w31 (some go17):=(by rw[hw];exact HP30.2);have hp_:Kd.R k42 42 w31 w.heap.size (fun _=>True) (.slice (some ⟨go17,0,none⟩) t494.length co29) y498:=(by rw[hw,Ny498.out];exact HP30.1);clear HP30;replace HO_6:=am_ (Kd.S_after (v:=(.slice (some ⟨go17,0,none⟩) t494.length co29)) (v1:=(.slice (some ⟨go17,0,none⟩) t494.length co29)) (ok:=(fun _=>True)) ((a18_ HO_6.out)) hg (.inl rfl));replace HO496:=am_ (hp_);replace HB:=am_ ((by rw[hw];exact below_set (HB.out) GB17.out:Below w.heap.size w w31));clear hg hw hp_)|(go_at_call 21;refine calls_of_args (args':= #[.slice (some ⟨go17,0,none⟩) y498.length co29]) ((a45_ HO496.out)) ?_;(with_reducible refine(impl_IsSheet.calls k3 _ _ y498 true _ ?side1 ?side2 A23.out).mono ?_);(case side1=>exact(a11_ HO496.out));(case side2=>rw[show y498.length=t494.length from(Kd.R_reads' HO496.out).1.symm];exact(Kd.R_reads' HO496.out).2.1);rintro e w32 ⟨rfl,hb⟩;replace HO_6:=am_ (Kd.S_below ((a18_ HO_6.out)) hb);replace HO496:=am_ (Kd.R_below ((a1_ HO496.out)) hb);replace HB:=am_ (below_step (a0_) hb);(try clear hb);(try clear hb2);(try clear hk);(try clear hi))|(go_at_call 60;refine calls_of_args (args':= #[.slice (some ⟨go17,0,none⟩) y498.length co29]) ((a45_ HO496.out)) ?_;(with_reducible refine(impl_checksumOf.calls k3 _ _ y498 t500 _ ?side1 ?side2 A25.out).mono ?_);(case side1=>exact(a11_ HO496.out));(case side2=>rw[show y498.length=t494.length from(Kd.R_reads' HO496.out).1.symm];exact(Kd.R_reads' HO496.out).2.1);rintro e w33 ⟨rfl,hb⟩;replace HO_6:=am_ (Kd.S_below ((a18_ HO_6.out)) hb);replace HO496:=am_ (Kd.R_below ((a1_ HO496.out)) hb);replace HB:=am_ (below_step (a0_) hb);(try clear hb);(try clear hb2);(try clear hk);(try clear hi))|((with_reducible refine gate_builtin (b:= .append) (xs:= #[.tmp 51, .tmp 53]) rfl ?_);at_builtin;refine Kd.S_append (Kd.slice 42 k42) (w0:=w) w.heap.size rfl (.tmp 51) (.tmp 53) 24 32 (.slice none 0 0) 24 rfl Try.underlying24 info32 rfl (by decide) (by omega) u6 x6_3 y498 [.slice (some ⟨go17,0,none⟩) t494.length co29] (fun _=>True) (fun k_=>some k_=(.slice (some ⟨go17,0,none⟩) t494.length co29:Value).ownBlock) rfl rfl ?aP (fun k_ hk_=>((Kd.R_mono (ok':=fun k_=>((fun _=>True)) k_∧some k_≠(u6:Value).ownBlock) (Kd.R_apart' (HO496.out) (Kd.S_typed HO_6.out) (by decide)) (fun k_ hk=>⟨trivial,hk.2⟩))).1 k_ hk_.symm) ?aF ?aO ?aB ?aS ?aL ?_;(case aP=>exact Kd.M_row (Kd.R_mono (Kd.R_tight rfl (Kd.R_mono (ok':=fun k_=>((fun _=>True)) k_∧some k_≠(u6:Value).ownBlock) (Kd.R_apart' (HO496.out) (Kd.S_typed HO_6.out) (by decide)) (fun k_ hk=>⟨trivial,hk.2⟩))) (fun _ h_=>h_)));(case aB=>exact(a0_));(case aF=>exact(fun _ _=>trivial));(case aO=>exact(by(with_reducible repeat (first|apply Kd.S_alloc|apply Kd.S_drewN|apply Kd.S_drew));exact Kd.S_mono HO_6.out (fun k_ hk=>⟨trivial,fun e_=>hk.2 e_⟩)));(case aS=>exact(below_size (a0_)));(case aL=>have:=LMc27.out;omega);intro v502 w34 ho hb hg hat;rw[← Ny501.out]at ho;have n0_:=am_ (hb);have n1_:=am_ (ho);clear HB HO_6 HO496;have HB:=n0_;have HO503:=n1_;clear n0_ n1_ ho hb hg hat))
                go_roundg k3
                case measure=>have:=HJ2.out;have:=HK2.out;have:=HK3.out;omega
                case rel=>exact⟨(y501),(wrap64 (x8_3+1)),(by first | rfl|(simp;done)|(simp[*];done)),H',⟨by have:=HJ2.out;have:=HK2.out;have:=HK3.out;omega⟩,⟨(a18_ HO503.out)⟩,⟨a0_⟩⟩
               ·rw[if_neg c27]at H
                exact absurd H (by simp)
              ·rw[if_neg c26]at H
               have c26b0:(t500 == a1)=false:=beq_eq_false_iff_ne.mpr c26
               have c26b1:(t500 != a1)=true:=bne_iff_ne.mpr c26
               have H':=am_ H
               clear H
               go_wp2_with (first|((with_reducible refine gate_callee (f:=66) rfl ?_);refine goesL_ (some 29) rfl rfl Try.func66 (by kernel_rfl) rfl #[.slice A0 l0.length c0] rfl gd_ ?_;(with_reducible refine(impl_Hole_66.calls _ _ l0 t494 _ ?side1 ?side2 A14.out).mono ?_);(case side1=>exact(a13_ HR0.out));(case side2=>exact HC0.out);rintro e w35 ⟨v495,rfl,ho0,hb⟩;refine⟨_,rfl,?_⟩;replace HO_6:=am_ (Kd.S_elder' ((a18_ HO_6.out)) (Kd.R_base ho0) hb);have HO496:=am_ (Kd.R_lower ho0 (below_size (a0_)));replace HB:=am_ (below_step (a0_) hb);(try clear hb);(try clear hb2);(try clear hk);(try clear hi);(try clear ho0);obtain⟨Ao36,co36,eo36⟩:=Kd.R_slice HO496.out;subst eo36;have p497:0≤(x21_2:Int):=of_decide_eq_true (a8_);have q497:x21_2<(t494.length:Int):=of_decide_eq_true (a8_);obtain⟨ad497,e497,hx497_0,hx497_1,hx497_2⟩:=at_T42 (Kd.R_reads' HO496.out).2.2 x21_2 p497 q497;cases e497;replace p497:=eq_true p497;replace q497:=eq_true q497;have p17:0≤(x21_2:Int):=of_decide_eq_true (a8_);have q17:(x21_2:Int)<((t494.length:Int):Int):=of_decide_eq_true (a8_);obtain⟨go17,co17,eo17,gb17,gl17,cl17,HG17⟩:=Kd.R_form HO496.out (by omega);(first|cases eo17|(injection eo17 with ea_ en_ ec_;(first|subst ea_|(injection ea_ with ea_;subst ea_));subst ec_;clear en_));have GB17:=am_ gb17;have GG17:=am_ HG17;clear gb17 gl17 HG17;(first|simp only[add_plain]at hx497_0 | skip);(first|simp only[add_plain]at hx497_1 | skip);(first|simp only[add_plain]at hx497_2 | skip);obtain⟨ce17,hcl17,hM17,hcc17,hfr17⟩:=Kd.R_elem HO496.out z42 (x21_2:Int) p17 q17;obtain rfl:=k42_openM hM17;have hx17_0:w35.cell? ⟨go17,(x21_2:Int).toNat*3,none⟩=some (.int .i64 ((rd_T42 t494 x21_2).f0)):=hcc17 0 _ rfl;have hx17_1:w35.cell? ⟨go17,(x21_2:Int).toNat*3+1,none⟩=some (.int .i64 ((rd_T42 t494 x21_2).f1)):=hcc17 1 _ rfl;have hx17_2:w35.cell? ⟨go17,(x21_2:Int).toNat*3+2,none⟩=some (.int .i64 ((rd_T42 t494 x21_2).f2)):=hcc17 2 _ rfl;have hf17_0:w35.frozen? ⟨go17,(x21_2:Int).toNat*3,none⟩=false:=hfr17 0;have hf17_1:w35.frozen? ⟨go17,(x21_2:Int).toNat*3+1,none⟩=false:=hfr17 1;have hf17_2:w35.frozen? ⟨go17,(x21_2:Int).toNat*3+2,none⟩=false:=hfr17 2;clear hcl17 hcc17 hfr17;(try clear hM17);replace p17:=eq_true p17;replace q17:=eq_true q17;have HX37:=am_ (show Kd.R k42 42 w35 w.heap.size (fun _=>True) (.slice (some ⟨go17,0,none⟩) t494.length co36) t494 from((a1_ HO496.out)));obtain⟨ce37,hcl37,hM37,hcc37,hfr37⟩:=Kd.R_elem HX37.out z42 (x21_2:Int) (of_decide_eq_true (a8_)) (by have h_:(x21_2:Int)<((t494.length:Int):Int):=of_decide_eq_true (a8_);first|exact h_|(have e_:=(Kd.R_reads' HO496.out).1;omega) | simpa using h_);obtain rfl:=k42_openM hM37;have HP37:=Kd.R_seg HX37.out (x21_2:Int) (of_decide_eq_true (a8_)) (by have h_:(x21_2:Int)<((t494.length:Int):Int):=of_decide_eq_true (a8_);first|exact h_|(have e_:=(Kd.R_reads' HO496.out).1;omega) | simpa using h_) (seg:=[.int .i64 (wrap64 (((rd_T42 t494 x21_2).f2)+x8_3))]) (j:=2) hcl37 hcc37 (show 3≤3 from by decide) (x':=(⟨(rd_T42 t494 x21_2).f0,(rd_T42 t494 x21_2).f1,wrap64 (((rd_T42 t494 x21_2).f2)+x8_3)⟩:S42)) (k42_mkM _ _ _ (⟨(rd_T42 t494 x21_2).f0,(rd_T42 t494 x21_2).f1,wrap64 (((rd_T42 t494 x21_2).f2)+x8_3)⟩:S42) ) (fun _ hk=>hk);have hx37_2:=hcc37 2 _ rfl;(try simp only[show(k42).sz=3 from rfl,Nat.mul_one,Nat.add_zero]at hx37_2);have hf37_2:=hfr37 2;(try simp only[show(k42).sz=3 from rfl,Nat.mul_one,Nat.add_zero]at hf37_2);clear hcl37 hcc37 hfr37;(try clear hM37))|((with_reducible refine gate_store (t:=3) (p:=38) rfl ?_);refine store_event (t:=3) (p:=38) (v:=?vo_w38) (w1:=(w35.setCell ⟨go17,(x21_2:Int).toNat*3+2,none⟩ (.int .i64 (wrap64 (((rd_T42 t494 x21_2).f2)+x8_3))))) ?hg ?ho ?hn ?hr ?_;(case ho=>rfl);(case hg=>rfl);(case hn=>rfl);(case hr=>exact hr_);intro w38 hw;have hg:w35.grownBy w38 (some go17):=(by rw[hw];exact HP37.2);have hp_:Kd.R k42 42 w38 w.heap.size (fun _=>True) (.slice (some ⟨go17,0,none⟩) t494.length co36) y498:=(by rw[hw,Ny498.out];exact HP37.1);clear HP37;replace HO_6:=am_ (Kd.S_after (v:=(.slice (some ⟨go17,0,none⟩) t494.length co36)) (v1:=(.slice (some ⟨go17,0,none⟩) t494.length co36)) (ok:=(fun _=>True)) ((a18_ HO_6.out)) hg (.inl rfl));replace HO496:=am_ (hp_);replace HB:=am_ ((by rw[hw];exact below_set (HB.out) GB17.out:Below w.heap.size w w38));clear hg hw hp_)|(go_at_call 21;refine calls_of_args (args':= #[.slice (some ⟨go17,0,none⟩) y498.length co36]) ((a45_ HO496.out)) ?_;(with_reducible refine(impl_IsSheet.calls k3 _ _ y498 true _ ?side1 ?side2 A23.out).mono ?_);(case side1=>exact(a11_ HO496.out));(case side2=>rw[show y498.length=t494.length from(Kd.R_reads' HO496.out).1.symm];exact(Kd.R_reads' HO496.out).2.1);rintro e w39 ⟨rfl,hb⟩;replace HO_6:=am_ (Kd.S_below ((a18_ HO_6.out)) hb);replace HO496:=am_ (Kd.R_below ((a1_ HO496.out)) hb);replace HB:=am_ (below_step (a0_) hb);(try clear hb);(try clear hb2);(try clear hk);(try clear hi))|(go_at_call 60;refine calls_of_args (args':= #[.slice (some ⟨go17,0,none⟩) y498.length co36]) ((a45_ HO496.out)) ?_;(with_reducible refine(impl_checksumOf.calls k3 _ _ y498 t500 _ ?side1 ?side2 A25.out).mono ?_);(case side1=>exact(a11_ HO496.out));(case side2=>rw[show y498.length=t494.length from(Kd.R_reads' HO496.out).1.symm];exact(Kd.R_reads' HO496.out).2.1);rintro e w40 ⟨rfl,hb⟩;replace HO_6:=am_ (Kd.S_below ((a18_ HO_6.out)) hb);replace HO496:=am_ (Kd.R_below ((a1_ HO496.out)) hb);replace HB:=am_ (below_step (a0_) hb);(try clear hb);(try clear hb2);(try clear hk);(try clear hi)))
               go_roundg k3
               case measure=>have:=HJ2.out;have:=HK2.out;have:=HK3.out;omega
               case rel=>exact⟨(x6_3),(wrap64 (x8_3+1)),(by first | rfl|(simp;done)|(simp[*];done)),H',⟨by have:=HJ2.out;have:=HK2.out;have:=HK3.out;omega⟩,⟨(a40_ HO_6.out)⟩,⟨a0_⟩⟩
             ·replace c24:=Bool.eq_false_iff.mpr c24
              subst c24
              replace H:(impl_SingleChanges.l1 k3 l0 a1 x6_3 x21_2 (wrap64 (x8_3+1)) (l0.length:Int) x21_2)=some (r1,r2):=by rw[if_neg (show ¬(false=true) by decide)]at H;exact H
              have H':=am_ H
              clear H
              go_wp2_with (first|((with_reducible refine gate_callee (f:=66) rfl ?_);refine goesL_ (some 29) rfl rfl Try.func66 (by kernel_rfl) rfl #[.slice A0 l0.length c0] rfl gd_ ?_;(with_reducible refine(impl_Hole_66.calls _ _ l0 t494 _ ?side1 ?side2 A14.out).mono ?_);(case side1=>exact(a13_ HR0.out));(case side2=>exact HC0.out);rintro e w41 ⟨v495,rfl,ho0,hb⟩;refine⟨_,rfl,?_⟩;replace HO_6:=am_ (Kd.S_elder' ((a18_ HO_6.out)) (Kd.R_base ho0) hb);have HO496:=am_ (Kd.R_lower ho0 (below_size (a0_)));replace HB:=am_ (below_step (a0_) hb);(try clear hb);(try clear hb2);(try clear hk);(try clear hi);(try clear ho0);obtain⟨Ao42,co42,eo42⟩:=Kd.R_slice HO496.out;subst eo42;have p497:0≤(x21_2:Int):=of_decide_eq_true (a8_);have q497:x21_2<(t494.length:Int):=of_decide_eq_true (a8_);obtain⟨ad497,e497,hx497_0,hx497_1,hx497_2⟩:=at_T42 (Kd.R_reads' HO496.out).2.2 x21_2 p497 q497;cases e497;replace p497:=eq_true p497;replace q497:=eq_true q497;have p17:0≤(x21_2:Int):=of_decide_eq_true (a8_);have q17:(x21_2:Int)<((t494.length:Int):Int):=of_decide_eq_true (a8_);obtain⟨go17,co17,eo17,gb17,gl17,cl17,HG17⟩:=Kd.R_form HO496.out (by omega);(first|cases eo17|(injection eo17 with ea_ en_ ec_;(first|subst ea_|(injection ea_ with ea_;subst ea_));subst ec_;clear en_));have GB17:=am_ gb17;have GG17:=am_ HG17;clear gb17 gl17 HG17;(first|simp only[add_plain]at hx497_0 | skip);(first|simp only[add_plain]at hx497_1 | skip);(first|simp only[add_plain]at hx497_2 | skip);obtain⟨ce17,hcl17,hM17,hcc17,hfr17⟩:=Kd.R_elem HO496.out z42 (x21_2:Int) p17 q17;obtain rfl:=k42_openM hM17;have hx17_0:w41.cell? ⟨go17,(x21_2:Int).toNat*3,none⟩=some (.int .i64 ((rd_T42 t494 x21_2).f0)):=hcc17 0 _ rfl;have hx17_1:w41.cell? ⟨go17,(x21_2:Int).toNat*3+1,none⟩=some (.int .i64 ((rd_T42 t494 x21_2).f1)):=hcc17 1 _ rfl;have hx17_2:w41.cell? ⟨go17,(x21_2:Int).toNat*3+2,none⟩=some (.int .i64 ((rd_T42 t494 x21_2).f2)):=hcc17 2 _ rfl;have hf17_0:w41.frozen? ⟨go17,(x21_2:Int).toNat*3,none⟩=false:=hfr17 0;have hf17_1:w41.frozen? ⟨go17,(x21_2:Int).toNat*3+1,none⟩=false:=hfr17 1;have hf17_2:w41.frozen? ⟨go17,(x21_2:Int).toNat*3+2,none⟩=false:=hfr17 2;clear hcl17 hcc17 hfr17;(try clear hM17);replace p17:=eq_true p17;replace q17:=eq_true q17;have HX43:=am_ (show Kd.R k42 42 w41 w.heap.size (fun _=>True) (.slice (some ⟨go17,0,none⟩) t494.length co42) t494 from((a1_ HO496.out)));obtain⟨ce43,hcl43,hM43,hcc43,hfr43⟩:=Kd.R_elem HX43.out z42 (x21_2:Int) (of_decide_eq_true (a8_)) (by have h_:(x21_2:Int)<((t494.length:Int):Int):=of_decide_eq_true (a8_);first|exact h_|(have e_:=(Kd.R_reads' HO496.out).1;omega) | simpa using h_);obtain rfl:=k42_openM hM43;have HP43:=Kd.R_seg HX43.out (x21_2:Int) (of_decide_eq_true (a8_)) (by have h_:(x21_2:Int)<((t494.length:Int):Int):=of_decide_eq_true (a8_);first|exact h_|(have e_:=(Kd.R_reads' HO496.out).1;omega) | simpa using h_) (seg:=[.int .i64 (wrap64 (((rd_T42 t494 x21_2).f2)+x8_3))]) (j:=2) hcl43 hcc43 (show 3≤3 from by decide) (x':=(⟨(rd_T42 t494 x21_2).f0,(rd_T42 t494 x21_2).f1,wrap64 (((rd_T42 t494 x21_2).f2)+x8_3)⟩:S42)) (k42_mkM _ _ _ (⟨(rd_T42 t494 x21_2).f0,(rd_T42 t494 x21_2).f1,wrap64 (((rd_T42 t494 x21_2).f2)+x8_3)⟩:S42) ) (fun _ hk=>hk);have hx43_2:=hcc43 2 _ rfl;(try simp only[show(k42).sz=3 from rfl,Nat.mul_one,Nat.add_zero]at hx43_2);have hf43_2:=hfr43 2;(try simp only[show(k42).sz=3 from rfl,Nat.mul_one,Nat.add_zero]at hf43_2);clear hcl43 hcc43 hfr43;(try clear hM43))|((with_reducible refine gate_store (t:=3) (p:=38) rfl ?_);refine store_event (t:=3) (p:=38) (v:=?vo_w44) (w1:=(w41.setCell ⟨go17,(x21_2:Int).toNat*3+2,none⟩ (.int .i64 (wrap64 (((rd_T42 t494 x21_2).f2)+x8_3))))) ?hg ?ho ?hn ?hr ?_;(case ho=>rfl);(case hg=>rfl);(case hn=>rfl);(case hr=>exact hr_);intro w44 hw;have hg:w41.grownBy w44 (some go17):=(by rw[hw];exact HP43.2);have hp_:Kd.R k42 42 w44 w.heap.size (fun _=>True) (.slice (some ⟨go17,0,none⟩) t494.length co42) y498:=(by rw[hw,Ny498.out];exact HP43.1);clear HP43;replace HO_6:=am_ (Kd.S_after (v:=(.slice (some ⟨go17,0,none⟩) t494.length co42)) (v1:=(.slice (some ⟨go17,0,none⟩) t494.length co42)) (ok:=(fun _=>True)) ((a18_ HO_6.out)) hg (.inl rfl));replace HO496:=am_ (hp_);replace HB:=am_ ((by rw[hw];exact below_set (HB.out) GB17.out:Below w.heap.size w w44));clear hg hw hp_)|(go_at_call 21;refine calls_of_args (args':= #[.slice (some ⟨go17,0,none⟩) y498.length co42]) ((a45_ HO496.out)) ?_;(with_reducible refine(impl_IsSheet.calls k3 _ _ y498 false _ ?side1 ?side2 A23.out).mono ?_);(case side1=>exact(a11_ HO496.out));(case side2=>rw[show y498.length=t494.length from(Kd.R_reads' HO496.out).1.symm];exact(Kd.R_reads' HO496.out).2.1);rintro e w45 ⟨rfl,hb⟩;replace HO_6:=am_ (Kd.S_below ((a18_ HO_6.out)) hb);replace HO496:=am_ (Kd.R_below ((a1_ HO496.out)) hb);replace HB:=am_ (below_step (a0_) hb);(try clear hb);(try clear hb2);(try clear hk);(try clear hi)))
              go_roundg k3
              case measure=>have:=HJ2.out;have:=HK2.out;have:=HK3.out;omega
              case rel=>exact⟨(x6_3),(wrap64 (x8_3+1)),(by first | rfl|(simp;done)|(simp[*];done)),H',⟨by have:=HJ2.out;have:=HK2.out;have:=HK3.out;omega⟩,⟨(a40_ HO_6.out)⟩,⟨a0_⟩⟩
           ·rw[if_neg c16]at H
            exact absurd H (by simp)
          ·rw[if_neg c15]at H
           exact absurd H (by simp)
         ·rw[if_neg c13]at H
          have c13b0:decide (x8_3≤3)=false:=decide_eq_false c13
          clear c13
          have H':=am_ H
          clear H
          go_wp2
          go_roundg k3
          case measure=>have:=HJ2.out;have:=HK2.out;have:=HK3.out;omega
          case rel=>exact⟨(x6_3),(wrap64 (x21_2+1)),(by first | rfl|(simp;done)|(simp[*];done)),H',⟨by have:=HJ2.out;have:=HK2.out;have:=HK3.out;omega⟩,⟨(a18_ HO_6.out)⟩,⟨a0_⟩⟩
      ·rw[if_neg c12]at H
       have c12b0:decide (x21_2<(l0.length:Int))=false:=decide_eq_false c12
       clear c12
       simp only[Option.some.injEq,Prod.mk.injEq]at H
       obtain⟨rfl,rfl⟩:=H
       go_wp2
       go_ret2
       exact⟨_,a9_,(a18_ HO_6.out),a0_⟩

/-! ### spec_ckIs: function 67 -/
def spec_ckIs.f (a0:Int):Option (Bool):=(spec_l1In.f a0 0 1000002).bind fun t504=>(some t504)
set_option maxHeartbeats 8000000 in
set_option maxRecDepth 100000 in
theorem spec_ckIs.calls (a0:Int) (r:Bool) (w:World) (h:spec_ckIs.f a0=some r) :
 Calls Try.prog 67 #[.int .i64 a0] w fun e w'=>e = .returned (.bool r)∧Drawn0 w w':=by
 have H:((spec_l1In.f a0 0 1000002).bind fun t504=>(some t504))=some r:=h
 clear h
 obtain⟨t504,A2,H⟩:=bo_ H
 try dsimp only at H
 obtain rfl:=Option.some.inj H
 go_enter Try.func67,Try.ntmps67
 go_wp2_with (first|((with_reducible refine gate_callee (f:=61) rfl ?_);refine goesL_ (some 4) rfl rfl Try.func61 (by kernel_rfl) rfl #[.int .i64 a0, .int .i64 0, .int .i64 1000002] rfl gd_ ?_;(with_reducible refine(spec_l1In.calls a0 0 1000002 t504 _ A2.out).mono ?_);rintro e w' ⟨rfl,⟨nd,rfl⟩⟩;refine⟨_,rfl,?_⟩))
 go_ret
 exact⟨by first | rfl|(simp;done)|(simp[*];done),a29_⟩

/-! ### spec_SingleChanges: function 18 -/
mutual
def spec_SingleChanges.j0:Nat→List (S42)→Int→Bool→Option ((List (List (S42)))×Bool)
 | 0,_,_,_=>none
 | k+1,x0,x1,x17=>if x17=true then(some (([]:List (List (S42))),false)) else(spec_SingleChanges.l0 k x0 x1 ([]:List (List (S42))) (x0.length:Int) 0)
def spec_SingleChanges.l0:Nat→List (S42)→Int→List (List (S42))→Int→Int→Option ((List (List (S42)))×Bool)
 | 0,_,_,_,_,_=>none
 | k+1,x0,x1,x6,x19,x20=>if x20<x19 then(spec_SingleChanges.l1 k x0 x1 x6 x20 (-3) x19 x20) else(some (x6,true))
def spec_SingleChanges.l1:Nat→List (S42)→Int→List (List (S42))→Int→Int→Int→Int→Option ((List (List (S42)))×Bool)
 | 0,_,_,_,_,_,_,_=>none
 | k+1,x0,x1,x6,x7,x8,x19,x20=>if x8≤3 then((some (([]:List (S42)):List (S42))).bind fun y507=>(if y507.length+x0.length<5864062014805 then((some (y507 ++ x0:List (S42))).bind fun y510=>(if 0≤x7 then(if x7<(y510.length:Int) then((some (y510.set (x7:Int).toNat (⟨(rd_T42 y510 x7).f0,(rd_T42 y510 x7).f1,wrap64 (((rd_T42 y510 x7).f2)+x8)⟩:S42):List (S42))).bind fun y514=>(if x8=0 then(spec_SingleChanges.l1 k x0 x1 x6 x7 (wrap64 (x8+1)) x19 x20) else((spec_shGood.f k y514).bind fun t515=>(if t515=true then((spec_ckSum.f k y514).bind fun t516=>(if t516=x1 then(if x6.length<5864062014805 then(spec_SingleChanges.l1 k x0 x1 (x6 ++ [y514]) x7 (wrap64 (x8+1)) x19 x20) else(none)) else(spec_SingleChanges.l1 k x0 x1 x6 x7 (wrap64 (x8+1)) x19 x20))) else(spec_SingleChanges.l1 k x0 x1 x6 x7 (wrap64 (x8+1)) x19 x20))))) else(none)) else(none))) else(none))) else(spec_SingleChanges.l0 k x0 x1 x6 x19 (wrap64 (x20+1)))
end
def spec_SingleChanges.f (k:Nat) (l0:List (S42)) (a1:Int):Option ((List (List (S42)))×Bool):=(spec_shGood.f k l0).bind fun t505=>(if t505=true then((spec_ckIs.f a1).bind fun t506=>(spec_SingleChanges.j0 k l0 a1 (!t506))) else(spec_SingleChanges.j0 k l0 a1 true))
theorem spec_SingleChanges.mono_l:∀k,(∀y0 y1 y2,LeO (spec_SingleChanges.j0 k y0 y1 y2) (spec_SingleChanges.j0 (k+1) y0 y1 y2))∧(∀y0 y1 y2 y3 y4,LeO (spec_SingleChanges.l0 k y0 y1 y2 y3 y4) (spec_SingleChanges.l0 (k+1) y0 y1 y2 y3 y4))∧(∀y0 y1 y2 y3 y4 y5 y6,LeO (spec_SingleChanges.l1 k y0 y1 y2 y3 y4 y5 y6) (spec_SingleChanges.l1 (k+1) y0 y1 y2 y3 y4 y5 y6))
 | 0=>⟨fun _ _ _ r h=>by simp[spec_SingleChanges.j0]at h,fun _ _ _ _ _ r h=>by simp[spec_SingleChanges.l0]at h,fun _ _ _ _ _ _ _ r h=>by simp[spec_SingleChanges.l1]at h⟩
 | k+1=>by
  obtain⟨ih0,ih1,ih2⟩:=spec_SingleChanges.mono_l k
  refine⟨?_,?_,?_⟩
  intros
  unfold spec_SingleChanges.j0
  rotate_left
  intros
  unfold spec_SingleChanges.l0
  rotate_left
  intros
  unfold spec_SingleChanges.l1
  rotate_left
  all_goals repeat' first|(with_reducible first|exact ih0 _ _ _|exact ih1 _ _ _ _ _|exact ih2 _ _ _ _ _ _ _|exact spec_ckSum.mono _ _|exact spec_shGood.mono _ _|exact LeO.refl _|exact LeO.none _|refine LeO.ite ?_ ?_|refine LeO.bind ?_ (fun _=>?_))|exact ih0 _ _ _|exact ih1 _ _ _ _ _|exact ih2 _ _ _ _ _ _ _|exact spec_ckSum.mono _ _|exact spec_shGood.mono _ _|exact LeO.none _|refine LeO.ite ?_ ?_|refine LeO.bind ?_ (fun _=>?_)
theorem spec_SingleChanges.mono:∀a0 a1 k,LeO (spec_SingleChanges.f k a0 a1) (spec_SingleChanges.f (k+1) a0 a1):=by
 intro a0 a1 k
 obtain⟨ih0,ih1,ih2⟩:=spec_SingleChanges.mono_l k
 unfold spec_SingleChanges.f
 repeat' first
  |(with_reducible exact ih0 _ _ _)
  |(with_reducible exact ih1 _ _ _ _ _)
  |(with_reducible exact ih2 _ _ _ _ _ _ _)
  |(with_reducible exact spec_ckSum.mono _ _)
  |(with_reducible exact spec_shGood.mono _ _)
  |(with_reducible exact LeO.refl _)
  |(with_reducible exact LeO.none _)
  |(with_reducible refine LeO.ite ?_ ?_)
  |(with_reducible refine LeO.bind ?_ (fun _=>?_))
  |exact ih0 _ _ _
  |exact ih1 _ _ _ _ _
  |exact ih2 _ _ _ _ _ _ _
  |exact spec_ckSum.mono _ _
  |exact spec_shGood.mono _ _
  |exact LeO.none _
   | refine LeO.ite ?_ ?_
   | refine LeO.bind ?_ (fun _=>?_)
set_option maxHeartbeats 8000000 in
set_option maxRecDepth 100000 in
theorem spec_SingleChanges.calls (k:Nat) (A0:Option Addr) (c0:Nat) (l0:List (S42)) (a1:Int) (r1:List (List (S42))) (r2:Bool) (w:World) (hr0:Kd.C k42 w A0 l0.length l0) (hc0:l0.length≤c0) (h:spec_SingleChanges.f k l0 a1=some (r1,r2)) :
 Calls Try.prog 18 #[.slice A0 l0.length c0, .int .i64 a1] w fun e w'=>∃v0_:Value,e = .returned (.tuple #[v0_, .bool r2])∧Kd.S (Kd.slice 42 k42) 32 w' w.heap.size (fun _=>True) v0_ r1∧Below w.heap.size w w':=by
 have HR0:=am_ hr0
 have HC0:=am_ hc0
 clear hr0 hc0
 have HB:=am_ (Below.refl w.heap.size w)
 have H:((spec_shGood.f k l0).bind fun t505=>(if t505=true then((spec_ckIs.f a1).bind fun t506=>(spec_SingleChanges.j0 k l0 a1 (!t506))) else(spec_SingleChanges.j0 k l0 a1 true)))=some (r1,r2):=h
 clear h
 have HC3:=am_ H
 clear H
 go_enter Try.func18,Try.ntmps18
 go_upto_region 1 with (fail)
 go_cut [17] (fun v17 wc=>∃(kq:Nat) (x17_2:Bool),v17 = .bool x17_2∧Aside0 (spec_SingleChanges.j0 kq l0 a1 x17_2=some (r1,r2))∧Aside0 (kq≤k)∧Aside0 (Below w.heap.size w wc))
 case first=>
  have H:=HC3.out
  clear HC3
  obtain⟨t505,A4,H⟩:=bo_ H
  try dsimp only at H
  by_cases c5:t505=true
  ·subst c5
   replace H:((spec_ckIs.f a1).bind fun t506=>(spec_SingleChanges.j0 k l0 a1 (!t506)))=some (r1,r2):=by rw[if_pos rfl]at H;exact H
   obtain⟨t506,A6,H⟩:=bo_ H
   try dsimp only at H
   have H':=am_ H
   clear H
   go_wp2_with (first|((with_reducible refine gate_callee (f:=62) rfl ?_);refine goesL_ (some 11) rfl rfl Try.func62 (by kernel_rfl) rfl #[.slice A0 l0.length c0] rfl gd_ ?_;(with_reducible refine(spec_shGood.calls k _ _ l0 true _ ?side1 ?side2 A4.out).mono ?_);(case side1=>exact(a13_ HR0.out));(case side2=>exact HC0.out);rintro e w7 ⟨rfl,hb⟩;refine⟨_,rfl,?_⟩;replace HB:=am_ (below_step (a0_) hb);(try clear hb);(try clear hb2);(try clear hk);(try clear hi))|(go_at_call 67;(with_reducible refine(spec_ckIs.calls a1 t506 _ A6.out).mono ?_);rintro e w' ⟨rfl,⟨nd,rfl⟩⟩))
   go_meet
   case rel=>exact⟨_,(!t506),(by first | rfl|(simp;done)|(simp[*];done)),H',⟨by first | omega|exact Nat.le_refl _⟩,⟨a0_⟩⟩
  ·replace c5:=Bool.eq_false_iff.mpr c5
   subst c5
   replace H:(spec_SingleChanges.j0 k l0 a1 true)=some (r1,r2):=by rw[if_neg (show ¬(false=true) by decide)]at H;exact H
   have H':=am_ H
   clear H
   go_wp2_with (first|((with_reducible refine gate_callee (f:=62) rfl ?_);refine goesL_ (some 11) rfl rfl Try.func62 (by kernel_rfl) rfl #[.slice A0 l0.length c0] rfl gd_ ?_;(with_reducible refine(spec_shGood.calls k _ _ l0 false _ ?side1 ?side2 A4.out).mono ?_);(case side1=>exact(a13_ HR0.out));(case side2=>exact HC0.out);rintro e w8 ⟨rfl,hb⟩;refine⟨_,rfl,?_⟩;replace HB:=am_ (below_step (a0_) hb);(try clear hb);(try clear hb2);(try clear hk);(try clear hi)))
   go_meet
   case rel=>exact⟨_,(true),(by first | rfl|(simp;done)|(simp[*];done)),H',⟨by first | omega|exact Nat.le_refl _⟩,⟨a0_⟩⟩
 case rest=>
  clear HC3
  try clear c1
  try clear p2
  try clear c5
  try clear c6
  obtain⟨kq,x17_2,rfl,HA,HJ2,HB⟩:=hcut
  cases kq with
  | zero=>exact absurd HA.out (by simp[spec_SingleChanges.j0])
  | succ kj2=>
   have H:=HA.out
   clear HA
   simp only[spec_SingleChanges.j0]at H
   by_cases c9:x17_2=true
   ·subst c9
    replace H:(some (([]:List (List (S42))),false))=some (r1,r2):=by rw[if_pos rfl]at H;exact H
    simp only[Option.some.injEq,Prod.mk.injEq]at H
    obtain⟨rfl,rfl⟩:=H
    go_wp2
    go_ret2
    exact⟨_,a9_,a47_,a0_⟩
   ·replace c9:=Bool.eq_false_iff.mpr c9
    subst c9
    replace H:(spec_SingleChanges.l0 kj2 l0 a1 ([]:List (List (S42))) (l0.length:Int) 0)=some (r1,r2):=by rw[if_neg (show ¬(false=true) by decide)]at H;exact H
    have H':=am_ H
    clear H
    go_wp2
    (try simp only[Act.put,List.setIfInBounds_toArray,List.set_cons_zero,List.set_cons_succ])
    go_loopg [6,20] kj2 (fun kq v6 v20 w'=>∃(x6_2:List (List (S42))) (x20_2:Int),v20 = .int .i64 x20_2∧Aside0 (spec_SingleChanges.l0 kq l0 a1 x6_2 (l0.length:Int) x20_2=some (r1,r2))∧Aside0 (kq≤kj2)∧Aside0 (Kd.S (Kd.slice 42 k42) 32 w' w.heap.size (fun _=>True) v6 x6_2)∧Aside0 (Below w.heap.size w w'))
    case atStart=>exact⟨(([]:List (List (S42)))),(0),(by first | rfl|(simp;done)|(simp[*];done)),H',⟨Nat.le_refl _⟩,⟨a47_⟩,⟨a0_⟩⟩
    case round=>
     clear H'
     try clear c1
     try clear p2
     try clear c5
     try clear c6
     try clear c9
     try clear p2
     obtain⟨x6_2,x20_2,rfl,HA,HK2,HO_6,HB⟩:=hrel
     cases gk with
     | zero=>exact absurd HA.out (by simp[spec_SingleChanges.l0])
     | succ k2=>
      have H:=HA.out
      clear HA
      simp only[spec_SingleChanges.l0]at H
      by_cases c10:x20_2<(l0.length:Int)
      ·rw[if_pos c10]at H
       have c10b0:decide (x20_2<(l0.length:Int))=true:=decide_eq_true c10
       clear c10
       have H':=am_ H
       clear H
       go_wp2
       (try simp only[Act.put,List.setIfInBounds_toArray,List.set_cons_zero,List.set_cons_succ])
       go_loopg [6,8] k2 (fun kq v6 v8 w'=>∃(x6_3:List (List (S42))) (x8_3:Int),v8 = .int .i64 x8_3∧Aside0 (spec_SingleChanges.l1 kq l0 a1 x6_3 x20_2 x8_3 (l0.length:Int) x20_2=some (r1,r2))∧Aside0 (kq≤k2)∧Aside0 (Kd.S (Kd.slice 42 k42) 32 w' w.heap.size (fun _=>True) v6 x6_3)∧Aside0 (Below w.heap.size w w'))
       case atStart=>exact⟨(x6_2),((-3)),(by first | rfl|(simp;done)|(simp[*];done)),H',⟨Nat.le_refl _⟩,⟨(a18_ HO_6.out)⟩,⟨a0_⟩⟩
       case round=>
        clear H'
        try clear c1
        try clear p2
        try clear c5
        try clear c6
        try clear c9
        try clear c10
        try clear c10b0
        try clear p2
        obtain⟨x6_3,x8_3,rfl,HA,HK3,HO_6,HB⟩:=hrel
        cases gk with
        | zero=>exact absurd HA.out (by simp[spec_SingleChanges.l1])
        | succ k3=>
         have H:=HA.out
         clear HA
         simp only[spec_SingleChanges.l1]at H
         by_cases c11:x8_3≤3
         ·rw[if_pos c11]at H
          have c11b0:decide (x8_3≤3)=true:=decide_eq_true c11
          clear c11
          obtain⟨y507,hy507⟩:∃y_:List (S42),y_=(([]:List (S42))):=⟨_,rfl⟩
          replace H:(if y507.length+l0.length<5864062014805 then((some (y507 ++ l0:List (S42))).bind fun y510=>(if 0≤x20_2 then(if x20_2<(y510.length:Int) then((some (y510.set (x20_2:Int).toNat (⟨(rd_T42 y510 x20_2).f0,(rd_T42 y510 x20_2).f1,wrap64 (((rd_T42 y510 x20_2).f2)+x8_3)⟩:S42):List (S42))).bind fun y514=>(if x8_3=0 then(spec_SingleChanges.l1 k3 l0 a1 x6_3 x20_2 (wrap64 (x8_3+1)) (l0.length:Int) x20_2) else((spec_shGood.f k3 y514).bind fun t515=>(if t515=true then((spec_ckSum.f k3 y514).bind fun t516=>(if t516=a1 then(if x6_3.length<5864062014805 then(spec_SingleChanges.l1 k3 l0 a1 (x6_3 ++ [y514]) x20_2 (wrap64 (x8_3+1)) (l0.length:Int) x20_2) else(none)) else(spec_SingleChanges.l1 k3 l0 a1 x6_3 x20_2 (wrap64 (x8_3+1)) (l0.length:Int) x20_2))) else(spec_SingleChanges.l1 k3 l0 a1 x6_3 x20_2 (wrap64 (x8_3+1)) (l0.length:Int) x20_2))))) else(none)) else(none))) else(none))=some (r1,r2):=by first|(rw[hy507];with_reducible exact H)|(have H2_:=(Option.bind_some _ _).symm.trans H;rw[hy507];with_reducible exact H2_)|(have H2_:=(Option.bind_some _ _).symm.trans H;with_reducible exact H2_) | with_reducible exact H|(rw[hy507];exact H)|exact H
          have Ny507:=am_ hy507
          clear hy507
          by_cases c12:y507.length+l0.length<5864062014805
          ·rw[if_pos c12]at H
           have LMc12:=am_ c12
           clear c12
           obtain⟨y510,hy510⟩:∃y_:List (S42),y_=(y507 ++ l0):=⟨_,rfl⟩
           replace H:(if 0≤x20_2 then(if x20_2<(y510.length:Int) then((some (y510.set (x20_2:Int).toNat (⟨(rd_T42 y510 x20_2).f0,(rd_T42 y510 x20_2).f1,wrap64 (((rd_T42 y510 x20_2).f2)+x8_3)⟩:S42):List (S42))).bind fun y514=>(if x8_3=0 then(spec_SingleChanges.l1 k3 l0 a1 x6_3 x20_2 (wrap64 (x8_3+1)) (l0.length:Int) x20_2) else((spec_shGood.f k3 y514).bind fun t515=>(if t515=true then((spec_ckSum.f k3 y514).bind fun t516=>(if t516=a1 then(if x6_3.length<5864062014805 then(spec_SingleChanges.l1 k3 l0 a1 (x6_3 ++ [y514]) x20_2 (wrap64 (x8_3+1)) (l0.length:Int) x20_2) else(none)) else(spec_SingleChanges.l1 k3 l0 a1 x6_3 x20_2 (wrap64 (x8_3+1)) (l0.length:Int) x20_2))) else(spec_SingleChanges.l1 k3 l0 a1 x6_3 x20_2 (wrap64 (x8_3+1)) (l0.length:Int) x20_2))))) else(none)) else(none))=some (r1,r2):=by first|(rw[hy510];with_reducible exact H)|(have H2_:=(Option.bind_some _ _).symm.trans H;rw[hy510];with_reducible exact H2_)|(have H2_:=(Option.bind_some _ _).symm.trans H;with_reducible exact H2_) | with_reducible exact H|(rw[hy510];exact H)|exact H
           have Ny510:=am_ hy510
           clear hy510
           by_cases c13:0≤x20_2
           ·rw[if_pos c13]at H
            have c13b0:decide (0≤x20_2)=true:=decide_eq_true c13
            clear c13
            by_cases c14:x20_2<(y510.length:Int)
            ·rw[if_pos c14]at H
             have c14b0:decide (x20_2<(y510.length:Int))=true:=decide_eq_true c14
             clear c14
             obtain⟨y514,hy514⟩:∃y_:List (S42),y_=(y510.set (x20_2:Int).toNat (⟨(rd_T42 y510 x20_2).f0,(rd_T42 y510 x20_2).f1,wrap64 (((rd_T42 y510 x20_2).f2)+x8_3)⟩:S42)):=⟨_,rfl⟩
             replace H:(if x8_3=0 then(spec_SingleChanges.l1 k3 l0 a1 x6_3 x20_2 (wrap64 (x8_3+1)) (l0.length:Int) x20_2) else((spec_shGood.f k3 y514).bind fun t515=>(if t515=true then((spec_ckSum.f k3 y514).bind fun t516=>(if t516=a1 then(if x6_3.length<5864062014805 then(spec_SingleChanges.l1 k3 l0 a1 (x6_3 ++ [y514]) x20_2 (wrap64 (x8_3+1)) (l0.length:Int) x20_2) else(none)) else(spec_SingleChanges.l1 k3 l0 a1 x6_3 x20_2 (wrap64 (x8_3+1)) (l0.length:Int) x20_2))) else(spec_SingleChanges.l1 k3 l0 a1 x6_3 x20_2 (wrap64 (x8_3+1)) (l0.length:Int) x20_2))))=some (r1,r2):=by first|(rw[hy514];with_reducible exact H)|(have H2_:=(Option.bind_some _ _).symm.trans H;rw[hy514];with_reducible exact H2_)|(have H2_:=(Option.bind_some _ _).symm.trans H;with_reducible exact H2_) | with_reducible exact H|(rw[hy514];exact H)|exact H
             have Ny514:=am_ hy514
             clear hy514
             by_cases c16:x8_3=0
             ·rw[if_pos c16]at H
              have c16b0:(x8_3 == 0)=true:=beq_iff_eq.mpr c16
              have c16b1:(x8_3 != 0)=false:=bne_eq_false_iff_eq.mpr c16
              clear c16
              have H':=am_ H
              clear H
              go_wp2_with (first|((with_reducible refine gate_dst (N:=27) rfl ?_);refine Kd.R_lit k42 _ 42 ?hg (N:=27) ?hd (xs:=([]:List (S42))) (inner:=[]) (ok:=fun _=>True) (okp:=fun _=>True) ?hr ?hp (fun _ hk=>hk) trivial (Below.refl _ _) (Nat.le_refl _) (by simp) ?_;(case hd=>rfl);(case hg=>rfl);(case hr=>exact hr_);(case hp=>exact(Reps.none _ _));intro v508 w17 ho18 hb hg_ hnew_;clear hg_ hnew_;(first|rw[← Ny507.out]at ho18|(simp only[Int.reduceToNat]at ho18;rw[← Ny507.out]at ho18));replace HO_6:=am_ (Kd.S_elder' ((a18_ HO_6.out)) (Kd.R_base ho18) hb);have HO509:=am_ (Kd.R_lower ho18 (below_size (a0_)));replace HB:=am_ (below_step (a0_) hb);clear hb ho18)|((with_reducible refine gate_builtin (b:= .append) (xs:= #[.tmp 27, .tmp 28]) rfl ?_);at_builtin;refine Kd.R_append_rows k42 (w0:=w) w.heap.size rfl (.tmp 27) (.tmp 28) 32 42 (.agg #[(.int .i64 0),(.int .i64 0),(.int .i64 0)]) 24 rfl Try.underlying32 info42 rfl (by decide) (by omega) v508 y507 l0 _ _ _ (fun _=>True) (fun _=>False) rfl rfl ?aO ?aR (fun _ _ h=>h) (fun _ h=>h.elim) ?aF ?aB ?aS ?aL ?_;(case aR=>exact(a13_ HR0.out));(case aB=>exact(a0_));(case aF=>exact(fun _ _=>trivial));(case aO=>exact((a1_ HO509.out)));(case aS=>exact(below_size (a0_)));(case aL=>have:=LMc12.out;omega);intro v511 w19 ho hb hg hat;rw[← Ny510.out]at ho;have n0_:=am_ (Kd.S_after (ok:=(fun _=>True)) ((a18_ HO_6.out)) hg hat);have n1_:=am_ (hb);have n2_:=am_ (ho);clear HO_6 HB HO509;have HO_6:=n0_;have HB:=n1_;have HO512:=n2_;clear n0_ n1_ n2_ ho hb hg hat;obtain⟨Ao20,co20,eo20⟩:=Kd.R_slice HO512.out;subst eo20;have p513:0≤(x20_2:Int):=of_decide_eq_true (a8_);have q513:x20_2<(y510.length:Int):=of_decide_eq_true (a8_);obtain⟨ad513,e513,hx513_0,hx513_1,hx513_2⟩:=at_T42 (Kd.R_reads' HO512.out).2.2 x20_2 p513 q513;cases e513;replace p513:=eq_true p513;replace q513:=eq_true q513;have p15:0≤(x20_2:Int):=of_decide_eq_true (a8_);have q15:(x20_2:Int)<((y510.length:Int):Int):=of_decide_eq_true (a8_);obtain⟨go15,co15,eo15,gb15,gl15,cl15,HG15⟩:=Kd.R_form HO512.out (by omega);(first|cases eo15|(injection eo15 with ea_ en_ ec_;(first|subst ea_|(injection ea_ with ea_;subst ea_));subst ec_;clear en_));have GB15:=am_ gb15;have GG15:=am_ HG15;clear gb15 gl15 HG15;(first|simp only[add_plain]at hx513_0 | skip);(first|simp only[add_plain]at hx513_1 | skip);(first|simp only[add_plain]at hx513_2 | skip);obtain⟨ce15,hcl15,hM15,hcc15,hfr15⟩:=Kd.R_elem HO512.out z42 (x20_2:Int) p15 q15;obtain rfl:=k42_openM hM15;have hx15_0:w19.cell? ⟨go15,(x20_2:Int).toNat*3,none⟩=some (.int .i64 ((rd_T42 y510 x20_2).f0)):=hcc15 0 _ rfl;have hx15_1:w19.cell? ⟨go15,(x20_2:Int).toNat*3+1,none⟩=some (.int .i64 ((rd_T42 y510 x20_2).f1)):=hcc15 1 _ rfl;have hx15_2:w19.cell? ⟨go15,(x20_2:Int).toNat*3+2,none⟩=some (.int .i64 ((rd_T42 y510 x20_2).f2)):=hcc15 2 _ rfl;have hf15_0:w19.frozen? ⟨go15,(x20_2:Int).toNat*3,none⟩=false:=hfr15 0;have hf15_1:w19.frozen? ⟨go15,(x20_2:Int).toNat*3+1,none⟩=false:=hfr15 1;have hf15_2:w19.frozen? ⟨go15,(x20_2:Int).toNat*3+2,none⟩=false:=hfr15 2;clear hcl15 hcc15 hfr15;(try clear hM15);replace p15:=eq_true p15;replace q15:=eq_true q15;have HX21:=am_ (show Kd.R k42 42 w19 w.heap.size (fun _=>True) (.slice (some ⟨go15,0,none⟩) y510.length co20) y510 from((a1_ HO512.out)));obtain⟨ce21,hcl21,hM21,hcc21,hfr21⟩:=Kd.R_elem HX21.out z42 (x20_2:Int) (of_decide_eq_true (a8_)) (by have h_:(x20_2:Int)<((y510.length:Int):Int):=of_decide_eq_true (a8_);first|exact h_|(have e_:=(Kd.R_reads' HO512.out).1;omega) | simpa using h_);obtain rfl:=k42_openM hM21;have HP21:=Kd.R_seg HX21.out (x20_2:Int) (of_decide_eq_true (a8_)) (by have h_:(x20_2:Int)<((y510.length:Int):Int):=of_decide_eq_true (a8_);first|exact h_|(have e_:=(Kd.R_reads' HO512.out).1;omega) | simpa using h_) (seg:=[.int .i64 (wrap64 (((rd_T42 y510 x20_2).f2)+x8_3))]) (j:=2) hcl21 hcc21 (show 3≤3 from by decide) (x':=(⟨(rd_T42 y510 x20_2).f0,(rd_T42 y510 x20_2).f1,wrap64 (((rd_T42 y510 x20_2).f2)+x8_3)⟩:S42)) (k42_mkM _ _ _ (⟨(rd_T42 y510 x20_2).f0,(rd_T42 y510 x20_2).f1,wrap64 (((rd_T42 y510 x20_2).f2)+x8_3)⟩:S42) ) (fun _ hk=>hk);have hx21_2:=hcc21 2 _ rfl;(try simp only[show(k42).sz=3 from rfl,Nat.mul_one,Nat.add_zero]at hx21_2);have hf21_2:=hfr21 2;(try simp only[show(k42).sz=3 from rfl,Nat.mul_one,Nat.add_zero]at hf21_2);clear hcl21 hcc21 hfr21;(try clear hM21))|((with_reducible refine gate_store (t:=3) (p:=38) rfl ?_);refine store_event (t:=3) (p:=38) (v:=?vo_w22) (w1:=(w19.setCell ⟨go15,(x20_2:Int).toNat*3+2,none⟩ (.int .i64 (wrap64 (((rd_T42 y510 x20_2).f2)+x8_3))))) ?hg ?ho ?hn ?hr ?_;(case ho=>rfl);(case hg=>rfl);(case hn=>rfl);(case hr=>exact hr_);intro w22 hw;have hg:w19.grownBy w22 (some go15):=(by rw[hw];exact HP21.2);have hp_:Kd.R k42 42 w22 w.heap.size (fun _=>True) (.slice (some ⟨go15,0,none⟩) y510.length co20) y514:=(by rw[hw,Ny514.out];exact HP21.1);clear HP21;replace HO_6:=am_ (Kd.S_after (v:=(.slice (some ⟨go15,0,none⟩) y510.length co20)) (v1:=(.slice (some ⟨go15,0,none⟩) y510.length co20)) (ok:=(fun _=>True)) ((a18_ HO_6.out)) hg (.inl rfl));replace HO512:=am_ (hp_);replace HB:=am_ ((by rw[hw];exact below_set (HB.out) GB15.out:Below w.heap.size w w22));clear hg hw hp_))
              go_roundg k3
              case measure=>have:=HJ2.out;have:=HK2.out;have:=HK3.out;omega
              case rel=>exact⟨(x6_3),(wrap64 (x8_3+1)),(by first | rfl|(simp;done)|(simp[*];done)),H',⟨by have:=HJ2.out;have:=HK2.out;have:=HK3.out;omega⟩,⟨(a40_ HO_6.out)⟩,⟨a0_⟩⟩
             ·rw[if_neg c16]at H
              have c16b0:(x8_3 == 0)=false:=beq_eq_false_iff_ne.mpr c16
              have c16b1:(x8_3 != 0)=true:=bne_iff_ne.mpr c16
              obtain⟨t515,A23,H⟩:=bo_ H
              try dsimp only at H
              by_cases c24:t515=true
              ·subst c24
               replace H:((spec_ckSum.f k3 y514).bind fun t516=>(if t516=a1 then(if x6_3.length<5864062014805 then(spec_SingleChanges.l1 k3 l0 a1 (x6_3 ++ [y514]) x20_2 (wrap64 (x8_3+1)) (l0.length:Int) x20_2) else(none)) else(spec_SingleChanges.l1 k3 l0 a1 x6_3 x20_2 (wrap64 (x8_3+1)) (l0.length:Int) x20_2)))=some (r1,r2):=by rw[if_pos rfl]at H;exact H
               obtain⟨t516,A25,H⟩:=bo_ H
               try dsimp only at H
               by_cases c26:t516=a1
               ·rw[if_pos c26]at H
                have c26b0:(t516 == a1)=true:=beq_iff_eq.mpr c26
                have c26b1:(t516 != a1)=false:=bne_eq_false_iff_eq.mpr c26
                clear c26
                by_cases c27:x6_3.length<5864062014805
                ·rw[if_pos c27]at H
                 have LMc27:=am_ c27
                 clear c27
                 obtain⟨y517,hy517⟩:∃y_:List (List (S42)),y_=(x6_3 ++ [y514]):=⟨_,rfl⟩
                 replace H:(spec_SingleChanges.l1 k3 l0 a1 y517 x20_2 (wrap64 (x8_3+1)) (l0.length:Int) x20_2)=some (r1,r2):=by first|(rw[hy517];with_reducible exact H)|(have H2_:=(Option.bind_some _ _).symm.trans H;rw[hy517];with_reducible exact H2_)|(have H2_:=(Option.bind_some _ _).symm.trans H;with_reducible exact H2_) | with_reducible exact H|(rw[hy517];exact H)|exact H
                 have Ny517:=am_ hy517
                 clear hy517
                 have H':=am_ H
                 clear H
                 go_wp2_with (first|((with_reducible refine gate_dst (N:=27) rfl ?_);refine Kd.R_lit k42 _ 42 ?hg (N:=27) ?hd (xs:=([]:List (S42))) (inner:=[]) (ok:=fun _=>True) (okp:=fun _=>True) ?hr ?hp (fun _ hk=>hk) trivial (Below.refl _ _) (Nat.le_refl _) (by simp) ?_;(case hd=>rfl);(case hg=>rfl);(case hr=>exact hr_);(case hp=>exact(Reps.none _ _));intro v508 w28 ho29 hb hg_ hnew_;clear hg_ hnew_;(first|rw[← Ny507.out]at ho29|(simp only[Int.reduceToNat]at ho29;rw[← Ny507.out]at ho29));replace HO_6:=am_ (Kd.S_elder' ((a18_ HO_6.out)) (Kd.R_base ho29) hb);have HO509:=am_ (Kd.R_lower ho29 (below_size (a0_)));replace HB:=am_ (below_step (a0_) hb);clear hb ho29)|((with_reducible refine gate_builtin (b:= .append) (xs:= #[.tmp 27, .tmp 28]) rfl ?_);at_builtin;refine Kd.R_append_rows k42 (w0:=w) w.heap.size rfl (.tmp 27) (.tmp 28) 32 42 (.agg #[(.int .i64 0),(.int .i64 0),(.int .i64 0)]) 24 rfl Try.underlying32 info42 rfl (by decide) (by omega) v508 y507 l0 _ _ _ (fun _=>True) (fun _=>False) rfl rfl ?aO ?aR (fun _ _ h=>h) (fun _ h=>h.elim) ?aF ?aB ?aS ?aL ?_;(case aR=>exact(a13_ HR0.out));(case aB=>exact(a0_));(case aF=>exact(fun _ _=>trivial));(case aO=>exact((a1_ HO509.out)));(case aS=>exact(below_size (a0_)));(case aL=>have:=LMc12.out;omega);intro v511 w30 ho hb hg hat;rw[← Ny510.out]at ho;have n0_:=am_ (Kd.S_after (ok:=(fun _=>True)) ((a18_ HO_6.out)) hg hat);have n1_:=am_ (hb);have n2_:=am_ (ho);clear HO_6 HB HO509;have HO_6:=n0_;have HB:=n1_;have HO512:=n2_;clear n0_ n1_ n2_ ho hb hg hat;obtain⟨Ao31,co31,eo31⟩:=Kd.R_slice HO512.out;subst eo31;have p513:0≤(x20_2:Int):=of_decide_eq_true (a8_);have q513:x20_2<(y510.length:Int):=of_decide_eq_true (a8_);obtain⟨ad513,e513,hx513_0,hx513_1,hx513_2⟩:=at_T42 (Kd.R_reads' HO512.out).2.2 x20_2 p513 q513;cases e513;replace p513:=eq_true p513;replace q513:=eq_true q513;have p15:0≤(x20_2:Int):=of_decide_eq_true (a8_);have q15:(x20_2:Int)<((y510.length:Int):Int):=of_decide_eq_true (a8_);obtain⟨go15,co15,eo15,gb15,gl15,cl15,HG15⟩:=Kd.R_form HO512.out (by omega);(first|cases eo15|(injection eo15 with ea_ en_ ec_;(first|subst ea_|(injection ea_ with ea_;subst ea_));subst ec_;clear en_));have GB15:=am_ gb15;have GG15:=am_ HG15;clear gb15 gl15 HG15;(first|simp only[add_plain]at hx513_0 | skip);(first|simp only[add_plain]at hx513_1 | skip);(first|simp only[add_plain]at hx513_2 | skip);obtain⟨ce15,hcl15,hM15,hcc15,hfr15⟩:=Kd.R_elem HO512.out z42 (x20_2:Int) p15 q15;obtain rfl:=k42_openM hM15;have hx15_0:w30.cell? ⟨go15,(x20_2:Int).toNat*3,none⟩=some (.int .i64 ((rd_T42 y510 x20_2).f0)):=hcc15 0 _ rfl;have hx15_1:w30.cell? ⟨go15,(x20_2:Int).toNat*3+1,none⟩=some (.int .i64 ((rd_T42 y510 x20_2).f1)):=hcc15 1 _ rfl;have hx15_2:w30.cell? ⟨go15,(x20_2:Int).toNat*3+2,none⟩=some (.int .i64 ((rd_T42 y510 x20_2).f2)):=hcc15 2 _ rfl;have hf15_0:w30.frozen? ⟨go15,(x20_2:Int).toNat*3,none⟩=false:=hfr15 0;have hf15_1:w30.frozen? ⟨go15,(x20_2:Int).toNat*3+1,none⟩=false:=hfr15 1;have hf15_2:w30.frozen? ⟨go15,(x20_2:Int).toNat*3+2,none⟩=false:=hfr15 2;clear hcl15 hcc15 hfr15;(try clear hM15);replace p15:=eq_true p15;replace q15:=eq_true q15;have HX32:=am_ (show Kd.R k42 42 w30 w.heap.size (fun _=>True) (.slice (some ⟨go15,0,none⟩) y510.length co31) y510 from((a1_ HO512.out)));obtain⟨ce32,hcl32,hM32,hcc32,hfr32⟩:=Kd.R_elem HX32.out z42 (x20_2:Int) (of_decide_eq_true (a8_)) (by have h_:(x20_2:Int)<((y510.length:Int):Int):=of_decide_eq_true (a8_);first|exact h_|(have e_:=(Kd.R_reads' HO512.out).1;omega) | simpa using h_);obtain rfl:=k42_openM hM32;have HP32:=Kd.R_seg HX32.out (x20_2:Int) (of_decide_eq_true (a8_)) (by have h_:(x20_2:Int)<((y510.length:Int):Int):=of_decide_eq_true (a8_);first|exact h_|(have e_:=(Kd.R_reads' HO512.out).1;omega) | simpa using h_) (seg:=[.int .i64 (wrap64 (((rd_T42 y510 x20_2).f2)+x8_3))]) (j:=2) hcl32 hcc32 (show 3≤3 from by decide) (x':=(⟨(rd_T42 y510 x20_2).f0,(rd_T42 y510 x20_2).f1,wrap64 (((rd_T42 y510 x20_2).f2)+x8_3)⟩:S42)) (k42_mkM _ _ _ (⟨(rd_T42 y510 x20_2).f0,(rd_T42 y510 x20_2).f1,wrap64 (((rd_T42 y510 x20_2).f2)+x8_3)⟩:S42) ) (fun _ hk=>hk);have hx32_2:=hcc32 2 _ rfl;(try simp only[show(k42).sz=3 from rfl,Nat.mul_one,Nat.add_zero]at hx32_2);have hf32_2:=hfr32 2;(try simp only[show(k42).sz=3 from rfl,Nat.mul_one,Nat.add_zero]at hf32_2);clear hcl32 hcc32 hfr32;(try clear hM32))|((with_reducible refine gate_store (t:=3) (p:=38) rfl ?_);refine store_event (t:=3) (p:=38) (v:=?vo_w33) (w1:=(w30.setCell ⟨go15,(x20_2:Int).toNat*3+2,none⟩ (.int .i64 (wrap64 (((rd_T42 y510 x20_2).f2)+x8_3))))) ?hg ?ho ?hn ?hr ?_;(case ho=>rfl);(case hg=>rfl);(case hn=>rfl);(case hr=>exact hr_);intro w33 hw;have hg:w30.grownBy w33 (some go15):=(by rw[hw];exact HP32.2);have hp_:Kd.R k42 42 w33 w.heap.size (fun _=>True) (.slice (some ⟨go15,0,none⟩) y510.length co31) y514:=(by rw[hw,Ny514.out];exact HP32.1);clear HP32;replace HO_6:=am_ (Kd.S_after (v:=(.slice (some ⟨go15,0,none⟩) y510.length co31)) (v1:=(.slice (some ⟨go15,0,none⟩) y510.length co31)) (ok:=(fun _=>True)) ((a18_ HO_6.out)) hg (.inl rfl));replace HO512:=am_ (hp_);replace HB:=am_ ((by rw[hw];exact below_set (HB.out) GB15.out:Below w.heap.size w w33));clear hg hw hp_)|(go_at_call 62;refine calls_of_args (args':= #[.slice (some ⟨go15,0,none⟩) y514.length co31]) ((a46_ HO512.out)) ?_;(with_reducible refine(spec_shGood.calls k3 _ _ y514 true _ ?side1 ?side2 A23.out).mono ?_);(case side1=>exact(a11_ HO512.out));(case side2=>rw[show y514.length=y510.length from(Kd.R_reads' HO512.out).1.symm];exact(Kd.R_reads' HO512.out).2.1);rintro e w34 ⟨rfl,hb⟩;replace HO_6:=am_ (Kd.S_below ((a18_ HO_6.out)) hb);replace HO512:=am_ (Kd.R_below ((a1_ HO512.out)) hb);replace HB:=am_ (below_step (a0_) hb);(try clear hb);(try clear hb2);(try clear hk);(try clear hi))|(go_at_call 63;refine calls_of_args (args':= #[.slice (some ⟨go15,0,none⟩) y514.length co31]) ((a46_ HO512.out)) ?_;(with_reducible refine(spec_ckSum.calls k3 _ _ y514 t516 _ ?side1 ?side2 A25.out).mono ?_);(case side1=>exact(a11_ HO512.out));(case side2=>rw[show y514.length=y510.length from(Kd.R_reads' HO512.out).1.symm];exact(Kd.R_reads' HO512.out).2.1);rintro e w35 ⟨rfl,hb⟩;replace HO_6:=am_ (Kd.S_below ((a18_ HO_6.out)) hb);replace HO512:=am_ (Kd.R_below ((a1_ HO512.out)) hb);replace HB:=am_ (below_step (a0_) hb);(try clear hb);(try clear hb2);(try clear hk);(try clear hi))|((with_reducible refine gate_builtin (b:= .append) (xs:= #[.tmp 51, .tmp 53]) rfl ?_);at_builtin;refine Kd.S_append (Kd.slice 42 k42) (w0:=w) w.heap.size rfl (.tmp 51) (.tmp 53) 24 32 (.slice none 0 0) 24 rfl Try.underlying24 info32 rfl (by decide) (by omega) u6 x6_3 y514 [.slice (some ⟨go15,0,none⟩) y510.length co31] (fun _=>True) (fun k_=>some k_=(.slice (some ⟨go15,0,none⟩) y510.length co31:Value).ownBlock) rfl rfl ?aP (fun k_ hk_=>((Kd.R_mono (ok':=fun k_=>((fun _=>True)) k_∧some k_≠(u6:Value).ownBlock) (Kd.R_apart' (HO512.out) (Kd.S_typed HO_6.out) (by decide)) (fun k_ hk=>⟨trivial,hk.2⟩))).1 k_ hk_.symm) ?aF ?aO ?aB ?aS ?aL ?_;(case aP=>exact Kd.M_row (Kd.R_mono (Kd.R_tight rfl (Kd.R_mono (ok':=fun k_=>((fun _=>True)) k_∧some k_≠(u6:Value).ownBlock) (Kd.R_apart' (HO512.out) (Kd.S_typed HO_6.out) (by decide)) (fun k_ hk=>⟨trivial,hk.2⟩))) (fun _ h_=>h_)));(case aB=>exact(a0_));(case aF=>exact(fun _ _=>trivial));(case aO=>exact(by(with_reducible repeat (first|apply Kd.S_alloc|apply Kd.S_drewN|apply Kd.S_drew));exact Kd.S_mono HO_6.out (fun k_ hk=>⟨trivial,fun e_=>hk.2 e_⟩)));(case aS=>exact(below_size (a0_)));(case aL=>have:=LMc27.out;omega);intro v518 w36 ho hb hg hat;rw[← Ny517.out]at ho;have n0_:=am_ (hb);have n1_:=am_ (ho);clear HB HO_6 HO512;have HB:=n0_;have HO519:=n1_;clear n0_ n1_ ho hb hg hat))
                 go_roundg k3
                 case measure=>have:=HJ2.out;have:=HK2.out;have:=HK3.out;omega
                 case rel=>exact⟨(y517),(wrap64 (x8_3+1)),(by first | rfl|(simp;done)|(simp[*];done)),H',⟨by have:=HJ2.out;have:=HK2.out;have:=HK3.out;omega⟩,⟨(a18_ HO519.out)⟩,⟨a0_⟩⟩
                ·rw[if_neg c27]at H
                 exact absurd H (by simp)
               ·rw[if_neg c26]at H
                have c26b0:(t516 == a1)=false:=beq_eq_false_iff_ne.mpr c26
                have c26b1:(t516 != a1)=true:=bne_iff_ne.mpr c26
                have H':=am_ H
                clear H
                go_wp2_with (first|((with_reducible refine gate_dst (N:=27) rfl ?_);refine Kd.R_lit k42 _ 42 ?hg (N:=27) ?hd (xs:=([]:List (S42))) (inner:=[]) (ok:=fun _=>True) (okp:=fun _=>True) ?hr ?hp (fun _ hk=>hk) trivial (Below.refl _ _) (Nat.le_refl _) (by simp) ?_;(case hd=>rfl);(case hg=>rfl);(case hr=>exact hr_);(case hp=>exact(Reps.none _ _));intro v508 w37 ho38 hb hg_ hnew_;clear hg_ hnew_;(first|rw[← Ny507.out]at ho38|(simp only[Int.reduceToNat]at ho38;rw[← Ny507.out]at ho38));replace HO_6:=am_ (Kd.S_elder' ((a18_ HO_6.out)) (Kd.R_base ho38) hb);have HO509:=am_ (Kd.R_lower ho38 (below_size (a0_)));replace HB:=am_ (below_step (a0_) hb);clear hb ho38)|((with_reducible refine gate_builtin (b:= .append) (xs:= #[.tmp 27, .tmp 28]) rfl ?_);at_builtin;refine Kd.R_append_rows k42 (w0:=w) w.heap.size rfl (.tmp 27) (.tmp 28) 32 42 (.agg #[(.int .i64 0),(.int .i64 0),(.int .i64 0)]) 24 rfl Try.underlying32 info42 rfl (by decide) (by omega) v508 y507 l0 _ _ _ (fun _=>True) (fun _=>False) rfl rfl ?aO ?aR (fun _ _ h=>h) (fun _ h=>h.elim) ?aF ?aB ?aS ?aL ?_;(case aR=>exact(a13_ HR0.out));(case aB=>exact(a0_));(case aF=>exact(fun _ _=>trivial));(case aO=>exact((a1_ HO509.out)));(case aS=>exact(below_size (a0_)));(case aL=>have:=LMc12.out;omega);intro v511 w39 ho hb hg hat;rw[← Ny510.out]at ho;have n0_:=am_ (Kd.S_after (ok:=(fun _=>True)) ((a18_ HO_6.out)) hg hat);have n1_:=am_ (hb);have n2_:=am_ (ho);clear HO_6 HB HO509;have HO_6:=n0_;have HB:=n1_;have HO512:=n2_;clear n0_ n1_ n2_ ho hb hg hat;obtain⟨Ao40,co40,eo40⟩:=Kd.R_slice HO512.out;subst eo40;have p513:0≤(x20_2:Int):=of_decide_eq_true (a8_);have q513:x20_2<(y510.length:Int):=of_decide_eq_true (a8_);obtain⟨ad513,e513,hx513_0,hx513_1,hx513_2⟩:=at_T42 (Kd.R_reads' HO512.out).2.2 x20_2 p513 q513;cases e513;replace p513:=eq_true p513;replace q513:=eq_true q513;have p15:0≤(x20_2:Int):=of_decide_eq_true (a8_);have q15:(x20_2:Int)<((y510.length:Int):Int):=of_decide_eq_true (a8_);obtain⟨go15,co15,eo15,gb15,gl15,cl15,HG15⟩:=Kd.R_form HO512.out (by omega);(first|cases eo15|(injection eo15 with ea_ en_ ec_;(first|subst ea_|(injection ea_ with ea_;subst ea_));subst ec_;clear en_));have GB15:=am_ gb15;have GG15:=am_ HG15;clear gb15 gl15 HG15;(first|simp only[add_plain]at hx513_0 | skip);(first|simp only[add_plain]at hx513_1 | skip);(first|simp only[add_plain]at hx513_2 | skip);obtain⟨ce15,hcl15,hM15,hcc15,hfr15⟩:=Kd.R_elem HO512.out z42 (x20_2:Int) p15 q15;obtain rfl:=k42_openM hM15;have hx15_0:w39.cell? ⟨go15,(x20_2:Int).toNat*3,none⟩=some (.int .i64 ((rd_T42 y510 x20_2).f0)):=hcc15 0 _ rfl;have hx15_1:w39.cell? ⟨go15,(x20_2:Int).toNat*3+1,none⟩=some (.int .i64 ((rd_T42 y510 x20_2).f1)):=hcc15 1 _ rfl;have hx15_2:w39.cell? ⟨go15,(x20_2:Int).toNat*3+2,none⟩=some (.int .i64 ((rd_T42 y510 x20_2).f2)):=hcc15 2 _ rfl;have hf15_0:w39.frozen? ⟨go15,(x20_2:Int).toNat*3,none⟩=false:=hfr15 0;have hf15_1:w39.frozen? ⟨go15,(x20_2:Int).toNat*3+1,none⟩=false:=hfr15 1;have hf15_2:w39.frozen? ⟨go15,(x20_2:Int).toNat*3+2,none⟩=false:=hfr15 2;clear hcl15 hcc15 hfr15;(try clear hM15);replace p15:=eq_true p15;replace q15:=eq_true q15;have HX41:=am_ (show Kd.R k42 42 w39 w.heap.size (fun _=>True) (.slice (some ⟨go15,0,none⟩) y510.length co40) y510 from((a1_ HO512.out)));obtain⟨ce41,hcl41,hM41,hcc41,hfr41⟩:=Kd.R_elem HX41.out z42 (x20_2:Int) (of_decide_eq_true (a8_)) (by have h_:(x20_2:Int)<((y510.length:Int):Int):=of_decide_eq_true (a8_);first|exact h_|(have e_:=(Kd.R_reads' HO512.out).1;omega) | simpa using h_);obtain rfl:=k42_openM hM41;have HP41:=Kd.R_seg HX41.out (x20_2:Int) (of_decide_eq_true (a8_)) (by have h_:(x20_2:Int)<((y510.length:Int):Int):=of_decide_eq_true (a8_);first|exact h_|(have e_:=(Kd.R_reads' HO512.out).1;omega) | simpa using h_) (seg:=[.int .i64 (wrap64 (((rd_T42 y510 x20_2).f2)+x8_3))]) (j:=2) hcl41 hcc41 (show 3≤3 from by decide) (x':=(⟨(rd_T42 y510 x20_2).f0,(rd_T42 y510 x20_2).f1,wrap64 (((rd_T42 y510 x20_2).f2)+x8_3)⟩:S42)) (k42_mkM _ _ _ (⟨(rd_T42 y510 x20_2).f0,(rd_T42 y510 x20_2).f1,wrap64 (((rd_T42 y510 x20_2).f2)+x8_3)⟩:S42) ) (fun _ hk=>hk);have hx41_2:=hcc41 2 _ rfl;(try simp only[show(k42).sz=3 from rfl,Nat.mul_one,Nat.add_zero]at hx41_2);have hf41_2:=hfr41 2;(try simp only[show(k42).sz=3 from rfl,Nat.mul_one,Nat.add_zero]at hf41_2);clear hcl41 hcc41 hfr41;(try clear hM41))|((with_reducible refine gate_store (t:=3) (p:=38) rfl ?_);refine store_event (t:=3) (p:=38) (v:=?vo_w42) (w1:=(w39.setCell ⟨go15,(x20_2:Int).toNat*3+2,none⟩ (.int .i64 (wrap64 (((rd_T42 y510 x20_2).f2)+x8_3))))) ?hg ?ho ?hn ?hr ?_;(case ho=>rfl);(case hg=>rfl);(case hn=>rfl);(case hr=>exact hr_);intro w42 hw;have hg:w39.grownBy w42 (some go15):=(by rw[hw];exact HP41.2);have hp_:Kd.R k42 42 w42 w.heap.size (fun _=>True) (.slice (some ⟨go15,0,none⟩) y510.length co40) y514:=(by rw[hw,Ny514.out];exact HP41.1);clear HP41;replace HO_6:=am_ (Kd.S_after (v:=(.slice (some ⟨go15,0,none⟩) y510.length co40)) (v1:=(.slice (some ⟨go15,0,none⟩) y510.length co40)) (ok:=(fun _=>True)) ((a18_ HO_6.out)) hg (.inl rfl));replace HO512:=am_ (hp_);replace HB:=am_ ((by rw[hw];exact below_set (HB.out) GB15.out:Below w.heap.size w w42));clear hg hw hp_)|(go_at_call 62;refine calls_of_args (args':= #[.slice (some ⟨go15,0,none⟩) y514.length co40]) ((a46_ HO512.out)) ?_;(with_reducible refine(spec_shGood.calls k3 _ _ y514 true _ ?side1 ?side2 A23.out).mono ?_);(case side1=>exact(a11_ HO512.out));(case side2=>rw[show y514.length=y510.length from(Kd.R_reads' HO512.out).1.symm];exact(Kd.R_reads' HO512.out).2.1);rintro e w43 ⟨rfl,hb⟩;replace HO_6:=am_ (Kd.S_below ((a18_ HO_6.out)) hb);replace HO512:=am_ (Kd.R_below ((a1_ HO512.out)) hb);replace HB:=am_ (below_step (a0_) hb);(try clear hb);(try clear hb2);(try clear hk);(try clear hi))|(go_at_call 63;refine calls_of_args (args':= #[.slice (some ⟨go15,0,none⟩) y514.length co40]) ((a46_ HO512.out)) ?_;(with_reducible refine(spec_ckSum.calls k3 _ _ y514 t516 _ ?side1 ?side2 A25.out).mono ?_);(case side1=>exact(a11_ HO512.out));(case side2=>rw[show y514.length=y510.length from(Kd.R_reads' HO512.out).1.symm];exact(Kd.R_reads' HO512.out).2.1);rintro e w44 ⟨rfl,hb⟩;replace HO_6:=am_ (Kd.S_below ((a18_ HO_6.out)) hb);replace HO512:=am_ (Kd.R_below ((a1_ HO512.out)) hb);replace HB:=am_ (below_step (a0_) hb);(try clear hb);(try clear hb2);(try clear hk);(try clear hi)))
                go_roundg k3
                case measure=>have:=HJ2.out;have:=HK2.out;have:=HK3.out;omega
                case rel=>exact⟨(x6_3),(wrap64 (x8_3+1)),(by first | rfl|(simp;done)|(simp[*];done)),H',⟨by have:=HJ2.out;have:=HK2.out;have:=HK3.out;omega⟩,⟨(a40_ HO_6.out)⟩,⟨a0_⟩⟩
              ·replace c24:=Bool.eq_false_iff.mpr c24
               subst c24
               replace H:(spec_SingleChanges.l1 k3 l0 a1 x6_3 x20_2 (wrap64 (x8_3+1)) (l0.length:Int) x20_2)=some (r1,r2):=by rw[if_neg (show ¬(false=true) by decide)]at H;exact H
               have H':=am_ H
               clear H
               go_wp2_with (first|((with_reducible refine gate_dst (N:=27) rfl ?_);refine Kd.R_lit k42 _ 42 ?hg (N:=27) ?hd (xs:=([]:List (S42))) (inner:=[]) (ok:=fun _=>True) (okp:=fun _=>True) ?hr ?hp (fun _ hk=>hk) trivial (Below.refl _ _) (Nat.le_refl _) (by simp) ?_;(case hd=>rfl);(case hg=>rfl);(case hr=>exact hr_);(case hp=>exact(Reps.none _ _));intro v508 w45 ho46 hb hg_ hnew_;clear hg_ hnew_;(first|rw[← Ny507.out]at ho46|(simp only[Int.reduceToNat]at ho46;rw[← Ny507.out]at ho46));replace HO_6:=am_ (Kd.S_elder' ((a18_ HO_6.out)) (Kd.R_base ho46) hb);have HO509:=am_ (Kd.R_lower ho46 (below_size (a0_)));replace HB:=am_ (below_step (a0_) hb);clear hb ho46)|((with_reducible refine gate_builtin (b:= .append) (xs:= #[.tmp 27, .tmp 28]) rfl ?_);at_builtin;refine Kd.R_append_rows k42 (w0:=w) w.heap.size rfl (.tmp 27) (.tmp 28) 32 42 (.agg #[(.int .i64 0),(.int .i64 0),(.int .i64 0)]) 24 rfl Try.underlying32 info42 rfl (by decide) (by omega) v508 y507 l0 _ _ _ (fun _=>True) (fun _=>False) rfl rfl ?aO ?aR (fun _ _ h=>h) (fun _ h=>h.elim) ?aF ?aB ?aS ?aL ?_;(case aR=>exact(a13_ HR0.out));(case aB=>exact(a0_));(case aF=>exact(fun _ _=>trivial));(case aO=>exact((a1_ HO509.out)));(case aS=>exact(below_size (a0_)));(case aL=>have:=LMc12.out;omega);intro v511 w47 ho hb hg hat;rw[← Ny510.out]at ho;have n0_:=am_ (Kd.S_after (ok:=(fun _=>True)) ((a18_ HO_6.out)) hg hat);have n1_:=am_ (hb);have n2_:=am_ (ho);clear HO_6 HB HO509;have HO_6:=n0_;have HB:=n1_;have HO512:=n2_;clear n0_ n1_ n2_ ho hb hg hat;obtain⟨Ao48,co48,eo48⟩:=Kd.R_slice HO512.out;subst eo48;have p513:0≤(x20_2:Int):=of_decide_eq_true (a8_);have q513:x20_2<(y510.length:Int):=of_decide_eq_true (a8_);obtain⟨ad513,e513,hx513_0,hx513_1,hx513_2⟩:=at_T42 (Kd.R_reads' HO512.out).2.2 x20_2 p513 q513;cases e513;replace p513:=eq_true p513;replace q513:=eq_true q513;have p15:0≤(x20_2:Int):=of_decide_eq_true (a8_);have q15:(x20_2:Int)<((y510.length:Int):Int):=of_decide_eq_true (a8_);obtain⟨go15,co15,eo15,gb15,gl15,cl15,HG15⟩:=Kd.R_form HO512.out (by omega);(first|cases eo15|(injection eo15 with ea_ en_ ec_;(first|subst ea_|(injection ea_ with ea_;subst ea_));subst ec_;clear en_));have GB15:=am_ gb15;have GG15:=am_ HG15;clear gb15 gl15 HG15;(first|simp only[add_plain]at hx513_0 | skip);(first|simp only[add_plain]at hx513_1 | skip);(first|simp only[add_plain]at hx513_2 | skip);obtain⟨ce15,hcl15,hM15,hcc15,hfr15⟩:=Kd.R_elem HO512.out z42 (x20_2:Int) p15 q15;obtain rfl:=k42_openM hM15;have hx15_0:w47.cell? ⟨go15,(x20_2:Int).toNat*3,none⟩=some (.int .i64 ((rd_T42 y510 x20_2).f0)):=hcc15 0 _ rfl;have hx15_1:w47.cell? ⟨go15,(x20_2:Int).toNat*3+1,none⟩=some (.int .i64 ((rd_T42 y510 x20_2).f1)):=hcc15 1 _ rfl;have hx15_2:w47.cell? ⟨go15,(x20_2:Int).toNat*3+2,none⟩=some (.int .i64 ((rd_T42 y510 x20_2).f2)):=hcc15 2 _ rfl;have hf15_0:w47.frozen? ⟨go15,(x20_2:Int).toNat*3,none⟩=false:=hfr15 0;have hf15_1:w47.frozen? ⟨go15,(x20_2:Int).toNat*3+1,none⟩=false:=hfr15 1;have hf15_2:w47.frozen? ⟨go15,(x20_2:Int).toNat*3+2,none⟩=false:=hfr15 2;clear hcl15 hcc15 hfr15;(try clear hM15);replace p15:=eq_true p15;replace q15:=eq_true q15;have HX49:=am_ (show Kd.R k42 42 w47 w.heap.size (fun _=>True) (.slice (some ⟨go15,0,none⟩) y510.length co48) y510 from((a1_ HO512.out)));obtain⟨ce49,hcl49,hM49,hcc49,hfr49⟩:=Kd.R_elem HX49.out z42 (x20_2:Int) (of_decide_eq_true (a8_)) (by have h_:(x20_2:Int)<((y510.length:Int):Int):=of_decide_eq_true (a8_);first|exact h_|(have e_:=(Kd.R_reads' HO512.out).1;omega) | simpa using h_);obtain rfl:=k42_openM hM49;have HP49:=Kd.R_seg HX49.out (x20_2:Int) (of_decide_eq_true (a8_)) (by have h_:(x20_2:Int)<((y510.length:Int):Int):=of_decide_eq_true (a8_);first|exact h_|(have e_:=(Kd.R_reads' HO512.out).1;omega) | simpa using h_) (seg:=[.int .i64 (wrap64 (((rd_T42 y510 x20_2).f2)+x8_3))]) (j:=2) hcl49 hcc49 (show 3≤3 from by decide) (x':=(⟨(rd_T42 y510 x20_2).f0,(rd_T42 y510 x20_2).f1,wrap64 (((rd_T42 y510 x20_2).f2)+x8_3)⟩:S42)) (k42_mkM _ _ _ (⟨(rd_T42 y510 x20_2).f0,(rd_T42 y510 x20_2).f1,wrap64 (((rd_T42 y510 x20_2).f2)+x8_3)⟩:S42) ) (fun _ hk=>hk);have hx49_2:=hcc49 2 _ rfl;(try simp only[show(k42).sz=3 from rfl,Nat.mul_one,Nat.add_zero]at hx49_2);have hf49_2:=hfr49 2;(try simp only[show(k42).sz=3 from rfl,Nat.mul_one,Nat.add_zero]at hf49_2);clear hcl49 hcc49 hfr49;(try clear hM49))|((with_reducible refine gate_store (t:=3) (p:=38) rfl ?_);refine store_event (t:=3) (p:=38) (v:=?vo_w50) (w1:=(w47.setCell ⟨go15,(x20_2:Int).toNat*3+2,none⟩ (.int .i64 (wrap64 (((rd_T42 y510 x20_2).f2)+x8_3))))) ?hg ?ho ?hn ?hr ?_;(case ho=>rfl);(case hg=>rfl);(case hn=>rfl);(case hr=>exact hr_);intro w50 hw;have hg:w47.grownBy w50 (some go15):=(by rw[hw];exact HP49.2);have hp_:Kd.R k42 42 w50 w.heap.size (fun _=>True) (.slice (some ⟨go15,0,none⟩) y510.length co48) y514:=(by rw[hw,Ny514.out];exact HP49.1);clear HP49;replace HO_6:=am_ (Kd.S_after (v:=(.slice (some ⟨go15,0,none⟩) y510.length co48)) (v1:=(.slice (some ⟨go15,0,none⟩) y510.length co48)) (ok:=(fun _=>True)) ((a18_ HO_6.out)) hg (.inl rfl));replace HO512:=am_ (hp_);replace HB:=am_ ((by rw[hw];exact below_set (HB.out) GB15.out:Below w.heap.size w w50));clear hg hw hp_)|(go_at_call 62;refine calls_of_args (args':= #[.slice (some ⟨go15,0,none⟩) y514.length co48]) ((a46_ HO512.out)) ?_;(with_reducible refine(spec_shGood.calls k3 _ _ y514 false _ ?side1 ?side2 A23.out).mono ?_);(case side1=>exact(a11_ HO512.out));(case side2=>rw[show y514.length=y510.length from(Kd.R_reads' HO512.out).1.symm];exact(Kd.R_reads' HO512.out).2.1);rintro e w51 ⟨rfl,hb⟩;replace HO_6:=am_ (Kd.S_below ((a18_ HO_6.out)) hb);replace HO512:=am_ (Kd.R_below ((a1_ HO512.out)) hb);replace HB:=am_ (below_step (a0_) hb);(try clear hb);(try clear hb2);(try clear hk);(try clear hi)))
               go_roundg k3
               case measure=>have:=HJ2.out;have:=HK2.out;have:=HK3.out;omega
               case rel=>exact⟨(x6_3),(wrap64 (x8_3+1)),(by first | rfl|(simp;done)|(simp[*];done)),H',⟨by have:=HJ2.out;have:=HK2.out;have:=HK3.out;omega⟩,⟨(a40_ HO_6.out)⟩,⟨a0_⟩⟩
            ·rw[if_neg c14]at H
             exact absurd H (by simp)
           ·rw[if_neg c13]at H
            exact absurd H (by simp)
          ·rw[if_neg c12]at H
           exact absurd H (by simp)
         ·rw[if_neg c11]at H
          have c11b0:decide (x8_3≤3)=false:=decide_eq_false c11
          clear c11
          have H':=am_ H
          clear H
          go_wp2
          go_roundg k3
          case measure=>have:=HJ2.out;have:=HK2.out;have:=HK3.out;omega
          case rel=>exact⟨(x6_3),(wrap64 (x20_2+1)),(by first | rfl|(simp;done)|(simp[*];done)),H',⟨by have:=HJ2.out;have:=HK2.out;have:=HK3.out;omega⟩,⟨(a18_ HO_6.out)⟩,⟨a0_⟩⟩
      ·rw[if_neg c10]at H
       have c10b0:decide (x20_2<(l0.length:Int))=false:=decide_eq_false c10
       clear c10
       simp only[Option.some.injEq,Prod.mk.injEq]at H
       obtain⟨rfl,rfl⟩:=H
       go_wp2
       go_ret2
       exact⟨_,a9_,(a18_ HO_6.out),a0_⟩

/-! ### laws_pSameHoles: function 42 -/
def laws_pSameHoles.l0:Nat→List (S42)→List (S42)→Int→Int→Option (Bool)
 | 0,_,_,_,_=>none
 | k+1,x0,x1,x12,x13=>if x13<x12 then(if 0≤x13 then(if x13<(x0.length:Int) then(if x13<(x1.length:Int) then(if(!(((rd_T42 x0 x13).f0) == ((rd_T42 x1 x13).f0)) || (!(((rd_T42 x0 x13).f1) == ((rd_T42 x1 x13).f1)) || (!(((rd_T42 x0 x13).f2) == ((rd_T42 x1 x13).f2)))))=true then(some false) else(laws_pSameHoles.l0 k x0 x1 x12 (wrap64 (x13+1)))) else(none)) else(none)) else(none)) else(some true)
def laws_pSameHoles.f (k:Nat) (l0:List (S42)) (l1:List (S42)):Option (Bool):=if(l0.length:Int)=(l1.length:Int) then(laws_pSameHoles.l0 k l0 l1 (l0.length:Int) 0) else(some false)
theorem laws_pSameHoles.mono_l:∀k,(∀y0 y1 y2 y3,LeO (laws_pSameHoles.l0 k y0 y1 y2 y3) (laws_pSameHoles.l0 (k+1) y0 y1 y2 y3))
 | 0=>fun _ _ _ _ r h=>by simp[laws_pSameHoles.l0]at h
 | k+1=>by
  have ih0:=laws_pSameHoles.mono_l k
  intros
  unfold laws_pSameHoles.l0
  rotate_left
  all_goals repeat' first|(with_reducible first|exact ih0 _ _ _ _|exact LeO.refl _|exact LeO.none _|refine LeO.ite ?_ ?_|refine LeO.bind ?_ (fun _=>?_))|exact ih0 _ _ _ _|exact LeO.none _|refine LeO.ite ?_ ?_|refine LeO.bind ?_ (fun _=>?_)
theorem laws_pSameHoles.mono:∀a0 a1 k,LeO (laws_pSameHoles.f k a0 a1) (laws_pSameHoles.f (k+1) a0 a1):=by
 intro a0 a1 k
 have ih0:=laws_pSameHoles.mono_l k
 unfold laws_pSameHoles.f
 repeat' first
  |(with_reducible exact ih0 _ _ _ _)
  |(with_reducible exact LeO.refl _)
  |(with_reducible exact LeO.none _)
  |(with_reducible refine LeO.ite ?_ ?_)
  |(with_reducible refine LeO.bind ?_ (fun _=>?_))
  |exact ih0 _ _ _ _
  |exact LeO.none _
   | refine LeO.ite ?_ ?_
   | refine LeO.bind ?_ (fun _=>?_)
set_option maxHeartbeats 8000000 in
set_option maxRecDepth 100000 in
theorem laws_pSameHoles.calls (k:Nat) (A0:Option Addr) (c0:Nat) (l0:List (S42)) (A1:Option Addr) (c1:Nat) (l1:List (S42)) (r:Bool) (w:World) (hr0:Kd.C k42 w A0 l0.length l0) (hc0:l0.length≤c0) (hr1:Kd.C k42 w A1 l1.length l1) (hc1:l1.length≤c1) (h:laws_pSameHoles.f k l0 l1=some r) :
 Calls Try.prog 42 #[.slice A0 l0.length c0, .slice A1 l1.length c1] w fun e w'=>e = .returned (.bool r)∧Drawn0 w w':=by
 have hu42:=Try.underlying42
 have HR0:=am_ hr0
 have HC0:=am_ hc0
 clear hr0 hc0
 have HR1:=am_ hr1
 have HC1:=am_ hc1
 clear hr1 hc1
 have H:(if(l0.length:Int)=(l1.length:Int) then(laws_pSameHoles.l0 k l0 l1 (l0.length:Int) 0) else(some false))=some r:=h
 clear h
 by_cases c3:(l0.length:Int)=(l1.length:Int)
 ·rw[if_pos c3]at H
  have c3b0:((l0.length:Int) == (l1.length:Int))=true:=beq_iff_eq.mpr c3
  have c3b1:((l0.length:Int) != (l1.length:Int))=false:=bne_eq_false_iff_eq.mpr c3
  have c3b2:(l0.length == l1.length)=true:=a49_
  clear c3
  have H':=am_ H
  clear H
  go_enter Try.func42,Try.ntmps42
  go_wp2
  repeat (go_quiet (fail);try go_wp2)
  (try simp only[Act.put,List.setIfInBounds_toArray,List.set_cons_zero,List.set_cons_succ])
  go_loopg [13] k (fun kq v13 w'=>∃(x13_1:Int),v13 = .int .i64 x13_1∧Aside0 (laws_pSameHoles.l0 kq l0 l1 (l0.length:Int) x13_1=some r)∧Aside0 (kq≤k)∧Drawn0 w w')
  case atStart=>exact⟨(0),(by first | rfl|(simp;done)|(simp[*];done)),H',⟨Nat.le_refl _⟩,a29_⟩
  case round=>
   clear H'
   try clear c1
   try clear p2
   try clear c3
   try clear c3b0
   try clear c3b1
   try clear c3b2
   obtain⟨x13_1,rfl,HA,HK1,⟨m1,rfl⟩⟩:=hrel
   cases gk with
   | zero=>exact absurd HA.out (by simp[laws_pSameHoles.l0])
   | succ k1=>
    have H:=HA.out
    clear HA
    simp only[laws_pSameHoles.l0]at H
    by_cases c4:x13_1<(l0.length:Int)
    ·rw[if_pos c4]at H
     have c4b0:decide (x13_1<(l0.length:Int))=true:=decide_eq_true c4
     clear c4
     by_cases c5:0≤x13_1
     ·rw[if_pos c5]at H
      have c5b0:decide (0≤x13_1)=true:=decide_eq_true c5
      clear c5
      by_cases c6:x13_1<(l0.length:Int)
      ·rw[if_pos c6]at H
       have c6b0:decide (x13_1<(l0.length:Int))=true:=decide_eq_true c6
       clear c6
       by_cases c7:x13_1<(l1.length:Int)
       ·rw[if_pos c7]at H
        have c7b0:decide (x13_1<(l1.length:Int))=true:=decide_eq_true c7
        clear c7
        by_cases c8:(!(((rd_T42 l0 x13_1).f0) == ((rd_T42 l1 x13_1).f0)) || (!(((rd_T42 l0 x13_1).f1) == ((rd_T42 l1 x13_1).f1)) || (!(((rd_T42 l0 x13_1).f2) == ((rd_T42 l1 x13_1).f2)))))=true
        ·rw[if_pos c8]at H
         have c8b0:(!(((rd_T42 l0 x13_1).f0) == ((rd_T42 l1 x13_1).f0)) || (!(((rd_T42 l0 x13_1).f1) == ((rd_T42 l1 x13_1).f1)) || (!(((rd_T42 l0 x13_1).f2) == ((rd_T42 l1 x13_1).f2)))))=true:=c8
         clear c8
         obtain rfl:=Option.some.inj H
         have p520:0≤(x13_1:Int):=of_decide_eq_true (a8_)
         have q520:x13_1<(l0.length:Int):=of_decide_eq_true (a8_)
         obtain⟨ad520,e520,hx520_0,hx520_1,hx520_2⟩:=at_T42 HR0.out x13_1 p520 q520
         cases e520
         replace p520:=eq_true p520
         replace q520:=eq_true q520
         have p521:0≤(x13_1:Int):=of_decide_eq_true (a8_)
         have q521:x13_1<(l1.length:Int):=of_decide_eq_true (a8_)
         obtain⟨ad521,e521,hx521_0,hx521_1,hx521_2⟩:=at_T42 HR1.out x13_1 p521 q521
         cases e521
         replace p521:=eq_true p521
         replace q521:=eq_true q521
         go_wp2
         repeat (go_quiet (fail);try go_wp2)
         go_ret
         exact⟨by first | rfl|(simp;done)|(simp[*];done),a29_⟩
        ·rw[if_neg c8]at H
         have c8b0:(!(((rd_T42 l0 x13_1).f0) == ((rd_T42 l1 x13_1).f0)) || (!(((rd_T42 l0 x13_1).f1) == ((rd_T42 l1 x13_1).f1)) || (!(((rd_T42 l0 x13_1).f2) == ((rd_T42 l1 x13_1).f2)))))=false:=by simpa using c8
         clear c8
         have H':=am_ H
         clear H
         have p520:0≤(x13_1:Int):=of_decide_eq_true (a8_)
         have q520:x13_1<(l0.length:Int):=of_decide_eq_true (a8_)
         obtain⟨ad520,e520,hx520_0,hx520_1,hx520_2⟩:=at_T42 HR0.out x13_1 p520 q520
         cases e520
         replace p520:=eq_true p520
         replace q520:=eq_true q520
         have p521:0≤(x13_1:Int):=of_decide_eq_true (a8_)
         have q521:x13_1<(l1.length:Int):=of_decide_eq_true (a8_)
         obtain⟨ad521,e521,hx521_0,hx521_1,hx521_2⟩:=at_T42 HR1.out x13_1 p521 q521
         cases e521
         replace p521:=eq_true p521
         replace q521:=eq_true q521
         go_wp2
         repeat (go_quiet (fail);try go_wp2)
         go_roundg k1
         case measure=>have:=HK1.out;omega
         case rel=>exact⟨(wrap64 (x13_1+1)),(by first | rfl|(simp;done)|(simp[*];done)),H',⟨by have:=HK1.out;omega⟩,a29_⟩
       ·rw[if_neg c7]at H
        exact absurd H (by simp)
      ·rw[if_neg c6]at H
       exact absurd H (by simp)
     ·rw[if_neg c5]at H
      exact absurd H (by simp)
    ·rw[if_neg c4]at H
     have c4b0:decide (x13_1<(l0.length:Int))=false:=decide_eq_false c4
     clear c4
     obtain rfl:=Option.some.inj H
     go_wp2
     repeat (go_quiet (fail);try go_wp2)
     go_ret
     exact⟨by first | rfl|(simp;done)|(simp[*];done),a29_⟩
 ·rw[if_neg c3]at H
  have c3b0:((l0.length:Int) == (l1.length:Int))=false:=beq_eq_false_iff_ne.mpr c3
  have c3b1:((l0.length:Int) != (l1.length:Int))=true:=bne_iff_ne.mpr c3
  have c3b2:(l0.length == l1.length)=false:=a49_
  obtain rfl:=Option.some.inj H
  go_enter Try.func42,Try.ntmps42
  go_wp2
  repeat (go_quiet (fail);try go_wp2)
  go_ret
  exact⟨by first | rfl|(simp;done)|(simp[*];done),a29_⟩

end Go.Proofs.Ytplpjmhmochcfaa.QFnCopies
