/- Written by a program of this session (the kit's printer, with leaf contracts proved by hand put in): what each Go function computes, and that the call computes it. No condition but those that each theorem names. -/
import Derived.Test.YtkkmeccdjpibmaaGreatDoorQFnCataloguex0
import Derived.Test.YtkkmeccdjpibmaaGreatDoorQFnCataloguex9
import Derived.Test.YtkkmeccdjpibmaaGreatDoorQFnCataloguex11
import Derived.Test.YtkkmeccdjpibmaaGreatDoorQFnCataloguex12
namespace Go.Proofs.YtkkmeccdjpibmaaGreatDoor.QFnCatalogue
open Go.RowKit Go.Proofs.YtkkmeccdjpibmaaGreatDoorW.PrintWords Go.Proofs.YtkkmeccdjpibmaaGreatDoorW.PrintLast Go.Proofs.YtkkmeccdjpibmaaGreatDoorW.PrintMore
attribute [local go_sem] max2_int min2_int max_two min_two max_three min_three max_four min_four   -- for this text's walks alone
set_option linter.unusedVariables false
set_option linter.unusedSimpArgs false

/-! ### spec_CopiesOf: function 27 -/
def spec_CopiesOf.l0:Nat→List (S47)→Int→List Int→Int→Int→Option (List Int×Bool)
 | 0,_,_,_,_,_=>none
 | k+1,x0,x1,x6,x13,x14=>if x14<x13 then(if x14=x1 then(spec_CopiesOf.l0 k x0 x1 x6 x13 (wrap64 (x14+1))) else((spec_caWay.f k x0 x14).bind fun t510=>((spec_l1Has.f k t510 x1).bind fun t513=>(if t513=true then(if x6.length<17592186044416 then(spec_CopiesOf.l0 k x0 x1 (x6 ++ [x14]) x13 (wrap64 (x14+1))) else(none)) else(spec_CopiesOf.l0 k x0 x1 x6 x13 (wrap64 (x14+1))))))) else(some (x6,true))
def spec_CopiesOf.f (k:Nat) (l0:List (S47)) (a1:Int):Option (List Int×Bool):=(spec_caHas.f k l0 a1).bind fun t509=>(if t509=true then(spec_CopiesOf.l0 k l0 a1 ([]:List Int) (l0.length:Int) 0) else(some (([]:List Int),false)))
theorem spec_CopiesOf.mono_l:∀k,(∀y0 y1 y2 y3 y4,LeO (spec_CopiesOf.l0 k y0 y1 y2 y3 y4) (spec_CopiesOf.l0 (k+1) y0 y1 y2 y3 y4))
 | 0=>fun _ _ _ _ _ r h=>by simp[spec_CopiesOf.l0]at h
 | k+1=>by
  have ih0:=spec_CopiesOf.mono_l k
  intros
  unfold spec_CopiesOf.l0
  rotate_left
  all_goals repeat' first|(with_reducible first|exact ih0 _ _ _ _ _|exact spec_caHas.mono _ _ _|exact spec_caWay.mono _ _ _|exact spec_l1Has.mono _ _ _|exact LeO.refl _|exact LeO.none _|refine LeO.ite ?_ ?_|refine LeO.bind ?_ (fun _=>?_))|exact ih0 _ _ _ _ _|exact spec_caHas.mono _ _ _|exact spec_caWay.mono _ _ _|exact spec_l1Has.mono _ _ _|exact LeO.none _|refine LeO.ite ?_ ?_|refine LeO.bind ?_ (fun _=>?_)
theorem spec_CopiesOf.mono:∀a0 a1 k,LeO (spec_CopiesOf.f k a0 a1) (spec_CopiesOf.f (k+1) a0 a1):=by
 intro a0 a1 k;(have ih0:=spec_CopiesOf.mono_l k);unfold spec_CopiesOf.f
 repeat' first
  |(with_reducible exact ih0 _ _ _ _ _)
  |(with_reducible exact spec_caHas.mono _ _ _)
  |(with_reducible exact spec_caWay.mono _ _ _)
  |(with_reducible exact spec_l1Has.mono _ _ _)
  |(with_reducible exact LeO.refl _)
  |(with_reducible exact LeO.none _)
  |(with_reducible refine LeO.ite ?_ ?_)
  |(with_reducible refine LeO.bind ?_ (fun _=>?_))
  |exact ih0 _ _ _ _ _
  |exact spec_caHas.mono _ _ _
  |exact spec_caWay.mono _ _ _
  |exact spec_l1Has.mono _ _ _
  |exact LeO.none _
   | refine LeO.ite ?_ ?_
   | refine LeO.bind ?_ (fun _=>?_)
set_option maxHeartbeats 8000000 in
set_option maxRecDepth 100000 in
theorem spec_CopiesOf.calls (k:Nat) (A0:Option Addr) (c0:Nat) (l0:List (S47)) (a1:Int) (r1:List Int) (r2:Bool) (w:World) (hr0:Kd.C k47 w A0 l0.length l0) (hc0:l0.length≤c0) (h:spec_CopiesOf.f k l0 a1=some (r1,r2)) :
 Calls Tryz.prog 27 #[.slice A0 l0.length c0, .int .i64 a1] w fun e w'=>∃v0_:Value,e = .returned (.tuple #[v0_, .bool r2])∧Kd.R (Kd.int .i64) 3 w' w.heap.size (fun _=>True) v0_ r1∧Below w.heap.size w w':=by
 (have HR0:=am_ hr0);(have HC0:=am_ hc0);clear hr0 hc0;(have HB:=am_ (Below.refl w.heap.size w));(have H:((spec_caHas.f k l0 a1).bind fun t509=>(if t509=true then(spec_CopiesOf.l0 k l0 a1 ([]:List Int) (l0.length:Int) 0) else(some (([]:List Int),false))))=some (r1,r2):=h);clear h;obtain⟨t509,A3,H⟩:=bo_ H;(try dsimp only at H);by_cases c4:t509=true
 ·subst c4;(replace H:(spec_CopiesOf.l0 k l0 a1 ([]:List Int) (l0.length:Int) 0)=some (r1,r2):=by rw[if_pos rfl]at H;exact H);(have H':=am_ H);clear H;(go_enter Tryz.func27,Tryz.ntmps27);(go_wp2_with (first|((with_reducible refine gate_callee (f:=43) rfl ?_);refine goesL_ (some 10) rfl rfl Tryz.func43 (by kernel_rfl) rfl #[.slice A0 l0.length c0, .int .i64 a1] rfl gd_ ?_;(with_reducible refine(spec_caHas.calls k _ _ l0 a1 true _ ?side1 ?side2 A3.out).mono ?_);(case side1=>exact(a15_ HR0.out));(case side2=>exact HC0.out);rintro e w5 ⟨rfl,hb⟩;refine⟨_,rfl,?_⟩;replace HB:=am_ (below_step (a1_) hb);(try clear hb);(try clear hb2);(try clear hk);(try clear hi))));(try simp only[Act.put,List.setIfInBounds_toArray,List.set_cons_zero,List.set_cons_succ])
  go_loopg [6,14] k (fun kq v6 v14 w'=>∃(x6_1:List Int) (x14_1:Int),v14 = .int .i64 x14_1∧Aside0 (spec_CopiesOf.l0 kq l0 a1 x6_1 (l0.length:Int) x14_1=some (r1,r2))∧Aside0 (kq≤k)∧Aside0 (Kd.R (Kd.int .i64) 3 w' w.heap.size (fun _=>True) v6 x6_1)∧Aside0 (Below w.heap.size w w'))
  case atStart=>exact⟨(([]:List Int)),(0),(by first | rfl|(simp;done)|(simp[*];done)),H',⟨Nat.le_refl _⟩,⟨a17_⟩,⟨a1_⟩⟩
  case round=>
   clear H';(try clear c2);(try clear p2);(try clear c4);obtain⟨x6_1,x14_1,rfl,HA,HK1,HO_6,HB⟩:=hrel;cases gk with
   | zero=>exact absurd HA.out (by simp[spec_CopiesOf.l0])
   | succ k1=>
    (have H:=HA.out);clear HA;simp only[spec_CopiesOf.l0]at H;by_cases c6:x14_1<(l0.length:Int)
    ·rw[if_pos c6]at H;(have c6b0:decide (x14_1<(l0.length:Int))=true:=decide_eq_true c6);clear c6;by_cases c7:x14_1=a1
     ·rw[if_pos c7]at H;(have c7b0:(x14_1 == a1)=true:=beq_iff_eq.mpr c7);(have c7b1:(x14_1 != a1)=false:=bne_eq_false_iff_eq.mpr c7);clear c7;(have H':=am_ H);clear H;go_wp2;(go_roundg k1)
      case measure=>have:=HK1.out;omega
      case rel=>exact⟨(x6_1),(wrap64 (x14_1+1)),(by first | rfl|(simp;done)|(simp[*];done)),H',⟨by have:=HK1.out;omega⟩,⟨(a0_ HO_6.out)⟩,⟨a1_⟩⟩
     ·rw[if_neg c7]at H;(have c7b0:(x14_1 == a1)=false:=beq_eq_false_iff_ne.mpr c7);(have c7b1:(x14_1 != a1)=true:=bne_iff_ne.mpr c7);obtain⟨t510,A8,H⟩:=bo_ H;(try dsimp only at H);obtain⟨t513,A9,H⟩:=bo_ H;(try dsimp only at H);by_cases c10:t513=true
      ·subst c10;(replace H:(if x6_1.length<17592186044416 then(spec_CopiesOf.l0 k1 l0 a1 (x6_1 ++ [x14_1]) (l0.length:Int) (wrap64 (x14_1+1))) else(none))=some (r1,r2):=by rw[if_pos rfl]at H;exact H);by_cases c11:x6_1.length<17592186044416
       ·rw[if_pos c11]at H;(have LMc11:=am_ c11);clear c11;(obtain⟨y514,hy514⟩:∃y_:List Int,y_=(x6_1 ++ [x14_1]):=⟨_,rfl⟩);(replace H:(spec_CopiesOf.l0 k1 l0 a1 y514 (l0.length:Int) (wrap64 (x14_1+1)))=some (r1,r2):=by first|(rw[hy514];with_reducible exact H)|(have H2_:=(Option.bind_some _ _).symm.trans H;rw[hy514];with_reducible exact H2_)|(have H2_:=(Option.bind_some _ _).symm.trans H;with_reducible exact H2_) | with_reducible exact H|(rw[hy514];exact H)|exact H);(have Ny514:=am_ hy514);clear hy514;(have H':=am_ H);clear H;(go_wp2_with (first|(go_at_call 35;(with_reducible refine(spec_caWay.calls k1 _ _ l0 x14_1 t510 _ ?side1 ?side2 A8.out).mono ?_);(case side1=>exact(a18_ HR0.out));(case side2=>exact HC0.out);rintro e w12 ⟨v511,rfl,ho0,hb⟩;have HO512:=am_ (Kd.R_lower (Kd.R_new' ho0 (Kd.R_lt ((a0_ HO_6.out)))) (below_size (a1_)));replace HO_6:=am_ (Kd.R_elder' ((a0_ HO_6.out)) (Kd.R_base ho0) hb);replace HB:=am_ (below_step (a1_) hb);(try clear hb);(try clear hb2);(try clear hk);(try clear hi);(try clear ho0);obtain⟨Ao13,co13,eo13⟩:=Kd.R_slice HO512.out;subst eo13)|(go_at_call 44;(with_reducible refine(spec_l1Has.calls k1 _ _ t510 a1 true _ ?side1 ?side2 A9.out).mono ?_);(case side1=>exact(a7_ HO512.out));(case side2=>exact(Kd.R_reads' HO512.out).2.1);rintro e w' ⟨rfl,⟨nd,rfl⟩⟩)|((with_reducible refine gate_builtin (b:= .append) (xs:= #[.tmp 27, .tmp 29]) rfl ?_);at_builtin;refine Kd.R_append (Kd.int .i64) (w0:=w) w.heap.size rfl (.tmp 27) (.tmp 29) 27 3 (.int .i64 0) 8 rfl Tryz.underlying27 info3 rfl (by decide) (by omega) u6 x6_1 x14_1 [.int .i64 x14_1] (fun k_=>some k_≠(.slice Ao13 t510.length co13:Value).ownBlock) (fun _=>False) rfl rfl ?aP (fun _ hk=>hk.elim) ?aF ?aO ?aB ?aS ?aL ?_;(case aP=>exact rfl);(case aB=>exact(a1_));(case aF=>exact(fun k_ hk=>Kd.fresh' (Kd.R_lt ((a0_ HO512.out))) k_ hk));(case aO=>exact((a21_ HO_6.out)));(case aS=>exact(below_size (a1_)));(case aL=>have:=LMc11.out;omega);intro v515 w14 ho hb hg hat;rw[← Ny514.out]at ho;have n0_:=am_ (Kd.R_after (ok:=(fun _=>True)) ((a0_ HO512.out)) hg hat);have n1_:=am_ (hb);have n2_:=am_ (ho);clear HO512 HB HO_6;have HO512:=n0_;have HB:=n1_;have HO516:=n2_;clear n0_ n1_ n2_ ho hb hg hat)));(go_roundg k1)
        case measure=>have:=HK1.out;omega
        case rel=>exact⟨(y514),(wrap64 (x14_1+1)),(by first | rfl|(simp;done)|(simp[*];done)),H',⟨by have:=HK1.out;omega⟩,⟨(a23_ HO516.out)⟩,⟨a1_⟩⟩
       (focus rw[if_neg c11]at H;exact absurd H (by simp))
      ·replace c10:=Bool.eq_false_iff.mpr c10;subst c10;(replace H:(spec_CopiesOf.l0 k1 l0 a1 x6_1 (l0.length:Int) (wrap64 (x14_1+1)))=some (r1,r2):=by rw[if_neg (show ¬(false=true) by decide)]at H;exact H);(have H':=am_ H);clear H;(go_wp2_with (first|(go_at_call 35;(with_reducible refine(spec_caWay.calls k1 _ _ l0 x14_1 t510 _ ?side1 ?side2 A8.out).mono ?_);(case side1=>exact(a18_ HR0.out));(case side2=>exact HC0.out);rintro e w15 ⟨v511,rfl,ho0,hb⟩;have HO512:=am_ (Kd.R_lower (Kd.R_new' ho0 (Kd.R_lt ((a0_ HO_6.out)))) (below_size (a1_)));replace HO_6:=am_ (Kd.R_elder' ((a0_ HO_6.out)) (Kd.R_base ho0) hb);replace HB:=am_ (below_step (a1_) hb);(try clear hb);(try clear hb2);(try clear hk);(try clear hi);(try clear ho0);obtain⟨Ao16,co16,eo16⟩:=Kd.R_slice HO512.out;subst eo16)|(go_at_call 44;(with_reducible refine(spec_l1Has.calls k1 _ _ t510 a1 false _ ?side1 ?side2 A9.out).mono ?_);(case side1=>exact(a7_ HO512.out));(case side2=>exact(Kd.R_reads' HO512.out).2.1);rintro e w' ⟨rfl,⟨nd,rfl⟩⟩)));(go_roundg k1)
       case measure=>have:=HK1.out;omega
       case rel=>exact⟨(x6_1),(wrap64 (x14_1+1)),(by first | rfl|(simp;done)|(simp[*];done)),H',⟨by have:=HK1.out;omega⟩,⟨(a23_ HO_6.out)⟩,⟨a1_⟩⟩
    (focus rw[if_neg c6]at H;(have c6b0:decide (x14_1<(l0.length:Int))=false:=decide_eq_false c6);clear c6;simp only[Option.some.injEq,Prod.mk.injEq]at H;obtain⟨rfl,rfl⟩:=H;go_wp2;go_ret2;exact⟨_,a10_,(a0_ HO_6.out),a1_⟩)
 (focus replace c4:=Bool.eq_false_iff.mpr c4;subst c4;(replace H:(some (([]:List Int),false))=some (r1,r2):=by rw[if_neg (show ¬(false=true) by decide)]at H;exact H);simp only[Option.some.injEq,Prod.mk.injEq]at H;obtain⟨rfl,rfl⟩:=H;(go_enter Tryz.func27,Tryz.ntmps27);(go_wp2_with (first|((with_reducible refine gate_callee (f:=43) rfl ?_);refine goesL_ (some 10) rfl rfl Tryz.func43 (by kernel_rfl) rfl #[.slice A0 l0.length c0, .int .i64 a1] rfl gd_ ?_;(with_reducible refine(spec_caHas.calls k _ _ l0 a1 false _ ?side1 ?side2 A3.out).mono ?_);(case side1=>exact(a15_ HR0.out));(case side2=>exact HC0.out);rintro e w17 ⟨rfl,hb⟩;refine⟨_,rfl,?_⟩;replace HB:=am_ (below_step (a1_) hb);(try clear hb);(try clear hb2);(try clear hk);(try clear hi))));go_ret2;exact⟨_,a10_,a17_,a1_⟩)

end Go.Proofs.YtkkmeccdjpibmaaGreatDoor.QFnCatalogue
