/- Written by a program of this session (the kit's printer, with leaf contracts proved by hand put in): what each Go function computes, and that the call computes it. No condition but those that each theorem names. -/
import Derived.Test.YtplpjmhmochcfaaQFnCopiesx0
import Derived.Test.YtplpjmhmochcfaaQFnCopiesx2
import Derived.Test.YtplpjmhmochcfaaQFnCopiesx7
import Derived.Test.YtplpjmhmochcfaaQFnCopiesx8
import Derived.Test.YtplpjmhmochcfaaQFnCopiesx9
import Derived.Test.YtplpjmhmochcfaaQFnCopiesx10
import Derived.Test.YtplpjmhmochcfaaQFnCopiesx11
import Derived.Test.YtplpjmhmochcfaaQFnCopiesx12
namespace Go.Proofs.Ytplpjmhmochcfaa.QFnCopies
open Go.RowKit Go.Proofs.YtplpjmhmochcfaaW.PrintWords Go.Proofs.YtplpjmhmochcfaaW.PrintLast Go.Proofs.YtplpjmhmochcfaaW.PrintMore
attribute [local go_sem] max2_int min2_int max_two min_two max_three min_three max_four min_four   -- for this text's walks alone
set_option linter.unusedVariables false
set_option linter.unusedSimpArgs false

/-! ### laws_pSameSheets: function 19 -/
def laws_pSameSheets.l0:Nat→List (List (S42))→List (List (S42))→Int→Int→Option (Bool)
 | 0,_,_,_,_=>none
 | k+1,x0,x1,x12,x13=>if x13<x12 then(if 0≤x13 then(if x13<(x0.length:Int) then(if x13<(x1.length:Int) then((laws_pSameHoles.f k (rd_L3 x0 x13) (rd_L3 x1 x13)).bind fun t524=>(if t524=true then(laws_pSameSheets.l0 k x0 x1 x12 (wrap64 (x13+1))) else(some false))) else(none)) else(none)) else(none)) else(some true)
def laws_pSameSheets.f (k:Nat) (l0:List (List (S42))) (l1:List (List (S42))):Option (Bool):=if(l0.length:Int)=(l1.length:Int) then(laws_pSameSheets.l0 k l0 l1 (l0.length:Int) 0) else(some false)
theorem laws_pSameSheets.mono_l:∀k,(∀y0 y1 y2 y3,LeO (laws_pSameSheets.l0 k y0 y1 y2 y3) (laws_pSameSheets.l0 (k+1) y0 y1 y2 y3))
 | 0=>fun _ _ _ _ r h=>by simp[laws_pSameSheets.l0]at h
 | k+1=>by
  have ih0:=laws_pSameSheets.mono_l k
  intros
  unfold laws_pSameSheets.l0
  rotate_left
  all_goals repeat' first|(with_reducible first|exact ih0 _ _ _ _|exact laws_pSameHoles.mono _ _ _|exact LeO.refl _|exact LeO.none _|refine LeO.ite ?_ ?_|refine LeO.bind ?_ (fun _=>?_))|exact ih0 _ _ _ _|exact laws_pSameHoles.mono _ _ _|exact LeO.none _|refine LeO.ite ?_ ?_|refine LeO.bind ?_ (fun _=>?_)
theorem laws_pSameSheets.mono:∀a0 a1 k,LeO (laws_pSameSheets.f k a0 a1) (laws_pSameSheets.f (k+1) a0 a1):=by
 intro a0 a1 k
 have ih0:=laws_pSameSheets.mono_l k
 unfold laws_pSameSheets.f
 repeat' first
  |(with_reducible exact ih0 _ _ _ _)
  |(with_reducible exact laws_pSameHoles.mono _ _ _)
  |(with_reducible exact LeO.refl _)
  |(with_reducible exact LeO.none _)
  |(with_reducible refine LeO.ite ?_ ?_)
  |(with_reducible refine LeO.bind ?_ (fun _=>?_))
  |exact ih0 _ _ _ _
  |exact laws_pSameHoles.mono _ _ _
  |exact LeO.none _
   | refine LeO.ite ?_ ?_
   | refine LeO.bind ?_ (fun _=>?_)
set_option maxHeartbeats 8000000 in
set_option maxRecDepth 100000 in
theorem laws_pSameSheets.calls (k:Nat) (A0:Option Addr) (c0:Nat) (l0:List (List (S42))) (A1:Option Addr) (c1:Nat) (l1:List (List (S42))) (r:Bool) (w:World) (hr0:Kd.C (Kd.slice 42 k42) w A0 l0.length l0) (hc0:l0.length≤c0) (hr1:Kd.C (Kd.slice 42 k42) w A1 l1.length l1) (hc1:l1.length≤c1) (h:laws_pSameSheets.f k l0 l1=some r) :
 Calls Try.prog 19 #[.slice A0 l0.length c0, .slice A1 l1.length c1] w fun e w'=>e = .returned (.bool r)∧Drawn0 w w':=by
 have HR0:=am_ hr0
 have HC0:=am_ hc0
 clear hr0 hc0
 have HR1:=am_ hr1
 have HC1:=am_ hc1
 clear hr1 hc1
 have H:(if(l0.length:Int)=(l1.length:Int) then(laws_pSameSheets.l0 k l0 l1 (l0.length:Int) 0) else(some false))=some r:=h
 clear h
 by_cases c3:(l0.length:Int)=(l1.length:Int)
 ·rw[if_pos c3]at H
  have c3b0:((l0.length:Int) == (l1.length:Int))=true:=beq_iff_eq.mpr c3
  have c3b1:((l0.length:Int) != (l1.length:Int))=false:=bne_eq_false_iff_eq.mpr c3
  have c3b2:(l0.length == l1.length)=true:=a49_
  clear c3
  have H':=am_ H
  clear H
  go_enter Try.func19,Try.ntmps19
  go_wp2
  repeat (go_quiet (fail);try go_wp2)
  (try simp only[Act.put,List.setIfInBounds_toArray,List.set_cons_zero,List.set_cons_succ])
  go_loopg [13] k (fun kq v13 w'=>∃(x13_1:Int),v13 = .int .i64 x13_1∧Aside0 (laws_pSameSheets.l0 kq l0 l1 (l0.length:Int) x13_1=some r)∧Aside0 (kq≤k)∧Drawn0 w w')
  case atStart=>exact⟨(0),(by first | rfl|(simp;done)|(simp[*];done)),H',⟨Nat.le_refl _⟩,a29_⟩
  case round=>
   clear H'
   try clear c1
   try clear p2
   try clear c3
   try clear c3b0
   try clear c3b1
   try clear c3b2
   obtain⟨x13_1,rfl,HA,HK1,⟨m1,rfl⟩⟩:=hrel
   cases gk with
   | zero=>exact absurd HA.out (by simp[laws_pSameSheets.l0])
   | succ k1=>
    have H:=HA.out
    clear HA
    simp only[laws_pSameSheets.l0]at H
    by_cases c4:x13_1<(l0.length:Int)
    ·rw[if_pos c4]at H
     have c4b0:decide (x13_1<(l0.length:Int))=true:=decide_eq_true c4
     clear c4
     by_cases c5:0≤x13_1
     ·rw[if_pos c5]at H
      have c5b0:decide (0≤x13_1)=true:=decide_eq_true c5
      clear c5
      by_cases c6:x13_1<(l0.length:Int)
      ·rw[if_pos c6]at H
       have c6b0:decide (x13_1<(l0.length:Int))=true:=decide_eq_true c6
       clear c6
       by_cases c7:x13_1<(l1.length:Int)
       ·rw[if_pos c7]at H
        have c7b0:decide (x13_1<(l1.length:Int))=true:=decide_eq_true c7
        clear c7
        obtain⟨t524,A8,H⟩:=bo_ H
        try dsimp only at H
        by_cases c9:t524=true
        ·subst c9
         replace H:(laws_pSameSheets.l0 k1 l0 l1 (l0.length:Int) (wrap64 (x13_1+1)))=some r:=by rw[if_pos rfl]at H;exact H
         have H':=am_ H
         clear H
         have p522:0≤(x13_1:Int):=of_decide_eq_true (a8_)
         have q522:x13_1<(l0.length:Int):=of_decide_eq_true (a8_)
         obtain⟨ad522,A522_0,c522_0,e522,hx522_0,hl522_0,hi522_0⟩:=at_L3 HR0.out x13_1 p522 q522
         cases e522
         have HR522_0:=am_ hi522_0
         have HC522_0:=am_ hl522_0
         clear hi522_0 hl522_0
         replace p522:=eq_true p522
         replace q522:=eq_true q522
         have p523:0≤(x13_1:Int):=of_decide_eq_true (a8_)
         have q523:x13_1<(l1.length:Int):=of_decide_eq_true (a8_)
         obtain⟨ad523,A523_0,c523_0,e523,hx523_0,hl523_0,hi523_0⟩:=at_L3 HR1.out x13_1 p523 q523
         cases e523
         have HR523_0:=am_ hi523_0
         have HC523_0:=am_ hl523_0
         clear hi523_0 hl523_0
         replace p523:=eq_true p523
         replace q523:=eq_true q523
         iterate 6 (go_wp2_with (first|(go_at_call 42;(with_reducible refine(laws_pSameHoles.calls k1 _ _ (rd_L3 l0 x13_1) _ _ (rd_L3 l1 x13_1) true _ ?side1 ?side2 ?side3 ?side4 A8.out).mono ?_);(case side1=>exact(a21_ HR522_0.out));(case side2=>exact HC522_0.out);(case side3=>exact(a21_ HR523_0.out));(case side4=>exact HC523_0.out);rintro e w' ⟨rfl,⟨nd,rfl⟩⟩;(try first|exact⟨rfl,_,World.drewN_drewN _ _ _⟩|exact⟨rfl,_,Eq.trans (World.drewN_drewN _ _ _) (congrArg (World.drewN _) (Nat.add_assoc _ _ _))⟩)));try go_quiet (first|(go_at_call 42;(with_reducible refine(laws_pSameHoles.calls k1 _ _ (rd_L3 l0 x13_1) _ _ (rd_L3 l1 x13_1) true _ ?side1 ?side2 ?side3 ?side4 A8.out).mono ?_);(case side1=>exact(a21_ HR522_0.out));(case side2=>exact HC522_0.out);(case side3=>exact(a21_ HR523_0.out));(case side4=>exact HC523_0.out);rintro e w' ⟨rfl,⟨nd,rfl⟩⟩;(try first|exact⟨rfl,_,World.drewN_drewN _ _ _⟩|exact⟨rfl,_,Eq.trans (World.drewN_drewN _ _ _) (congrArg (World.drewN _) (Nat.add_assoc _ _ _))⟩))))
         go_roundg k1
         case measure=>have:=HK1.out;omega
         case rel=>exact⟨(wrap64 (x13_1+1)),(by first | rfl|(simp;done)|(simp[*];done)),H',⟨by have:=HK1.out;omega⟩,a29_⟩
        ·replace c9:=Bool.eq_false_iff.mpr c9
         subst c9
         replace H:(some false)=some r:=by rw[if_neg (show ¬(false=true) by decide)]at H;exact H
         obtain rfl:=Option.some.inj H
         have p522:0≤(x13_1:Int):=of_decide_eq_true (a8_)
         have q522:x13_1<(l0.length:Int):=of_decide_eq_true (a8_)
         obtain⟨ad522,A522_0,c522_0,e522,hx522_0,hl522_0,hi522_0⟩:=at_L3 HR0.out x13_1 p522 q522
         cases e522
         have HR522_0:=am_ hi522_0
         have HC522_0:=am_ hl522_0
         clear hi522_0 hl522_0
         replace p522:=eq_true p522
         replace q522:=eq_true q522
         have p523:0≤(x13_1:Int):=of_decide_eq_true (a8_)
         have q523:x13_1<(l1.length:Int):=of_decide_eq_true (a8_)
         obtain⟨ad523,A523_0,c523_0,e523,hx523_0,hl523_0,hi523_0⟩:=at_L3 HR1.out x13_1 p523 q523
         cases e523
         have HR523_0:=am_ hi523_0
         have HC523_0:=am_ hl523_0
         clear hi523_0 hl523_0
         replace p523:=eq_true p523
         replace q523:=eq_true q523
         iterate 6 (go_wp2_with (first|(go_at_call 42;(with_reducible refine(laws_pSameHoles.calls k1 _ _ (rd_L3 l0 x13_1) _ _ (rd_L3 l1 x13_1) false _ ?side1 ?side2 ?side3 ?side4 A8.out).mono ?_);(case side1=>exact(a21_ HR522_0.out));(case side2=>exact HC522_0.out);(case side3=>exact(a21_ HR523_0.out));(case side4=>exact HC523_0.out);rintro e w' ⟨rfl,⟨nd,rfl⟩⟩;(try first|exact⟨rfl,_,World.drewN_drewN _ _ _⟩|exact⟨rfl,_,Eq.trans (World.drewN_drewN _ _ _) (congrArg (World.drewN _) (Nat.add_assoc _ _ _))⟩)));try go_quiet (first|(go_at_call 42;(with_reducible refine(laws_pSameHoles.calls k1 _ _ (rd_L3 l0 x13_1) _ _ (rd_L3 l1 x13_1) false _ ?side1 ?side2 ?side3 ?side4 A8.out).mono ?_);(case side1=>exact(a21_ HR522_0.out));(case side2=>exact HC522_0.out);(case side3=>exact(a21_ HR523_0.out));(case side4=>exact HC523_0.out);rintro e w' ⟨rfl,⟨nd,rfl⟩⟩;(try first|exact⟨rfl,_,World.drewN_drewN _ _ _⟩|exact⟨rfl,_,Eq.trans (World.drewN_drewN _ _ _) (congrArg (World.drewN _) (Nat.add_assoc _ _ _))⟩))))
         go_ret
         exact⟨by first | rfl|(simp;done)|(simp[*];done),a29_⟩
       ·rw[if_neg c7]at H
        exact absurd H (by simp)
      ·rw[if_neg c6]at H
       exact absurd H (by simp)
     ·rw[if_neg c5]at H
      exact absurd H (by simp)
    ·rw[if_neg c4]at H
     have c4b0:decide (x13_1<(l0.length:Int))=false:=decide_eq_false c4
     clear c4
     obtain rfl:=Option.some.inj H
     go_wp2
     repeat (go_quiet (fail);try go_wp2)
     go_ret
     exact⟨by first | rfl|(simp;done)|(simp[*];done),a29_⟩
 ·rw[if_neg c3]at H
  have c3b0:((l0.length:Int) == (l1.length:Int))=false:=beq_eq_false_iff_ne.mpr c3
  have c3b1:((l0.length:Int) != (l1.length:Int))=true:=bne_iff_ne.mpr c3
  have c3b2:(l0.length == l1.length)=false:=a49_
  obtain rfl:=Option.some.inj H
  go_enter Try.func19,Try.ntmps19
  go_wp2
  repeat (go_quiet (fail);try go_wp2)
  go_ret
  exact⟨by first | rfl|(simp;done)|(simp[*];done),a29_⟩

-- NOT PRINTED: function 116 (impl_Hole_116)

-- NOT PRINTED: function 104 (impl_Hole_104)

/-! ### impl_lessHoles: function 82 (by hand: a copy of the holes, those taken out that the closure tells) -/
def impl_lessHoles.same (x y:S42):Bool:=x.f0 == y.f0 && (x.f1 == y.f1 && (x.f2 == y.f2))
def impl_lessHoles.has (l:List S42) (x:S42):Bool:=l.any (impl_lessHoles.same x)
/-- What the closure tells of a hole: is it taken out. -/
def impl_lessHoles.out (l:List S42) (x:S42):Bool:=impl_lessHoles.has l x
def impl_lessHoles.f (l0 l1:List S42):Option (List S42):=if l0.length<1000000000 then some (l0.filter fun x=> !impl_lessHoles.out l1 x) else none
theorem impl_lessHoles.eqA (d:Nat) (w:World) (x0 x1 x2 y0 y1 y2:Int) :
 (Op.equalIn (d+2) 42 (.agg #[.int .i64 x0, .int .i64 x1, .int .i64 x2]) (.agg #[.int .i64 y0, .int .i64 y1, .int .i64 y2])).run Try.prog w = .ok (x0 == y0 && (x1 == y1 && (x2 == y2))) w:=by
 refine eqA_of Try.underlying42 (by kernel_rfl) ?_
 refine eqf_cons (by rfl) (by go_simp;rfl) (by go_simp;rfl) (by go_simp) ?_
 refine eqf_cons (by rfl) (by go_simp;rfl) (by go_simp;rfl) (by go_simp) ?_
 exact eqf_last (by rfl) (by go_simp;rfl) (by go_simp;rfl) (by go_simp)
attribute [local go_sem high] impl_lessHoles.eqA
theorem impl_lessHoles.step (l:List S42) (kk:Nat) (h:kk<l.length):l.drop kk=rd_T42 l (kk:Int) :: l.drop (kk+1):=by
 rw[List.drop_eq_getElem_cons h]
 congr 1
 simp[rd_T42,List.getD_eq_getElem?_getD,List.getElem?_eq_getElem h]
set_option maxHeartbeats 8000000 in
set_option maxRecDepth 100000 in
theorem impl_lessHoles.idx (A0:Option Addr) (c0:Nat) (l0:List S42) (x:S42) (w:World) (hr0:Kd.C k42 w A0 l0.length l0) :
 Calls Try.prog 117 #[.slice A0 l0.length c0, .agg #[.int .i64 x.f0, .int .i64 x.f1, .int .i64 x.f2]] w fun e w'=>∃r:Int,e = .returned (.int .i64 r)∧decide (0≤r)=impl_lessHoles.has l0 x∧Below w.heap.size w w':=by
 have HR0:=am_ hr0
 clear hr0
 have hmax:=HR0.out.2.1
 go_enter Try.func117,Try.ntmps117
 go_wp2
 (try simp only[Act.put,List.setIfInBounds_toArray,List.set_cons_zero,List.set_cons_succ])
 go_loopg [5,8] l0.length (fun gg _ s8 wr=>∃kk:Nat,kk≤l0.length∧l0.length-kk≤gg∧s8 = .int .i64 kk∧Aside0 (Below w.heap.size w wr)∧Aside0 (wr.cell? ⟨w.heap.size,0,none⟩=some (.int .i64 x.f0)∧wr.cell? ⟨w.heap.size,1,none⟩=some (.int .i64 x.f1)∧wr.cell? ⟨w.heap.size,2,none⟩=some (.int .i64 x.f2))∧Aside0 (impl_lessHoles.has l0 x=impl_lessHoles.has (l0.drop kk) x))
 case atStart=>exact⟨0,Nat.zero_le _,by omega,rfl,⟨below_alloc (Below.refl _ w) _⟩,⟨blk_cell (blk_new w _) 0,blk_cell (blk_new w _) 1,blk_cell (blk_new w _) 2⟩,⟨rfl⟩⟩
 case round=>
  obtain⟨kk,hkk,hg,rfl,HB,HC,HI⟩:=hrel
  obtain⟨hb0,hb1,hb2⟩:=HC.out
  by_cases hlt:kk<l0.length
  ·have hltz:(kk:Int)<(l0.length:Int):=by omega
   obtain⟨ad,e1,hx0,hx1,hx2⟩:=at_T42 HR0.out (kk:Int) (by omega) hltz
   cases e1
   simp only[Int.toNat_natCast]at hx0 hx1 hx2
   replace hx0:=(HB.out.cell (World.block_lt_of_cell? w _ hx0)).trans hx0
   replace hx1:=(HB.out.cell (World.block_lt_of_cell? w _ hx1)).trans hx1
   replace hx2:=(HB.out.cell (World.block_lt_of_cell? w _ hx2)).trans hx2
   cases hq:(x.f0 == (rd_T42 l0 (kk:Int)).f0 && (x.f1 == (rd_T42 l0 (kk:Int)).f1 && (x.f2 == (rd_T42 l0 (kk:Int)).f2))) with
   | true=>
    have HD:Aside0 (impl_lessHoles.has l0 x=true):=⟨by rw[HI.out,impl_lessHoles.step l0 kk hlt,impl_lessHoles.has,List.any_cons,impl_lessHoles.same,hq];rfl⟩
    clear HI
    go_wp2
    go_quiet (fail)
    go_wp2
    go_ret
    exact⟨_,rfl,by rw[HD.out];exact decide_eq_true (by omega),a0_⟩
   | false=>
    have HD:Aside0 (impl_lessHoles.has l0 x=impl_lessHoles.has (l0.drop (kk+1)) x):=⟨by rw[HI.out,impl_lessHoles.step l0 kk hlt,impl_lessHoles.has,List.any_cons,impl_lessHoles.same,hq];rfl⟩
    clear HI
    go_wp2
    go_quiet (fail)
    go_wp2
    go_roundg (l0.length-(kk+1))
    case measure=>omega
    case rel=>exact⟨kk+1,by omega,by omega,by go_num,⟨a0_⟩,⟨pw_cell_below (pw_below_drewN (Below.refl _ _) _) hb0,pw_cell_below (pw_below_drewN (Below.refl _ _) _) hb1,pw_cell_below (pw_below_drewN (Below.refl _ _) _) hb2⟩,HD⟩
  ·have hltz:¬(kk:Int)<(l0.length:Int):=by omega
   have hkl:kk=l0.length:=by omega
   have HD:Aside0 (impl_lessHoles.has l0 x=false):=⟨by rw[HI.out,hkl,List.drop_length];rfl⟩
   clear HI hkl
   go_wp2
   go_ret
   exact⟨_,rfl,by rw[HD.out];rfl,HB.out⟩
set_option maxHeartbeats 8000000 in
set_option maxRecDepth 100000 in
theorem impl_lessHoles.cont (A0:Option Addr) (c0:Nat) (l0:List S42) (x:S42) (w:World) (hr0:Kd.C k42 w A0 l0.length l0) :
 Calls Try.prog 106 #[.slice A0 l0.length c0, .agg #[.int .i64 x.f0, .int .i64 x.f1, .int .i64 x.f2]] w fun e w'=>e = .returned (.bool (impl_lessHoles.has l0 x))∧Below w.heap.size w w':=by
 have HR0:=am_ hr0
 clear hr0
 go_enter Try.func106,Try.ntmps106
 go_wp2_with (go_at_call 117;refine(impl_lessHoles.idx A0 c0 l0 x _ (Kd.C_below HR0.out (below_alloc (Below.refl _ _) _))).mono ?_;rintro e w' ⟨r,rfl,hr,hb⟩)
 go_ret
 exact⟨by rw[← hr];rfl,below_then (below_alloc (Below.refl _ _) _) (by simp) hb⟩
set_option maxHeartbeats 8000000 in
set_option maxRecDepth 100000 in
theorem impl_lessHoles.clo (B:Nat) (A1:Option Addr) (c1:Nat) (l1:List S42) (x:S42) (b:Bool) (W:World) (hB:B<W.heap.size) (hc:W.cell? ⟨B,0,none⟩=some (.slice A1 l1.length c1)) (hC:Kd.C k42 W A1 l1.length l1) (hb:impl_lessHoles.out l1 x=b) :
 Calls Try.prog 105 #[.agg #[.int .i64 x.f0, .int .i64 x.f1, .int .i64 x.f2], .pointer (some ⟨B,0,none⟩)] W fun e w'=>e = .returned (.bool b)∧Below W.heap.size W w':=by
 have hc2:∀o:Obj,(W.alloc o).cell? ⟨B,0,none⟩=some (.slice A1 l1.length c1):=fun o=>(World.cell?_alloc_lt _ _ _ hB).trans hc
 have HR:=am_ hC
 clear hC
 go_enter Try.func105,Try.ntmps105
 go_wp2_with (go_at_call 106;refine(impl_lessHoles.cont A1 c1 l1 x _ (Kd.C_below HR.out (below_alloc (Below.refl _ _) _))).mono ?_;rintro e w' ⟨rfl,hb'⟩)
 go_ret
 exact⟨by rw[← hb];rfl,below_then (below_alloc (Below.refl _ _) _) (by simp) hb'⟩
def impl_lessHoles.at (p:S42→Bool):Int→List S42→Int
 | _, []=> -1
 | i,x :: l=>if p x=true then i else impl_lessHoles.at p (i+1) l
theorem impl_lessHoles.at_spec (p:S42→Bool) (l:List S42):∀i:Int,(impl_lessHoles.at p i l = -1∧l.filter (fun x=> !p x)=l)∨∃pre x suf,l=pre ++ x :: suf∧impl_lessHoles.at p i l=i+pre.length∧pre.filter (fun x=> !p x)=pre∧p x=true:=by
 induction l with
 | nil=>intro i;exact .inl ⟨rfl,rfl⟩
 | cons x l ih=>
  intro i
  by_cases c:p x=true
  ·exact .inr ⟨[],x,l,rfl,by simp[impl_lessHoles.at,c],rfl,c⟩
  ·rcases ih (i+1) with ⟨h1,h2⟩ | ⟨pre,y,suf,h1,h2,h3,h4⟩
   ·exact .inl ⟨by rw[impl_lessHoles.at,if_neg c,h1],by rw[List.filter_cons_of_pos (by simpa using c),h2]⟩
   ·exact .inr ⟨x :: pre,y,suf,by rw[h1];rfl,by rw[impl_lessHoles.at,if_neg c,h2,List.length_cons];omega,by rw[List.filter_cons_of_pos (by simpa using c),h3],h4⟩
set_option maxHeartbeats 8000000 in
set_option maxRecDepth 100000 in
theorem impl_lessHoles.first(A0:Option Addr) (c0:Nat) (l0:List S42) (B:Nat) (A1:Option Addr) (c1:Nat) (l1:List S42) (w:World) (hB:B<w.heap.size) (hcB:w.cell? ⟨B,0,none⟩=some (.slice A1 l1.length c1)) (hr1:Kd.C k42 w A1 l1.length l1) (hr0:Kd.C k42 w A0 l0.length l0) :
 Calls Try.prog 116 #[.slice A0 l0.length c0, .func (.func 105) #[] #[.pointer (some ⟨B,0,none⟩)]] w fun e w'=>e = .returned (.int .i64 (impl_lessHoles.at (impl_lessHoles.out l1) 0 l0))∧Below w.heap.size w w':=by
 have HR0:=am_ hr0
 have HR1:=am_ hr1
 have HCB:=am_ hcB
 clear hr0 hr1 hcB
 have hmax:=HR0.out.2.1
 have eg:=enters_of (P:=Try.prog) Try.func105 (by kernel_rfl) rfl
 go_enter Try.func116,Try.ntmps116
 go_wp2
 (try simp only[Act.put,List.setIfInBounds_toArray,List.set_cons_zero,List.set_cons_succ])
 go_loopg [5,8] l0.length (fun gg _ s8 wr=>∃kk:Nat,kk≤l0.length∧l0.length-kk≤gg∧s8 = .int .i64 kk∧Aside0 (Below w.heap.size w wr)∧Aside0 (impl_lessHoles.at (impl_lessHoles.out l1) 0 l0=impl_lessHoles.at (impl_lessHoles.out l1) kk (l0.drop kk)))
 case atStart=>exact⟨0,Nat.zero_le _,by omega,rfl,⟨Below.refl _ w⟩,⟨rfl⟩⟩
 case round=>
  obtain⟨kk,hkk,hg,rfl,HB,HI⟩:=hrel
  by_cases hlt:kk<l0.length
  ·have hltz:(kk:Int)<(l0.length:Int):=by omega
   obtain⟨ad,e1,hx0,hx1,hx2⟩:=at_T42 HR0.out (kk:Int) (by omega) hltz
   cases e1
   simp only[Int.toNat_natCast]at hx0 hx1 hx2
   replace hx0:=(HB.out.cell (World.block_lt_of_cell? w _ hx0)).trans hx0
   replace hx1:=(HB.out.cell (World.block_lt_of_cell? w _ hx1)).trans hx1
   replace hx2:=(HB.out.cell (World.block_lt_of_cell? w _ hx2)).trans hx2
   have hdrop:=impl_lessHoles.step l0 kk hlt
   have hsz:w.heap.size≤wr.heap.size:=HB.out.size
   cases hq:impl_lessHoles.out l1 (rd_T42 l0 (kk:Int)) with
   | true=>
    have hcall:=impl_lessHoles.clo B A1 c1 l1 (rd_T42 l0 (kk:Int)) true wr (by omega) (pw_cell_below HB.out HCB.out) (Kd.C_below HR1.out HB.out) hq
    have HD:Aside0 (impl_lessHoles.at (impl_lessHoles.out l1) 0 l0=(kk:Int)):=⟨by rw[HI.out,hdrop];simp only[impl_lessHoles.at];rw[if_pos hq]⟩
    clear hq hdrop HI
    go_wp2_with (go_at_call 105;refine hcall.mono ?_;rintro e w' ⟨rfl,hb'⟩)
    go_ret
    exact⟨by rw[HD.out];rfl,below_then HB.out hsz hb'⟩
   | false=>
    have hcall:=impl_lessHoles.clo B A1 c1 l1 (rd_T42 l0 (kk:Int)) false wr (by omega) (pw_cell_below HB.out HCB.out) (Kd.C_below HR1.out HB.out) hq
    have HD:Aside0 (impl_lessHoles.at (impl_lessHoles.out l1) 0 l0=impl_lessHoles.at (impl_lessHoles.out l1) ((kk+1:Nat):Int) (l0.drop (kk+1))):=⟨by rw[HI.out,hdrop];simp only[impl_lessHoles.at];rw[if_neg (by rw[hq];decide)];simp⟩
    clear hq hdrop HI
    go_wp2_with (go_at_call 105;refine hcall.mono ?_;rintro e w' ⟨rfl,hb'⟩)
    go_roundg (l0.length-(kk+1))
    case measure=>omega
    case rel=>exact⟨kk+1,by omega,by omega,by go_num,⟨below_then HB.out hsz hb'⟩,HD⟩
  ·have hltz:¬(kk:Int)<(l0.length:Int):=by omega
   have hkl:kk=l0.length:=by omega
   have HD:Aside0 (impl_lessHoles.at (impl_lessHoles.out l1) 0 l0 = -1):=⟨by rw[HI.out,hkl,List.drop_length];rfl⟩
   clear HI hkl
   go_wp2
   go_ret
   exact⟨by rw[HD.out];rfl,HB.out⟩
/-- The tail is cleared: zero cells are written, whatever they are. -/
theorem impl_lessHoles.clear (W:World) (g o n c:Nat) (hn:0<n) (hc:∀j,j<n*3→(W.cell? ⟨g,o+j,none⟩).isSome=true) (hf:∀j,j<n*3→W.frozen? ⟨g,o+j,none⟩=false) :
 ∃zs:List Value,zs.length=n*3∧∀ty,(Builtin.clear_ #[32] ty #[.slice (some ⟨g,o,none⟩) n c]).run Try.prog W = .ok (.tuple #[]) (W.setCells g o zs):=by
 have hv:∀w,(zeroValue 42).run Try.prog w = .ok (.agg #[(.int .i64 0),(.int .i64 0),(.int .i64 0)]) w:=by intro w;go_simp
 have hl:(Builtin.zeroCells (Value.cells (.agg #[(.int .i64 0),(.int .i64 0),(.int .i64 0)])) n).toList.length=n*3:=by simp[Builtin.zeroCells,Value.cells]
 have h1:∀v∈(Builtin.zeroCells (Value.cells (.agg #[(.int .i64 0),(.int .i64 0),(.int .i64 0)])) n).toList,v.oneCell'=true:=by
  intro v hv'
  simp only[Builtin.zeroCells,Array.toList_map,List.mem_map]at hv'
  obtain⟨i,_,rfl⟩:=hv'
  have hs:(Value.cells (.agg #[(.int .i64 0),(.int .i64 0),(.int .i64 0)])).size=3:=rfl
  rw[hs]
  rcases (show i % 3=0∨i % 3=1∨i % 3=2 by omega) with h | h | h<;>rw[h]<;>rfl
 have hst:=run_storeCells_cells (P:=Try.prog) g o (Builtin.zeroCells (Value.cells (.agg #[(.int .i64 0),(.int .i64 0),(.int .i64 0)])) n).toList 0 W (by simpa only[hl,Nat.add_zero] using hc) (by simpa only[hl,Nat.add_zero] using hf) h1
 simp only[Nat.add_zero]at hst
 refine⟨_,hl,fun ty=>?_⟩
 obtain⟨m,rfl⟩:∃m,n=m+1:=⟨n-1,by omega⟩
 simp[Builtin.clear_,run_underlying Try.underlying32,hv,hst]
/-- What stands behind the first i elements may be written over: the first i are a row still. -/
theorem impl_lessHoles.cut (W:World) (base g n cap i:Nat) (ys:List S42) (zs:List Value) (HO:Kd.R k42 42 W base (fun _=>True) (.slice (some ⟨g,0,none⟩) n cap) ys) (hi:i≤n) (hz:i*3+zs.length≤cap*3) :
 Kd.R k42 42 (W.setCells g (i*3) zs) base (fun _=>True) (.slice (some ⟨g,0,none⟩) i cap) (ys.take i):=by
 have hn:=(Kd.R_reads' HO).1
 obtain⟨hok,inner,hown,hr⟩:=Kd.R_take (m:=i) HO (by omega)
 have hsz:(k42).sz=3:=rfl
 have hlt:(ys.take i).length=i:=by rw[List.length_take];omega
 rcases hown.2 with ⟨hv,_⟩ | ⟨g',cap',cur,hv,hb,hh,hnc,hcm,hcs,htake⟩
 ·cases hv
 injection hv with ha _ hc
 injection ha with ha
 injection ha with hg
 subst hg;subst hc
 rw[hsz]at hcs htake
 obtain⟨cur',h3,h4,h5⟩:=setCells_row zs (i*3) W cur hh (by omega)
 have hfar:∀k',k'≠g→(W.setCells g (i*3) zs).heap[k']? = W.heap[k']? := fun k' hk'=>setCells_far zs _ k' hk'
 refine⟨hok,inner,⟨hown.1, .inr ⟨g,cap,cur',by rw[hlt],hb,h3,hnc,hcm,by rw[h4,hcs,hsz],?_⟩⟩,hr.imp_ (fun p q hp=>Kd.M_move _ (fun k' hk'=>hfar k' (fun he=>hk'.2 (by rw[he];simp[Value.ownBlock]))) hp)⟩
 rw[hsz,hlt,h5]
 rw[hlt]at htake
 rw[← htake,List.append_assoc,List.take_append_of_le_length (by rw[List.length_take,Array.length_toList];omega)]
 rw[List.take_take,Nat.min_self]
theorem impl_lessHoles.takeset (ys:List S42) (i:Nat) (y:S42) (h:i<ys.length):(ys.set i y).take (i+1)=ys.take i ++ [y]:=by
 obtain⟨pre,x,suf,rfl,rfl⟩:∃pre x suf,ys=pre ++ x :: suf∧pre.length=i:=⟨ys.take i,ys[i],ys.drop (i+1),by simp,by simp;omega⟩
 rw[List.set_append_right _ _ (Nat.le_refl _)]
 rw[List.take_append,List.take_of_length_le (by omega),List.take_left]
 simp
set_option maxHeartbeats 2000000 in
set_option maxRecDepth 100000 in
theorem impl_lessHoles.del (B:Nat) (A1:Option Addr) (c1:Nat) (l1:List S42) (w1:World) (hB:B<w1.heap.size) (hcB:w1.cell? ⟨B,0,none⟩=some (.slice A1 l1.length c1)) (hr1:Kd.C k42 w1 A1 l1.length l1) (W:World) (v:Value) (xs:List S42)
 (hO:Kd.R k42 42 W w1.heap.size (fun _=>True) v xs) (hBW:Below w1.heap.size w1 W) :
 Calls Try.prog 104 #[v, .func (.func 105) #[] #[.pointer (some ⟨B,0,none⟩)]] W fun e w'=>∃v0,e = .returned v0∧Kd.R k42 42 w' w1.heap.size (fun _=>True) v0 (xs.filter fun x=> !impl_lessHoles.out l1 x)∧Below w1.heap.size w1 w':=by
 obtain⟨A0,c0,rfl,hc0,hC0⟩:=Kd.R_reads hO
 have hlt1:w1.heap.size≤W.heap.size:=hBW.size
 have HR1:=am_ hr1
 have HCB:=am_ hcB
 have HO:=am_ hO
 have HB:=am_ hBW
 have hmax:=hC0.2.1
 have eg:=enters_of (P:=Try.prog) Try.func105 (by kernel_rfl) rfl
 have hcall:=impl_lessHoles.first A0 c0 xs B A1 c1 l1 W (by omega) (pw_cell_below hBW hcB) (Kd.C_below hr1 hBW) hC0
 clear hcB hr1 hO hBW hC0
 rcases impl_lessHoles.at_spec (impl_lessHoles.out l1) xs 0 with ⟨h1,h2⟩ | ⟨pre,x0,suf,h1,h2,h3,h4⟩
 ·rw[h1]at hcall
  have HF:=am_ h2
  clear h1 h2
  go_enter Try.func104,Try.ntmps104
  go_wp2_with (go_at_call 116;refine hcall.mono ?_;rintro e w' ⟨rfl,hb'⟩)
  go_ret
  exact⟨_,rfl,by rw[HF.out];exact Kd.R_below HO.out hb',below_step HB.out hb'⟩
 ·rw[h2,Int.zero_add]at hcall
  have hxl:xs.length=pre.length+(suf.length+1):=by rw[h1];simp
  have HF:=am_ h1
  have HF3:=am_ h3
  have HF4:=am_ h4
  clear h1 h2 h3 h4
  obtain⟨g,cap,eq1,hbase,hglt,hcap⟩:=Kd.R_form HO.out (by omega)
  obtain⟨rfl,rfl⟩:A0=some ⟨g,0,none⟩∧c0=cap:=by injection eq1 with e1 e2 e3;exact⟨e1,e3⟩
  clear eq1
  have HXL:=am_ hxl
  have hw1:wrap64 ((pre.length:Int)+1)=((pre.length+1:Nat):Int):=by unfold wrap64;omega
  have HW1:=am_ hw1
  clear hxl hw1
  have hne1:((pre.length:Int) == -1)=false:=beq_eq_false_iff_ne.2 (by omega)
  go_enter Try.func104,Try.ntmps104
  go_wp2_with (go_at_call 116;refine hcall.mono ?_;rintro e w2 ⟨rfl,hb'⟩;have n0_:=am_ (Kd.R_below HO.out hb');have n1_:=am_ (below_step HB.out hb');clear HO HB hb' hcall;have HO:=n0_;have HB:=n1_;clear n0_ n1_)
  (try simp only[Act.put,List.setIfInBounds_toArray,List.set_cons_zero,List.set_cons_succ])
  go_loopg [5,6,7] xs.length (fun gg s5 s6 _ wr=>∃(i j:Nat) (ys:List S42),s5 = .int .i64 i∧s6 = .int .i64 j∧i<j∧j≤xs.length∧xs.length-j≤gg∧ys.length=xs.length∧Aside0 (ys.take i=(xs.take j).filter fun x=> !impl_lessHoles.out l1 x)∧Aside0 (ys.drop j=xs.drop j)∧Aside0 (Kd.R k42 42 wr w1.heap.size (fun _=>True) (.slice (some ⟨g,0,none⟩) xs.length c0) ys)∧Aside0 (Below w1.heap.size w1 wr))
  case atStart=>have hxl:=HXL.out;exact⟨pre.length,pre.length+1,xs,rfl,by first|(rw[HW1.out];done)|(simp only[HW1.out];done) | go_num,by omega,by omega,by omega,rfl,⟨by rw[HF.out,List.take_left,List.take_append,List.take_of_length_le (by omega)];simp[HF3.out,HF4.out]⟩,⟨rfl⟩,HO,HB⟩
  case round=>
   obtain⟨i,j,ys,rfl,rfl,hij,hjn,hgg,hyl,HT,HD,HO,HB⟩:=hrel
   have hsz:w1.heap.size≤wr.heap.size:=HB.out.size
   by_cases hlt:j<xs.length
   ·have hltz:(j:Int)<(xs.length:Int):=by omega
    have hiz:(i:Int)<(xs.length:Int):=by omega
    obtain⟨ce,hcl,hM,hcc,hfr⟩:=Kd.R_elem HO.out z42 (j:Int) (by omega) (by omega)
    obtain rfl:=k42_openM hM
    have hx0:=hcc 0 _ rfl
    have hx1:=hcc 1 _ rfl
    have hx2:=hcc 2 _ rfl
    clear hcl hM hcc hfr
    simp only[Int.toNat_natCast,show(k42).sz=3 from rfl,Nat.add_zero]at hx0 hx1 hx2
    obtain⟨y,hy⟩:∃y,y=ys.getD j z42:=⟨_,rfl⟩
    rw[← hy]at hx0 hx1 hx2
    have hyx:xs.drop j=y :: xs.drop (j+1):=by
     rw[← HD.out,List.drop_eq_getElem_cons (by omega),hy]
     have e1:ys.drop (j+1)=xs.drop (j+1):=by
      have:=congrArg (List.drop 1) HD.out
      rwa [List.drop_drop,List.drop_drop]at this
     rw[e1,List.getD_eq_getElem?_getD,List.getElem?_eq_getElem (by omega)];rfl
    have hD1:ys.drop (j+1)=xs.drop (j+1):=by
     have:=congrArg (List.drop 1) HD.out
     rwa [List.drop_drop,List.drop_drop]at this
    have hT1:xs.take (j+1)=xs.take j ++ [y]:=by
     have e2:xs[j]? = some y:=by
      have:=congrArg (fun q=>q[0]?) hyx
      simpa using this
     rw[List.take_add_one,e2];rfl
    have HYX:=am_ hT1
    have HD1:=am_ hD1
    clear hy hyx hT1 hD1
    have hB3:B<wr.heap.size:=by omega
    have hw1:wrap64 ((j:Int)+1)=((j+1:Nat):Int):=by unfold wrap64;omega
    have hw2:wrap64 ((i:Int)+1)=((i+1:Nat):Int):=by unfold wrap64;omega
    have HW1:=am_ hw1
    have HW2:=am_ hw2
    clear hw1 hw2
    cases hq:impl_lessHoles.out l1 y with
    | true=>
     have HQ:=am_ hq
     clear hq
     go_wp2_with (first
      |((with_reducible refine gate_dst (N:=7) rfl ?_);refine box_event ?hg (N:=7) ?hd (cs:= #[.int .i64 0, .int .i64 0, .int .i64 0]) (t:=42) ?hr ?_;(case hd=>rfl);(case hg=>rfl);(case hr=>exact hr_);intro gb hgb w2 hbox hb;have n0_:=am_ (Kd.R_below (Kd.R_elderB HO.out gb (Nat.le_of_eq hgb.symm)) hb);have n1_:=am_ (below_step HB.out hb);have BK:=am_ hbox;have GB:=am_ (show w1.heap.size≤gb by rw[hgb];exact HB.out.size);have GW:=am_ (show B<w2.heap.size from Nat.lt_of_lt_of_le hB3 hb.size);clear HO HB;have HO:=n0_;have HB:=n1_;clear n0_ n1_ hb hbox hgb hB3 hx0 hx1 hx2;have hcz0:w2.cell? ⟨gb,0,none⟩=some (.int .i64 0):=(blk_cell BK.out 0).trans rfl;have hcz1:w2.cell? ⟨gb,1,none⟩=some (.int .i64 0):=(blk_cell BK.out 1).trans rfl;have hcz2:w2.cell? ⟨gb,2,none⟩=some (.int .i64 0):=(blk_cell BK.out 2).trans rfl;have hfz0:=blk_frozen BK.out 0;have hfz1:=blk_frozen BK.out 1;have hfz2:=blk_frozen BK.out 2)
      |((with_reducible refine gate_store (t:=42) (p:=7) rfl ?_);refine store_event (t:=42) (p:=7) (v:=?vo_w3) (w1:=(((w2.setCell ⟨gb,0,none⟩ (.int .i64 y.f0)).setCell ⟨gb,1,none⟩ (.int .i64 y.f1)).setCell ⟨gb,2,none⟩ (.int .i64 y.f2))) ?hg ?ho ?hn ?hr ?_;(case ho=>rfl);(case hg=>rfl);(case hn=>rfl);(case hr=>exact hr_);intro w3 hw;have BK3:Aside0 (w3.heap[gb]? = some (.cells #[.int .i64 y.f0, .int .i64 y.f1, .int .i64 y.f2] 42 (0,0))):=⟨by rw[hw];exact(blk_set (blk_set (blk_set BK.out 0 _) 1 _) 2 _).trans rfl⟩;have n0_:=am_ (show Kd.R k42 42 w3 w1.heap.size (fun k=>True∧k≠gb) (.slice (some ⟨g,0,none⟩) xs.length c0) ys from by rw[hw];exact Kd.R_far (Kd.R_far (Kd.R_far HO.out (p:=⟨gb,0,none⟩) (fun k hk=>hk.2) _) (p:=⟨gb,1,none⟩) (fun k hk=>hk.2) _) (p:=⟨gb,2,none⟩) (fun k hk=>hk.2) _);have n1_:=am_ (show Below w1.heap.size w1 w3 from by rw[hw];exact below_set (below_set (below_set HB.out GB.out) GB.out) GB.out);have GW3:=am_ (show B<w3.heap.size from Nat.lt_of_lt_of_le hB n1_.out.size);clear HO HB BK GW;have HO:=n0_;have HB:=n1_;clear n0_ n1_ hw hcz0 hcz1 hcz2 hfz0 hfz1 hfz2;have hv0:w3.cell? ⟨gb,0,none⟩=some (.int .i64 y.f0):=(blk_cell BK3.out 0).trans rfl;have hv1:w3.cell? ⟨gb,1,none⟩=some (.int .i64 y.f1):=(blk_cell BK3.out 1).trans rfl;have hv2:w3.cell? ⟨gb,2,none⟩=some (.int .i64 y.f2):=(blk_cell BK3.out 2).trans rfl)
      |(go_at_call 105;refine(impl_lessHoles.clo B A1 c1 l1 y true _ GW3.out (pw_cell_below HB.out HCB.out) (Kd.C_below HR1.out HB.out) HQ.out).mono ?_;rintro e w4 ⟨rfl,hb4⟩;have n0_:=am_ (Kd.R_below HO.out hb4);have n1_:=am_ (below_step HB.out hb4);clear HO HB;have HO:=n0_;have HB:=n1_;clear n0_ n1_ hb4 hv0 hv1 hv2))
     go_roundg (xs.length-(j+1))
     case measure=>omega
     case rel=>exact⟨i,j+1,ys,rfl,by first|(rw[HW1.out];done)|(simp only[HW1.out];done) | go_num,by omega,by omega,Nat.le_refl _,hyl,⟨by rw[HYX.out,List.filter_append, ← HT.out];simp[HQ.out]⟩,HD1,⟨Kd.R_mono HO.out (fun _ _=>trivial)⟩,HB⟩
    | false=>
     have HQ:=am_ hq
     clear hq
     go_wp2_with (first
      |((with_reducible refine gate_dst (N:=7) rfl ?_);refine box_event ?hg (N:=7) ?hd (cs:= #[.int .i64 0, .int .i64 0, .int .i64 0]) (t:=42) ?hr ?_;(case hd=>rfl);(case hg=>rfl);(case hr=>exact hr_);intro gb hgb w2 hbox hb;have n0_:=am_ (Kd.R_below (Kd.R_elderB HO.out gb (Nat.le_of_eq hgb.symm)) hb);have n1_:=am_ (below_step HB.out hb);have BK:=am_ hbox;have GB:=am_ (show w1.heap.size≤gb by rw[hgb];exact HB.out.size);have GW:=am_ (show B<w2.heap.size from Nat.lt_of_lt_of_le hB3 hb.size);clear HO HB;have HO:=n0_;have HB:=n1_;clear n0_ n1_ hb hbox hgb hB3 hx0 hx1 hx2;have hcz0:w2.cell? ⟨gb,0,none⟩=some (.int .i64 0):=(blk_cell BK.out 0).trans rfl;have hcz1:w2.cell? ⟨gb,1,none⟩=some (.int .i64 0):=(blk_cell BK.out 1).trans rfl;have hcz2:w2.cell? ⟨gb,2,none⟩=some (.int .i64 0):=(blk_cell BK.out 2).trans rfl;have hfz0:=blk_frozen BK.out 0;have hfz1:=blk_frozen BK.out 1;have hfz2:=blk_frozen BK.out 2)
      |((with_reducible refine gate_store (t:=42) (p:=7) rfl ?_);refine store_event (t:=42) (p:=7) (v:=?vo_w3) (w1:=(((w2.setCell ⟨gb,0,none⟩ (.int .i64 y.f0)).setCell ⟨gb,1,none⟩ (.int .i64 y.f1)).setCell ⟨gb,2,none⟩ (.int .i64 y.f2))) ?hg ?ho ?hn ?hr ?_;(case ho=>rfl);(case hg=>rfl);(case hn=>rfl);(case hr=>exact hr_);intro w3 hw;have BK3:Aside0 (w3.heap[gb]? = some (.cells #[.int .i64 y.f0, .int .i64 y.f1, .int .i64 y.f2] 42 (0,0))):=⟨by rw[hw];exact(blk_set (blk_set (blk_set BK.out 0 _) 1 _) 2 _).trans rfl⟩;have n0_:=am_ (show Kd.R k42 42 w3 w1.heap.size (fun k=>True∧k≠gb) (.slice (some ⟨g,0,none⟩) xs.length c0) ys from by rw[hw];exact Kd.R_far (Kd.R_far (Kd.R_far HO.out (p:=⟨gb,0,none⟩) (fun k hk=>hk.2) _) (p:=⟨gb,1,none⟩) (fun k hk=>hk.2) _) (p:=⟨gb,2,none⟩) (fun k hk=>hk.2) _);have n1_:=am_ (show Below w1.heap.size w1 w3 from by rw[hw];exact below_set (below_set (below_set HB.out GB.out) GB.out) GB.out);have GW3:=am_ (show B<w3.heap.size from Nat.lt_of_lt_of_le hB n1_.out.size);clear HO HB BK GW;have HO:=n0_;have HB:=n1_;clear n0_ n1_ hw hcz0 hcz1 hcz2 hfz0 hfz1 hfz2;have hv0:w3.cell? ⟨gb,0,none⟩=some (.int .i64 y.f0):=(blk_cell BK3.out 0).trans rfl;have hv1:w3.cell? ⟨gb,1,none⟩=some (.int .i64 y.f1):=(blk_cell BK3.out 1).trans rfl;have hv2:w3.cell? ⟨gb,2,none⟩=some (.int .i64 y.f2):=(blk_cell BK3.out 2).trans rfl)
      |(go_at_call 105;refine(impl_lessHoles.clo B A1 c1 l1 y false _ GW3.out (pw_cell_below HB.out HCB.out) (Kd.C_below HR1.out HB.out) HQ.out).mono ?_;rintro e w4 ⟨rfl,hb4⟩;have n0_:=am_ (Kd.R_below HO.out hb4);have n1_:=am_ (below_step HB.out hb4);clear HO HB;have HO:=n0_;have HB:=n1_;clear n0_ n1_;replace hv0:=pw_cell_below hb4 hv0;replace hv1:=pw_cell_below hb4 hv1;replace hv2:=pw_cell_below hb4 hv2;clear hb4;obtain⟨ce,hcl,hM,hcc,hfr⟩:=Kd.R_elem HO.out z42 (i:Int) (Int.natCast_nonneg i) hiz;obtain rfl:=k42_openM hM;have HP:=am_ (Kd.R_seg (Kd.R_mono HO.out (ok':=fun _=>True) (fun _ _=>trivial)) (i:Int) (Int.natCast_nonneg i) hiz (seg:=[.int .i64 y.f0, .int .i64 y.f1, .int .i64 y.f2]) (j:=0) hcl hcc (show 3≤3 from by decide) (x':=y) (okp:=fun k=>True∧k≠g) (k42_mkM _ _ _ y) (fun _ hk=>hk));have he0:=hcc 0 _ rfl;have he1:=hcc 1 _ rfl;have he2:=hcc 2 _ rfl;have hf0:=hfr 0;have hf1:=hfr 1;have hf2:=hfr 2;clear hcl hM hcc hfr;simp only[Int.toNat_natCast,show(k42).sz=3 from rfl,Nat.add_zero]at he0 he1 he2 hf0 hf1 hf2)
      |((with_reducible refine gate_store (t:=42) (p:=33) rfl ?_);refine store_event (t:=42) (p:=33) (v:=?vo_w5) (w1:=(((w4.setCell ⟨g,i*3,none⟩ (.int .i64 y.f0)).setCell ⟨g,i*3+1,none⟩ (.int .i64 y.f1)).setCell ⟨g,i*3+2,none⟩ (.int .i64 y.f2))) ?hg ?ho ?hn ?hr ?_;(case ho=>rfl);(case hg=>rfl);(case hn=>rfl);(case hr=>exact hr_);intro w5 hw;have n0_:=am_ (show Kd.R k42 42 w5 w1.heap.size (fun _=>True) (.slice (some ⟨g,0,none⟩) xs.length c0) (ys.set i y) from by rw[hw];exact HP.out.1);have n1_:=am_ (show Below w1.heap.size w1 w5 from by rw[hw];exact below_set (below_set (below_set HB.out hbase) hbase) hbase);clear HO HB HP;have HO:=n0_;have HB:=n1_;clear n0_ n1_ hw he0 he1 he2 hf0 hf1 hf2 hv0 hv1 hv2))
     go_roundg (xs.length-(j+1))
     case measure=>omega
     case rel=>exact⟨i+1,j+1,ys.set i y,by first|(rw[HW2.out];done)|(simp only[HW2.out];done) | go_num,by first|(rw[HW1.out];done)|(simp only[HW1.out];done) | go_num,by omega,by omega,Nat.le_refl _,by rw[List.length_set];exact hyl,⟨by rw[HYX.out,List.filter_append, ← HT.out,impl_lessHoles.takeset ys i y (by omega)];simp[HQ.out]⟩,⟨by rw[List.drop_set_of_lt (by omega)];exact HD1.out⟩,HO,HB⟩
   ·obtain rfl:j=xs.length:=by omega
    have hltz:¬(xs.length:Int)<(xs.length:Int):=by omega
    have hn0:0<xs.length-i:=by omega
    have hic:i≤c0:=by omega
    have hicz:(i:Int)≤(c0:Int):=by omega
    have hinz:(i:Int)≤(xs.length:Int):=by omega
    have hne2:¬c0=i:=by omega
    obtain⟨cur,hcur,hcs⟩:∃cur,wr.heap[g]? = some (.cells cur 42 (0,0))∧cur.size=c0*3:=by
     obtain⟨_,inner,hown,_⟩:=HO.out
     rcases hown.2 with ⟨hv,_⟩ | ⟨g',cap',cur,hv,hb,hh,hnc,hcm,hcs,htake⟩
     ·cases hv
     injection hv with ha _ hc
     injection ha with ha
     injection ha with hg
     subst hg;subst hc
     exact⟨cur,hh,hcs⟩
    obtain⟨zs,hzl,hcl⟩:=impl_lessHoles.clear wr g (i*3) (xs.length-i) (c0-i) hn0 (fun q hq=>by rw[blk_cell hcur,Array.getElem?_eq_getElem (by omega)];rfl) (fun q hq=>blk_frozen hcur _)
    have hz2:i*3+zs.length≤c0*3:=by omega
    have HX:=am_ (impl_lessHoles.cut wr w1.heap.size g xs.length c0 i ys zs HO.out (by omega) hz2)
    have HBX:Aside0 (Below w1.heap.size w1 (wr.setCells g (i*3) zs)):=⟨by
     obtain⟨s1,s2,s3,s4⟩:=setCells_same g zs (i*3) wr
     exact pw_below_grown HB.out (some g) hsz ⟨s1,s2,s3,by rw[s4];exact Nat.le_refl _,fun k _ hk=>setCells_far _ _ k (fun he=>hk (by rw[he]))⟩ (fun k hk=>by injection hk with hk;rw[← hk];exact hbase)⟩
    have HTX:Aside0 (ys.take i=xs.filter fun x=> !impl_lessHoles.out l1 x):=⟨by rw[HT.out,List.take_length]⟩
    clear HT HD hcur hcs hzl hz2
    go_wp2
    go_ret
    exact⟨_,rfl,by rw[← HTX.out];exact HX.out,HBX.out⟩
set_option maxHeartbeats 4000000 in
set_option maxRecDepth 100000 in
theorem impl_lessHoles.calls (A0:Option Addr) (c0:Nat) (l0:List S42) (A1:Option Addr) (c1:Nat) (l1:List S42) (r:List S42) (w:World) (hr0:Kd.C k42 w A0 l0.length l0) (hc0:l0.length≤c0) (hr1:Kd.C k42 w A1 l1.length l1) (hc1:l1.length≤c1) (h:impl_lessHoles.f l0 l1=some r) :
 Calls Try.prog 82 #[.slice A0 l0.length c0, .slice A1 l1.length c1] w fun e w'=>∃v0_:Value,e = .returned (v0_)∧Kd.R k42 42 w' w.heap.size (fun _=>True) v0_ r∧Below w.heap.size w w':=by
 unfold impl_lessHoles.f at h
 by_cases hlen:l0.length<1000000000
 ·rw[if_pos hlen]at h
  obtain rfl:=Option.some.inj h
  have hcl:impl_Hole_66.f l0=some l0:=if_pos hlen
  clear h hlen
  have HR0:=am_ hr0
  have HR1:=am_ hr1
  have HC0:=am_ hc0
  have HCL:=am_ hcl
  clear hr0 hr1 hc0 hc1 hcl
  have HB:=am_ (Below.refl w.heap.size w)
  go_enter Try.func82,Try.ntmps82
  go_wp2_with (first
   |(go_at_call 66;refine(impl_Hole_66.calls A0 c0 l0 l0 _ (Kd.C_below HR0.out (below_alloc (Below.refl _ _) _)) HC0.out HCL.out).mono ?_;rintro e w2 ⟨v2,rfl,ho,hb⟩;have HO:=am_ ho;have HB2:=am_ hb;clear ho hb)
   |(go_at_call 104;refine(impl_lessHoles.del w.heap.size A1 c1 l1 (w.alloc _) (by simp) (blk_cell (blk_new w _) 0) (Kd.C_below HR1.out (below_alloc (Below.refl _ _) _)) w2 v2 l0 HO.out HB2.out).mono ?_;rintro e w3 ⟨v3,rfl,ho,hb⟩;have HO3:=am_ ho;have HB3:=am_ hb;clear ho hb))
  go_ret
  exact⟨_,rfl,Kd.R_lower HO3.out (by simp),below_then (below_alloc (Below.refl _ _) _) (by simp) HB3.out⟩
 ·rw[if_neg hlen]at h
  exact absurd h (by simp)


/-! ### impl_distanceOf: function 68 -/
def impl_distanceOf.f (l0:List (S42)) (l1:List (S42)):Option (Int):=(impl_lessHoles.f l0 l1).bind fun t525=>((impl_lessHoles.f l1 l0).bind fun t528=>(some (wrap64 ((t525.length:Int)+(t528.length:Int)))))
set_option maxHeartbeats 8000000 in
set_option maxRecDepth 100000 in
theorem impl_distanceOf.calls (A0:Option Addr) (c0:Nat) (l0:List (S42)) (A1:Option Addr) (c1:Nat) (l1:List (S42)) (r:Int) (w:World) (hr0:Kd.C k42 w A0 l0.length l0) (hc0:l0.length≤c0) (hr1:Kd.C k42 w A1 l1.length l1) (hc1:l1.length≤c1) (h:impl_distanceOf.f l0 l1=some r) :
 Calls Try.prog 68 #[.slice A0 l0.length c0, .slice A1 l1.length c1] w fun e w'=>e = .returned (.int .i64 r)∧Below w.heap.size w w':=by
 have HR0:=am_ hr0
 have HC0:=am_ hc0
 clear hr0 hc0
 have HR1:=am_ hr1
 have HC1:=am_ hc1
 clear hr1 hc1
 have HB:=am_ (Below.refl w.heap.size w)
 have H:((impl_lessHoles.f l0 l1).bind fun t525=>((impl_lessHoles.f l1 l0).bind fun t528=>(some (wrap64 ((t525.length:Int)+(t528.length:Int))))))=some r:=h
 clear h
 obtain⟨t525,A3,H⟩:=bo_ H
 try dsimp only at H
 obtain⟨t528,A4,H⟩:=bo_ H
 try dsimp only at H
 obtain rfl:=Option.some.inj H
 go_enter Try.func68,Try.ntmps68
 go_wp2_with (first|((with_reducible refine gate_callee (f:=82) rfl ?_);refine goesL_ (some 7) rfl rfl Try.func82 (by kernel_rfl) rfl #[.slice A0 l0.length c0, .slice A1 l1.length c1] rfl gd_ ?_;(with_reducible refine(impl_lessHoles.calls _ _ l0 _ _ l1 t525 _ ?side1 ?side2 ?side3 ?side4 A3.out).mono ?_);(case side1=>exact(a21_ HR0.out));(case side2=>exact HC0.out);(case side3=>exact(a21_ HR1.out));(case side4=>exact HC1.out);rintro e w5 ⟨v526,rfl,ho0,hb⟩;refine⟨_,rfl,?_⟩;have HO527:=am_ (Kd.R_lower ho0 (below_size (a0_)));replace HB:=am_ (below_step (a0_) hb);(try clear hb);(try clear hb2);(try clear hk);(try clear hi);(try clear ho0);obtain⟨Ao6,co6,eo6⟩:=Kd.R_slice HO527.out;subst eo6)|((with_reducible refine gate_callee (f:=82) rfl ?_);refine goesL_ (some 11) rfl rfl Try.func82 (by kernel_rfl) rfl #[.slice A1 l1.length c1, .slice A0 l0.length c0] rfl gd_ ?_;(with_reducible refine(impl_lessHoles.calls _ _ l1 _ _ l0 t528 _ ?side1 ?side2 ?side3 ?side4 A4.out).mono ?_);(case side1=>exact(a13_ HR1.out));(case side2=>exact HC1.out);(case side3=>exact(a13_ HR0.out));(case side4=>exact HC0.out);rintro e w7 ⟨v529,rfl,ho0,hb⟩;refine⟨_,rfl,?_⟩;have HO530:=am_ (Kd.R_lower (Kd.R_new' ho0 (Kd.R_lt ((a1_ HO527.out)))) (below_size (a0_)));replace HO527:=am_ (Kd.R_elder' ((a1_ HO527.out)) (Kd.R_base ho0) hb);replace HB:=am_ (below_step (a0_) hb);(try clear hb);(try clear hb2);(try clear hk);(try clear hi);(try clear ho0);obtain⟨Ao8,co8,eo8⟩:=Kd.R_slice HO530.out;subst eo8))
 go_ret
 exact⟨a9_,a0_⟩

/-! ### impl_DistanceOf: function 20 -/
def impl_DistanceOf.f (k:Nat) (l0:List (S42)) (l1:List (S42)):Option (Int×Bool):=(impl_IsSheet.f k l0).bind fun t531=>(if t531=true then((impl_IsSheet.f k l1).bind fun t532=>(if t532=true then((impl_distanceOf.f l0 l1).bind fun t533=>(some (t533,true))) else(some (0,false)))) else(some (0,false)))
theorem impl_DistanceOf.mono:∀a0 a1 k,LeO (impl_DistanceOf.f k a0 a1) (impl_DistanceOf.f (k+1) a0 a1):=by
 intro a0 a1 k
 unfold impl_DistanceOf.f
 repeat' first
  |(with_reducible exact impl_IsSheet.mono _ _)
  |(with_reducible exact LeO.refl _)
  |(with_reducible exact LeO.none _)
  |(with_reducible refine LeO.ite ?_ ?_)
  |(with_reducible refine LeO.bind ?_ (fun _=>?_))
  |exact impl_IsSheet.mono _ _
  |exact LeO.none _
   | refine LeO.ite ?_ ?_
   | refine LeO.bind ?_ (fun _=>?_)
set_option maxHeartbeats 8000000 in
set_option maxRecDepth 100000 in
theorem impl_DistanceOf.calls (k:Nat) (A0:Option Addr) (c0:Nat) (l0:List (S42)) (A1:Option Addr) (c1:Nat) (l1:List (S42)) (r1:Int) (r2:Bool) (w:World) (hr0:Kd.C k42 w A0 l0.length l0) (hc0:l0.length≤c0) (hr1:Kd.C k42 w A1 l1.length l1) (hc1:l1.length≤c1) (h:impl_DistanceOf.f k l0 l1=some (r1,r2)) :
 Calls Try.prog 20 #[.slice A0 l0.length c0, .slice A1 l1.length c1] w fun e w'=>e = .returned (.tuple #[.int .i64 r1, .bool r2])∧Below w.heap.size w w':=by
 have HR0:=am_ hr0
 have HC0:=am_ hc0
 clear hr0 hc0
 have HR1:=am_ hr1
 have HC1:=am_ hc1
 clear hr1 hc1
 have HB:=am_ (Below.refl w.heap.size w)
 have H:((impl_IsSheet.f k l0).bind fun t531=>(if t531=true then((impl_IsSheet.f k l1).bind fun t532=>(if t532=true then((impl_distanceOf.f l0 l1).bind fun t533=>(some (t533,true))) else(some (0,false)))) else(some (0,false))))=some (r1,r2):=h
 clear h
 obtain⟨t531,A3,H⟩:=bo_ H
 try dsimp only at H
 by_cases c4:t531=true
 ·subst c4
  replace H:((impl_IsSheet.f k l1).bind fun t532=>(if t532=true then((impl_distanceOf.f l0 l1).bind fun t533=>(some (t533,true))) else(some (0,false))))=some (r1,r2):=by rw[if_pos rfl]at H;exact H
  obtain⟨t532,A5,H⟩:=bo_ H
  try dsimp only at H
  by_cases c6:t532=true
  ·subst c6
   replace H:((impl_distanceOf.f l0 l1).bind fun t533=>(some (t533,true)))=some (r1,r2):=by rw[if_pos rfl]at H;exact H
   obtain⟨t533,A7,H⟩:=bo_ H
   try dsimp only at H
   simp only[Option.some.injEq,Prod.mk.injEq]at H
   obtain⟨rfl,rfl⟩:=H
   go_enter Try.func20,Try.ntmps20
   go_wp2_with (first|((with_reducible refine gate_callee (f:=21) rfl ?_);refine goesL_ (some 7) rfl rfl Try.func21 (by kernel_rfl) rfl #[.slice A0 l0.length c0] rfl gd_ ?_;(with_reducible refine(impl_IsSheet.calls k _ _ l0 true _ ?side1 ?side2 A3.out).mono ?_);(case side1=>exact(a21_ HR0.out));(case side2=>exact HC0.out);rintro e w8 ⟨rfl,hb⟩;refine⟨_,rfl,?_⟩;replace HB:=am_ (below_step (a0_) hb);(try clear hb);(try clear hb2);(try clear hk);(try clear hi))|(go_at_call 21;(with_reducible refine(impl_IsSheet.calls k _ _ l1 true _ ?side1 ?side2 A5.out).mono ?_);(case side1=>exact(a13_ HR1.out));(case side2=>exact HC1.out);rintro e w9 ⟨rfl,hb⟩;replace HB:=am_ (below_step (a0_) hb);(try clear hb);(try clear hb2);(try clear hk);(try clear hi))|((with_reducible refine gate_callee (f:=68) rfl ?_);refine goesL_ (some 16) rfl rfl Try.func68 (by kernel_rfl) rfl #[.slice A0 l0.length c0, .slice A1 l1.length c1] rfl gd_ ?_;(with_reducible refine(impl_distanceOf.calls _ _ l0 _ _ l1 t533 _ ?side1 ?side2 ?side3 ?side4 A7.out).mono ?_);(case side1=>exact(a13_ HR0.out));(case side2=>exact HC0.out);(case side3=>exact(a13_ HR1.out));(case side4=>exact HC1.out);rintro e w10 ⟨rfl,hb⟩;refine⟨_,rfl,?_⟩;replace HB:=am_ (below_step (a0_) hb);(try clear hb);(try clear hb2);(try clear hk);(try clear hi)))
   go_ret2
   exact⟨a9_,a0_⟩
  ·replace c6:=Bool.eq_false_iff.mpr c6
   subst c6
   replace H:(some (0,false))=some (r1,r2):=by rw[if_neg (show ¬(false=true) by decide)]at H;exact H
   simp only[Option.some.injEq,Prod.mk.injEq]at H
   obtain⟨rfl,rfl⟩:=H
   go_enter Try.func20,Try.ntmps20
   go_wp2_with (first|((with_reducible refine gate_callee (f:=21) rfl ?_);refine goesL_ (some 7) rfl rfl Try.func21 (by kernel_rfl) rfl #[.slice A0 l0.length c0] rfl gd_ ?_;(with_reducible refine(impl_IsSheet.calls k _ _ l0 true _ ?side1 ?side2 A3.out).mono ?_);(case side1=>exact(a21_ HR0.out));(case side2=>exact HC0.out);rintro e w11 ⟨rfl,hb⟩;refine⟨_,rfl,?_⟩;replace HB:=am_ (below_step (a0_) hb);(try clear hb);(try clear hb2);(try clear hk);(try clear hi))|(go_at_call 21;(with_reducible refine(impl_IsSheet.calls k _ _ l1 false _ ?side1 ?side2 A5.out).mono ?_);(case side1=>exact(a13_ HR1.out));(case side2=>exact HC1.out);rintro e w12 ⟨rfl,hb⟩;replace HB:=am_ (below_step (a0_) hb);(try clear hb);(try clear hb2);(try clear hk);(try clear hi)))
   go_ret2
   exact⟨a9_,a0_⟩
 ·replace c4:=Bool.eq_false_iff.mpr c4
  subst c4
  replace H:(some (0,false))=some (r1,r2):=by rw[if_neg (show ¬(false=true) by decide)]at H;exact H
  simp only[Option.some.injEq,Prod.mk.injEq]at H
  obtain⟨rfl,rfl⟩:=H
  go_enter Try.func20,Try.ntmps20
  go_wp2_with (first|((with_reducible refine gate_callee (f:=21) rfl ?_);refine goesL_ (some 7) rfl rfl Try.func21 (by kernel_rfl) rfl #[.slice A0 l0.length c0] rfl gd_ ?_;(with_reducible refine(impl_IsSheet.calls k _ _ l0 false _ ?side1 ?side2 A3.out).mono ?_);(case side1=>exact(a21_ HR0.out));(case side2=>exact HC0.out);rintro e w13 ⟨rfl,hb⟩;refine⟨_,rfl,?_⟩;replace HB:=am_ (below_step (a0_) hb);(try clear hb);(try clear hb2);(try clear hk);(try clear hi)))
  go_ret2
  exact⟨a9_,a0_⟩

/-! ### spec_DrawExtendChecksum: function 22 -/
def spec_DrawExtendChecksum.f (l0:List Int):Option (Int×Int×Int×Int):=(spec_l1Cur_checksum.f l0 0 0).bind fun bt536=>((spec_l1Cur_anyHole.f l0 bt536.2.1 bt536.2.2).bind fun bt539=>(some (bt536.1,bt539.1,bt539.2.1,bt539.2.2.1)))
set_option maxHeartbeats 8000000 in
set_option maxRecDepth 100000 in
theorem spec_DrawExtendChecksum.calls (A0:Option Addr) (c0:Nat) (l0:List Int) (r1:Int) (r2:Int) (r3:Int) (r4:Int) (w:World) (hr0:Kd.C (Kd.int .u8) w A0 l0.length l0) (hc0:l0.length≤c0) (h:spec_DrawExtendChecksum.f l0=some (r1,r2,r3,r4)) :
 Calls Try.prog 22 #[.slice A0 l0.length c0] w fun e w'=>e = .returned (.tuple #[.int .i64 r1, .agg #[.int .i64 r2, .int .i64 r3, .int .i64 r4]])∧Below w.heap.size w w':=by
 have hu42:=Try.underlying42
 have hu76:=Try.underlying76
 have HR0:=am_ hr0
 have HC0:=am_ hc0
 clear hr0 hc0
 have HB:=am_ (Below.refl w.heap.size w)
 have H:((spec_l1Cur_checksum.f l0 0 0).bind fun bt536=>((spec_l1Cur_anyHole.f l0 bt536.2.1 bt536.2.2).bind fun bt539=>(some (bt536.1,bt539.1,bt539.2.1,bt539.2.2.1))))=some (r1,r2,r3,r4):=h
 clear h
 obtain⟨⟨t536,t537,t538⟩,A2,H⟩:=bo_ H
 try dsimp only at H
 obtain⟨⟨t539,t540,t541,t542,t543⟩,A3,H⟩:=bo_ H
 try dsimp only at H
 simp only[Option.some.injEq,Prod.mk.injEq]at H
 obtain⟨rfl,rfl,rfl,rfl⟩:=H
 go_enter Try.func22,Try.ntmps22
 go_wp2_with (first|((with_reducible refine gate_dst (N:=3) rfl ?_);refine box_event ?hg (N:=3) ?hd (cs:= #[.int .i64 0, .int .i64 0, .int .i64 0]) (t:=42) ?hr ?_;(case hd=>rfl);(case hg=>rfl);(case hr=>exact hr_);intro gb534 hg w4 hbox hb;have BK534:=am_ (hbox);have GW534:=am_ ((by rw[hg];exact(below_size (a0_)):w.heap.size≤gb534));have GE534:=am_ ((by rw[hg];exact(below_size (a0_)):w.heap.size≤gb534));replace HB:=am_ (below_step (a0_) hb);clear hb hbox hg)|((with_reducible refine gate_dst (N:=7) rfl ?_);refine box_event ?hg (N:=7) ?hd (cs:= #[.slice A0 l0.length c0, .int .i64 0, .int .u64 0]) (t:=76) ?hr ?_;(case hd=>rfl);(case hg=>rfl);(case hr=>exact hr_);intro g535 hg w5 hbox hb;have HI535:=am_ ((⟨_,_,hbox,by rw[hg];exact(below_size ((a2_ GE534.out))),HR0.out⟩:IsS76 w w5 g535 l0 0 0));replace HB:=am_ (below_step ((a2_ GE534.out)) hb);have NB535_534:=am_ ((show g535≠gb534 from fun e_=>by have h_:w4.heap[gb534]? = some (.cells #[.int .i64 0, .int .i64 0, .int .i64 0] 42 (0,0)):=((a5_ BK534.out));rw[← e_,hg]at h_;simp at h_));have NB534_535:=am_ ((show gb534≠g535 from fun e_=>by have h_:w4.heap[gb534]? = some (.cells #[.int .i64 0, .int .i64 0, .int .i64 0] 42 (0,0)):=((a5_ BK534.out));rw[e_,hg]at h_;simp at h_));replace BK534:=am_ (blk_below (g:=gb534) (o:= .cells #[.int .i64 0, .int .i64 0, .int .i64 0] 42 (0,0)) ((a5_ BK534.out)) hb);clear hb hbox hg)|((with_reducible refine gate_callee (f:=64) rfl ?_);refine goesL_ (some 9) rfl rfl Try.func64 (by kernel_rfl) rfl #[.pointer (some ⟨g535,0,none⟩)] rfl gd_ ?_;(with_reducible refine(spec_l1Cur_checksum.calls g535 l0 0 0 t536 t537 t538 w _ ?side1 ?side2 A2.out).mono ?_);(case side1=>exact(a36_ HI535.out HI535.out NB535_534.out));(case side2=>exact(a16_ HI535.out GE534.out));rintro e w6 ⟨rfl,hi,hb,hk⟩;refine⟨_,rfl,?_⟩;replace BK534:=am_ (KeepBut.blk hk (g':=gb534) (o:= .cells #[.int .i64 0, .int .i64 0, .int .i64 0] 42 (0,0)) ((a5_ BK534.out)) NB534_535.out (by simp));replace HB:=am_ (hb);replace HI535:=am_ (hi);(try clear hb);(try clear hb2);(try clear hk);(try clear hi))|((with_reducible refine gate_callee (f:=71) rfl ?_);refine goesL_ (some 11) rfl rfl Try.func71 (by kernel_rfl) rfl #[.pointer (some ⟨g535,0,none⟩)] rfl gd_ ?_;(with_reducible refine(spec_l1Cur_anyHole.calls g535 l0 t537 t538 t539 t540 t541 t542 t543 w _ ?side1 ?side2 A3.out).mono ?_);(case side1=>exact(a36_ HI535.out HI535.out NB535_534.out));(case side2=>exact(a16_ HI535.out GE534.out));rintro e w7 ⟨rfl,hi,hb,hk⟩;refine⟨_,rfl,?_⟩;replace BK534:=am_ (KeepBut.blk hk (g':=gb534) (o:= .cells #[.int .i64 0, .int .i64 0, .int .i64 0] 42 (0,0)) ((a5_ BK534.out)) NB534_535.out (by simp));replace HB:=am_ (hb);replace HI535:=am_ (hi);(try clear hb);(try clear hb2);(try clear hk);(try clear hi);have hnb8:=NB534_535.out;have hnc8:=NB535_534.out;have hcz9_0:w7.cell? ⟨gb534,0,none⟩=some (.int .i64 0):=(blk_cell BK534.out 0).trans rfl;have hcz9_1:w7.cell? ⟨gb534,1,none⟩=some (.int .i64 0):=(blk_cell BK534.out 1).trans rfl;have hcz9_2:w7.cell? ⟨gb534,2,none⟩=some (.int .i64 0):=(blk_cell BK534.out 2).trans rfl;have hfz9_0:=blk_frozen BK534.out 0;have hfz9_1:=blk_frozen BK534.out 1;have hfz9_2:=blk_frozen BK534.out 2))
 refine bodyPost_ret (results_tc rfl _ _ gb534 42 #[.int .i64 t539, .int .i64 t540, .int .i64 t541] (0,0) _ rfl (by(with_reducible repeat (first|refine blk_drewN ?_ _ | refine blk_drew ?_ | refine blk_alloc ?_ _));refine blk_put (cs:= #[.int .i64 t539, .int .i64 t540, .int .i64 0]) ?_ 2 _ rfl;(with_reducible repeat (first|refine blk_drewN ?_ _ | refine blk_drew ?_ | refine blk_alloc ?_ _));refine blk_put (cs:= #[.int .i64 t539, .int .i64 0, .int .i64 0]) ?_ 1 _ rfl;(with_reducible repeat (first|refine blk_drewN ?_ _ | refine blk_drew ?_ | refine blk_alloc ?_ _));refine blk_put (cs:= #[.int .i64 0, .int .i64 0, .int .i64 0]) ?_ 0 _ rfl;(with_reducible repeat (first|refine blk_drewN ?_ _ | refine blk_drew ?_ | refine blk_alloc ?_ _));exact BK534.out) Try.underlying42 rfl (by kernel_rfl)) rfl ?_
 exact⟨a9_,(a16_ HI535.out GE534.out)⟩

/-! ### impl_ExtendChecksum: function 23 -/
def impl_ExtendChecksum.f (a0:Int) (a1_0:Int) (a1_1:Int) (a1_2:Int):Option (Int×Bool):=(impl_isChecksum.f a0).bind fun t545=>(if t545=true then((impl_IsHole.f a1_0 a1_1 a1_2).bind fun t546=>(if t546=true then((impl_extendChecksum.f a0 a1_0 a1_1 a1_2).bind fun t547=>(some (t547,true))) else(some (0,false)))) else(some (0,false)))
set_option maxHeartbeats 8000000 in
set_option maxRecDepth 100000 in
theorem impl_ExtendChecksum.calls (a0:Int) (a1_0:Int) (a1_1:Int) (a1_2:Int) (r1:Int) (r2:Bool) (w:World) (h:impl_ExtendChecksum.f a0 a1_0 a1_1 a1_2=some (r1,r2)) :
 Calls Try.prog 23 #[.int .i64 a0, .agg #[.int .i64 a1_0, .int .i64 a1_1, .int .i64 a1_2]] w fun e w'=>e = .returned (.tuple #[.int .i64 r1, .bool r2])∧Below w.heap.size w w':=by
 have hu42:=Try.underlying42
 have HB:=am_ (Below.refl w.heap.size w)
 have H:((impl_isChecksum.f a0).bind fun t545=>(if t545=true then((impl_IsHole.f a1_0 a1_1 a1_2).bind fun t546=>(if t546=true then((impl_extendChecksum.f a0 a1_0 a1_1 a1_2).bind fun t547=>(some (t547,true))) else(some (0,false)))) else(some (0,false))))=some (r1,r2):=h
 clear h
 obtain⟨t545,A3,H⟩:=bo_ H
 try dsimp only at H
 by_cases c4:t545=true
 ·subst c4
  replace H:((impl_IsHole.f a1_0 a1_1 a1_2).bind fun t546=>(if t546=true then((impl_extendChecksum.f a0 a1_0 a1_1 a1_2).bind fun t547=>(some (t547,true))) else(some (0,false))))=some (r1,r2):=by rw[if_pos rfl]at H;exact H
  obtain⟨t546,A5,H⟩:=bo_ H
  try dsimp only at H
  by_cases c6:t546=true
  ·subst c6
   replace H:((impl_extendChecksum.f a0 a1_0 a1_1 a1_2).bind fun t547=>(some (t547,true)))=some (r1,r2):=by rw[if_pos rfl]at H;exact H
   obtain⟨t547,A7,H⟩:=bo_ H
   try dsimp only at H
   simp only[Option.some.injEq,Prod.mk.injEq]at H
   obtain⟨rfl,rfl⟩:=H
   go_enter Try.func23,Try.ntmps23
   go_wp2_with (first|((with_reducible refine gate_dst (N:=3) rfl ?_);refine box_event ?hg (N:=3) ?hd (cs:= #[.int .i64 a1_0, .int .i64 a1_1, .int .i64 a1_2]) (t:=42) ?hr ?_;(case hd=>rfl);(case hg=>rfl);(case hr=>exact hr_);intro gb544 hg w8 hbox hb;have BK544:=am_ (hbox);have GW544:=am_ ((by rw[hg];exact(below_size (a0_)):w.heap.size≤gb544));have GE544:=am_ ((by rw[hg];exact(below_size (a0_)):w.heap.size≤gb544));replace HB:=am_ (below_step (a0_) hb);clear hb hbox hg)|((with_reducible refine gate_callee (f:=65) rfl ?_);refine goesL_ (some 7) rfl rfl Try.func65 (by kernel_rfl) rfl #[.int .i64 a0] rfl gd_ ?_;(with_reducible refine(impl_isChecksum.calls a0 true _ A3.out).mono ?_);rintro e w' ⟨rfl,⟨nd,rfl⟩⟩;refine⟨_,rfl,?_⟩;have hcz9_0:w8.cell? ⟨gb544,0,none⟩=some (.int .i64 a1_0):=(blk_cell BK544.out 0).trans rfl;have hcz9_1:w8.cell? ⟨gb544,1,none⟩=some (.int .i64 a1_1):=(blk_cell BK544.out 1).trans rfl;have hcz9_2:w8.cell? ⟨gb544,2,none⟩=some (.int .i64 a1_2):=(blk_cell BK544.out 2).trans rfl;have hfz9_0:=blk_frozen BK544.out 0;have hfz9_1:=blk_frozen BK544.out 1;have hfz9_2:=blk_frozen BK544.out 2)|(go_at_call 69;(with_reducible refine(impl_IsHole.calls a1_0 a1_1 a1_2 true _ A5.out).mono ?_);rintro e w10 ⟨rfl,hb⟩;replace BK544:=am_ (blk_below (g:=gb544) (o:= .cells #[.int .i64 a1_0, .int .i64 a1_1, .int .i64 a1_2] 42 (0,0)) ((a5_ BK544.out)) hb);replace HB:=am_ (below_step ((a2_ GE544.out)) hb);(try clear hb);(try clear hb2);(try clear hk);(try clear hi);have hcz11_0:w10.cell? ⟨gb544,0,none⟩=some (.int .i64 a1_0):=(blk_cell BK544.out 0).trans rfl;have hcz11_1:w10.cell? ⟨gb544,1,none⟩=some (.int .i64 a1_1):=(blk_cell BK544.out 1).trans rfl;have hcz11_2:w10.cell? ⟨gb544,2,none⟩=some (.int .i64 a1_2):=(blk_cell BK544.out 2).trans rfl;have hfz11_0:=blk_frozen BK544.out 0;have hfz11_1:=blk_frozen BK544.out 1;have hfz11_2:=blk_frozen BK544.out 2)|((with_reducible refine gate_callee (f:=72) rfl ?_);refine goesL_ (some 16) rfl rfl Try.func72 (by kernel_rfl) rfl #[.int .i64 a0, .agg #[.int .i64 a1_0, .int .i64 a1_1, .int .i64 a1_2]] rfl gd_ ?_;(with_reducible refine(impl_extendChecksum.calls a0 a1_0 a1_1 a1_2 t547 _ A7.out).mono ?_);rintro e w12 ⟨rfl,hb⟩;refine⟨_,rfl,?_⟩;replace BK544:=am_ (blk_below (g:=gb544) (o:= .cells #[.int .i64 a1_0, .int .i64 a1_1, .int .i64 a1_2] 42 (0,0)) ((a5_ BK544.out)) hb);replace HB:=am_ (below_step ((a2_ GE544.out)) hb);(try clear hb);(try clear hb2);(try clear hk);(try clear hi)))
   go_ret2
   exact⟨a9_,(a2_ GE544.out)⟩
  ·replace c6:=Bool.eq_false_iff.mpr c6
   subst c6
   replace H:(some (0,false))=some (r1,r2):=by rw[if_neg (show ¬(false=true) by decide)]at H;exact H
   simp only[Option.some.injEq,Prod.mk.injEq]at H
   obtain⟨rfl,rfl⟩:=H
   go_enter Try.func23,Try.ntmps23
   go_wp2_with (first|((with_reducible refine gate_dst (N:=3) rfl ?_);refine box_event ?hg (N:=3) ?hd (cs:= #[.int .i64 a1_0, .int .i64 a1_1, .int .i64 a1_2]) (t:=42) ?hr ?_;(case hd=>rfl);(case hg=>rfl);(case hr=>exact hr_);intro gb544 hg w13 hbox hb;have BK544:=am_ (hbox);have GW544:=am_ ((by rw[hg];exact(below_size (a0_)):w.heap.size≤gb544));have GE544:=am_ ((by rw[hg];exact(below_size (a0_)):w.heap.size≤gb544));replace HB:=am_ (below_step (a0_) hb);clear hb hbox hg)|((with_reducible refine gate_callee (f:=65) rfl ?_);refine goesL_ (some 7) rfl rfl Try.func65 (by kernel_rfl) rfl #[.int .i64 a0] rfl gd_ ?_;(with_reducible refine(impl_isChecksum.calls a0 true _ A3.out).mono ?_);rintro e w' ⟨rfl,⟨nd,rfl⟩⟩;refine⟨_,rfl,?_⟩;have hcz14_0:w13.cell? ⟨gb544,0,none⟩=some (.int .i64 a1_0):=(blk_cell BK544.out 0).trans rfl;have hcz14_1:w13.cell? ⟨gb544,1,none⟩=some (.int .i64 a1_1):=(blk_cell BK544.out 1).trans rfl;have hcz14_2:w13.cell? ⟨gb544,2,none⟩=some (.int .i64 a1_2):=(blk_cell BK544.out 2).trans rfl;have hfz14_0:=blk_frozen BK544.out 0;have hfz14_1:=blk_frozen BK544.out 1;have hfz14_2:=blk_frozen BK544.out 2)|(go_at_call 69;(with_reducible refine(impl_IsHole.calls a1_0 a1_1 a1_2 false _ A5.out).mono ?_);rintro e w15 ⟨rfl,hb⟩;replace BK544:=am_ (blk_below (g:=gb544) (o:= .cells #[.int .i64 a1_0, .int .i64 a1_1, .int .i64 a1_2] 42 (0,0)) ((a5_ BK544.out)) hb);replace HB:=am_ (below_step ((a2_ GE544.out)) hb);(try clear hb);(try clear hb2);(try clear hk);(try clear hi)))
   go_ret2
   exact⟨a9_,(a2_ GE544.out)⟩
 ·replace c4:=Bool.eq_false_iff.mpr c4
  subst c4
  replace H:(some (0,false))=some (r1,r2):=by rw[if_neg (show ¬(false=true) by decide)]at H;exact H
  simp only[Option.some.injEq,Prod.mk.injEq]at H
  obtain⟨rfl,rfl⟩:=H
  go_enter Try.func23,Try.ntmps23
  go_wp2_with (first|((with_reducible refine gate_dst (N:=3) rfl ?_);refine box_event ?hg (N:=3) ?hd (cs:= #[.int .i64 a1_0, .int .i64 a1_1, .int .i64 a1_2]) (t:=42) ?hr ?_;(case hd=>rfl);(case hg=>rfl);(case hr=>exact hr_);intro gb544 hg w16 hbox hb;have BK544:=am_ (hbox);have GW544:=am_ ((by rw[hg];exact(below_size (a0_)):w.heap.size≤gb544));have GE544:=am_ ((by rw[hg];exact(below_size (a0_)):w.heap.size≤gb544));replace HB:=am_ (below_step (a0_) hb);clear hb hbox hg)|((with_reducible refine gate_callee (f:=65) rfl ?_);refine goesL_ (some 7) rfl rfl Try.func65 (by kernel_rfl) rfl #[.int .i64 a0] rfl gd_ ?_;(with_reducible refine(impl_isChecksum.calls a0 false _ A3.out).mono ?_);rintro e w' ⟨rfl,⟨nd,rfl⟩⟩;refine⟨_,rfl,?_⟩))
  go_ret2
  exact⟨a9_,(a2_ GE544.out)⟩

/-! ### spec_ExtendChecksum: function 24 -/
def spec_ExtendChecksum.f (a0:Int) (a1_0:Int) (a1_1:Int) (a1_2:Int):Option (Int×Bool):=(spec_ckIs.f a0).bind fun t549=>(if t549=true then((spec_shHole.f a1_0 a1_1 a1_2).bind fun t550=>(if t550=true then((spec_ckExtend.f a0 a1_0 a1_1 a1_2).bind fun t551=>(some (t551,true))) else(some (0,false)))) else(some (0,false)))
set_option maxHeartbeats 8000000 in
set_option maxRecDepth 100000 in
theorem spec_ExtendChecksum.calls (a0:Int) (a1_0:Int) (a1_1:Int) (a1_2:Int) (r1:Int) (r2:Bool) (w:World) (h:spec_ExtendChecksum.f a0 a1_0 a1_1 a1_2=some (r1,r2)) :
 Calls Try.prog 24 #[.int .i64 a0, .agg #[.int .i64 a1_0, .int .i64 a1_1, .int .i64 a1_2]] w fun e w'=>e = .returned (.tuple #[.int .i64 r1, .bool r2])∧Below w.heap.size w w':=by
 have hu42:=Try.underlying42
 have HB:=am_ (Below.refl w.heap.size w)
 have H:((spec_ckIs.f a0).bind fun t549=>(if t549=true then((spec_shHole.f a1_0 a1_1 a1_2).bind fun t550=>(if t550=true then((spec_ckExtend.f a0 a1_0 a1_1 a1_2).bind fun t551=>(some (t551,true))) else(some (0,false)))) else(some (0,false))))=some (r1,r2):=h
 clear h
 obtain⟨t549,A3,H⟩:=bo_ H
 try dsimp only at H
 by_cases c4:t549=true
 ·subst c4
  replace H:((spec_shHole.f a1_0 a1_1 a1_2).bind fun t550=>(if t550=true then((spec_ckExtend.f a0 a1_0 a1_1 a1_2).bind fun t551=>(some (t551,true))) else(some (0,false))))=some (r1,r2):=by rw[if_pos rfl]at H;exact H
  obtain⟨t550,A5,H⟩:=bo_ H
  try dsimp only at H
  by_cases c6:t550=true
  ·subst c6
   replace H:((spec_ckExtend.f a0 a1_0 a1_1 a1_2).bind fun t551=>(some (t551,true)))=some (r1,r2):=by rw[if_pos rfl]at H;exact H
   obtain⟨t551,A7,H⟩:=bo_ H
   try dsimp only at H
   simp only[Option.some.injEq,Prod.mk.injEq]at H
   obtain⟨rfl,rfl⟩:=H
   go_enter Try.func24,Try.ntmps24
   go_wp2_with (first|((with_reducible refine gate_dst (N:=3) rfl ?_);refine box_event ?hg (N:=3) ?hd (cs:= #[.int .i64 a1_0, .int .i64 a1_1, .int .i64 a1_2]) (t:=42) ?hr ?_;(case hd=>rfl);(case hg=>rfl);(case hr=>exact hr_);intro gb548 hg w8 hbox hb;have BK548:=am_ (hbox);have GW548:=am_ ((by rw[hg];exact(below_size (a0_)):w.heap.size≤gb548));have GE548:=am_ ((by rw[hg];exact(below_size (a0_)):w.heap.size≤gb548));replace HB:=am_ (below_step (a0_) hb);clear hb hbox hg)|((with_reducible refine gate_callee (f:=67) rfl ?_);refine goesL_ (some 7) rfl rfl Try.func67 (by kernel_rfl) rfl #[.int .i64 a0] rfl gd_ ?_;(with_reducible refine(spec_ckIs.calls a0 true _ A3.out).mono ?_);rintro e w' ⟨rfl,⟨nd,rfl⟩⟩;refine⟨_,rfl,?_⟩;have hcz9_0:w8.cell? ⟨gb548,0,none⟩=some (.int .i64 a1_0):=(blk_cell BK548.out 0).trans rfl;have hcz9_1:w8.cell? ⟨gb548,1,none⟩=some (.int .i64 a1_1):=(blk_cell BK548.out 1).trans rfl;have hcz9_2:w8.cell? ⟨gb548,2,none⟩=some (.int .i64 a1_2):=(blk_cell BK548.out 2).trans rfl;have hfz9_0:=blk_frozen BK548.out 0;have hfz9_1:=blk_frozen BK548.out 1;have hfz9_2:=blk_frozen BK548.out 2)|(go_at_call 73;(with_reducible refine(spec_shHole.calls a1_0 a1_1 a1_2 true _ A5.out).mono ?_);rintro e w10 ⟨rfl,hb⟩;replace BK548:=am_ (blk_below (g:=gb548) (o:= .cells #[.int .i64 a1_0, .int .i64 a1_1, .int .i64 a1_2] 42 (0,0)) ((a5_ BK548.out)) hb);replace HB:=am_ (below_step ((a2_ GE548.out)) hb);(try clear hb);(try clear hb2);(try clear hk);(try clear hi);have hcz11_0:w10.cell? ⟨gb548,0,none⟩=some (.int .i64 a1_0):=(blk_cell BK548.out 0).trans rfl;have hcz11_1:w10.cell? ⟨gb548,1,none⟩=some (.int .i64 a1_1):=(blk_cell BK548.out 1).trans rfl;have hcz11_2:w10.cell? ⟨gb548,2,none⟩=some (.int .i64 a1_2):=(blk_cell BK548.out 2).trans rfl;have hfz11_0:=blk_frozen BK548.out 0;have hfz11_1:=blk_frozen BK548.out 1;have hfz11_2:=blk_frozen BK548.out 2)|((with_reducible refine gate_callee (f:=74) rfl ?_);refine goesL_ (some 16) rfl rfl Try.func74 (by kernel_rfl) rfl #[.int .i64 a0, .agg #[.int .i64 a1_0, .int .i64 a1_1, .int .i64 a1_2]] rfl gd_ ?_;(with_reducible refine(spec_ckExtend.calls a0 a1_0 a1_1 a1_2 t551 _ A7.out).mono ?_);rintro e w12 ⟨rfl,hb⟩;refine⟨_,rfl,?_⟩;replace BK548:=am_ (blk_below (g:=gb548) (o:= .cells #[.int .i64 a1_0, .int .i64 a1_1, .int .i64 a1_2] 42 (0,0)) ((a5_ BK548.out)) hb);replace HB:=am_ (below_step ((a2_ GE548.out)) hb);(try clear hb);(try clear hb2);(try clear hk);(try clear hi)))
   go_ret2
   exact⟨a9_,(a2_ GE548.out)⟩
  ·replace c6:=Bool.eq_false_iff.mpr c6
   subst c6
   replace H:(some (0,false))=some (r1,r2):=by rw[if_neg (show ¬(false=true) by decide)]at H;exact H
   simp only[Option.some.injEq,Prod.mk.injEq]at H
   obtain⟨rfl,rfl⟩:=H
   go_enter Try.func24,Try.ntmps24
   go_wp2_with (first|((with_reducible refine gate_dst (N:=3) rfl ?_);refine box_event ?hg (N:=3) ?hd (cs:= #[.int .i64 a1_0, .int .i64 a1_1, .int .i64 a1_2]) (t:=42) ?hr ?_;(case hd=>rfl);(case hg=>rfl);(case hr=>exact hr_);intro gb548 hg w13 hbox hb;have BK548:=am_ (hbox);have GW548:=am_ ((by rw[hg];exact(below_size (a0_)):w.heap.size≤gb548));have GE548:=am_ ((by rw[hg];exact(below_size (a0_)):w.heap.size≤gb548));replace HB:=am_ (below_step (a0_) hb);clear hb hbox hg)|((with_reducible refine gate_callee (f:=67) rfl ?_);refine goesL_ (some 7) rfl rfl Try.func67 (by kernel_rfl) rfl #[.int .i64 a0] rfl gd_ ?_;(with_reducible refine(spec_ckIs.calls a0 true _ A3.out).mono ?_);rintro e w' ⟨rfl,⟨nd,rfl⟩⟩;refine⟨_,rfl,?_⟩;have hcz14_0:w13.cell? ⟨gb548,0,none⟩=some (.int .i64 a1_0):=(blk_cell BK548.out 0).trans rfl;have hcz14_1:w13.cell? ⟨gb548,1,none⟩=some (.int .i64 a1_1):=(blk_cell BK548.out 1).trans rfl;have hcz14_2:w13.cell? ⟨gb548,2,none⟩=some (.int .i64 a1_2):=(blk_cell BK548.out 2).trans rfl;have hfz14_0:=blk_frozen BK548.out 0;have hfz14_1:=blk_frozen BK548.out 1;have hfz14_2:=blk_frozen BK548.out 2)|(go_at_call 73;(with_reducible refine(spec_shHole.calls a1_0 a1_1 a1_2 false _ A5.out).mono ?_);rintro e w15 ⟨rfl,hb⟩;replace BK548:=am_ (blk_below (g:=gb548) (o:= .cells #[.int .i64 a1_0, .int .i64 a1_1, .int .i64 a1_2] 42 (0,0)) ((a5_ BK548.out)) hb);replace HB:=am_ (below_step ((a2_ GE548.out)) hb);(try clear hb);(try clear hb2);(try clear hk);(try clear hi)))
   go_ret2
   exact⟨a9_,(a2_ GE548.out)⟩
 ·replace c4:=Bool.eq_false_iff.mpr c4
  subst c4
  replace H:(some (0,false))=some (r1,r2):=by rw[if_neg (show ¬(false=true) by decide)]at H;exact H
  simp only[Option.some.injEq,Prod.mk.injEq]at H
  obtain⟨rfl,rfl⟩:=H
  go_enter Try.func24,Try.ntmps24
  go_wp2_with (first|((with_reducible refine gate_dst (N:=3) rfl ?_);refine box_event ?hg (N:=3) ?hd (cs:= #[.int .i64 a1_0, .int .i64 a1_1, .int .i64 a1_2]) (t:=42) ?hr ?_;(case hd=>rfl);(case hg=>rfl);(case hr=>exact hr_);intro gb548 hg w16 hbox hb;have BK548:=am_ (hbox);have GW548:=am_ ((by rw[hg];exact(below_size (a0_)):w.heap.size≤gb548));have GE548:=am_ ((by rw[hg];exact(below_size (a0_)):w.heap.size≤gb548));replace HB:=am_ (below_step (a0_) hb);clear hb hbox hg)|((with_reducible refine gate_callee (f:=67) rfl ?_);refine goesL_ (some 7) rfl rfl Try.func67 (by kernel_rfl) rfl #[.int .i64 a0] rfl gd_ ?_;(with_reducible refine(spec_ckIs.calls a0 false _ A3.out).mono ?_);rintro e w' ⟨rfl,⟨nd,rfl⟩⟩;refine⟨_,rfl,?_⟩))
  go_ret2
  exact⟨a9_,(a2_ GE548.out)⟩

/-! ### spec_DrawHoleNumber: function 25 -/
def spec_DrawHoleNumber.f (l0:List Int):Option (Int×Int×Int):=(spec_l1Cur_anyHole.f l0 0 0).bind fun bt554=>(some (bt554.1,bt554.2.1,bt554.2.2.1))
set_option maxHeartbeats 8000000 in
set_option maxRecDepth 100000 in
theorem spec_DrawHoleNumber.calls (A0:Option Addr) (c0:Nat) (l0:List Int) (r1:Int) (r2:Int) (r3:Int) (w:World) (hr0:Kd.C (Kd.int .u8) w A0 l0.length l0) (hc0:l0.length≤c0) (h:spec_DrawHoleNumber.f l0=some (r1,r2,r3)) :
 Calls Try.prog 25 #[.slice A0 l0.length c0] w fun e w'=>e = .returned (.agg #[.int .i64 r1, .int .i64 r2, .int .i64 r3])∧Below w.heap.size w w':=by
 have hu42:=Try.underlying42
 have hu76:=Try.underlying76
 have HR0:=am_ hr0
 have HC0:=am_ hc0
 clear hr0 hc0
 have HB:=am_ (Below.refl w.heap.size w)
 have H:((spec_l1Cur_anyHole.f l0 0 0).bind fun bt554=>(some (bt554.1,bt554.2.1,bt554.2.2.1)))=some (r1,r2,r3):=h
 clear h
 obtain⟨⟨t554,t555,t556,t557,t558⟩,A2,H⟩:=bo_ H
 try dsimp only at H
 simp only[Option.some.injEq,Prod.mk.injEq]at H
 obtain⟨rfl,rfl,rfl⟩:=H
 go_enter Try.func25,Try.ntmps25
 go_wp2_with (first|((with_reducible refine gate_dst (N:=2) rfl ?_);refine box_event ?hg (N:=2) ?hd (cs:= #[.int .i64 0, .int .i64 0, .int .i64 0]) (t:=42) ?hr ?_;(case hd=>rfl);(case hg=>rfl);(case hr=>exact hr_);intro gb552 hg w3 hbox hb;have BK552:=am_ (hbox);have GW552:=am_ ((by rw[hg];exact(below_size (a0_)):w.heap.size≤gb552));have GE552:=am_ ((by rw[hg];exact(below_size (a0_)):w.heap.size≤gb552));replace HB:=am_ (below_step (a0_) hb);clear hb hbox hg)|((with_reducible refine gate_dst (N:=6) rfl ?_);refine box_event ?hg (N:=6) ?hd (cs:= #[.slice A0 l0.length c0, .int .i64 0, .int .u64 0]) (t:=76) ?hr ?_;(case hd=>rfl);(case hg=>rfl);(case hr=>exact hr_);intro g553 hg w4 hbox hb;have HI553:=am_ ((⟨_,_,hbox,by rw[hg];exact(below_size ((a2_ GE552.out))),HR0.out⟩:IsS76 w w4 g553 l0 0 0));replace HB:=am_ (below_step ((a2_ GE552.out)) hb);have NB553_552:=am_ ((show g553≠gb552 from fun e_=>by have h_:w3.heap[gb552]? = some (.cells #[.int .i64 0, .int .i64 0, .int .i64 0] 42 (0,0)):=((a5_ BK552.out));rw[← e_,hg]at h_;simp at h_));have NB552_553:=am_ ((show gb552≠g553 from fun e_=>by have h_:w3.heap[gb552]? = some (.cells #[.int .i64 0, .int .i64 0, .int .i64 0] 42 (0,0)):=((a5_ BK552.out));rw[e_,hg]at h_;simp at h_));replace BK552:=am_ (blk_below (g:=gb552) (o:= .cells #[.int .i64 0, .int .i64 0, .int .i64 0] 42 (0,0)) ((a5_ BK552.out)) hb);clear hb hbox hg)|((with_reducible refine gate_callee (f:=71) rfl ?_);refine goesL_ (some 8) rfl rfl Try.func71 (by kernel_rfl) rfl #[.pointer (some ⟨g553,0,none⟩)] rfl gd_ ?_;(with_reducible refine(spec_l1Cur_anyHole.calls g553 l0 0 0 t554 t555 t556 t557 t558 w _ ?side1 ?side2 A2.out).mono ?_);(case side1=>exact(a36_ HI553.out HI553.out NB553_552.out));(case side2=>exact(a16_ HI553.out GE552.out));rintro e w5 ⟨rfl,hi,hb,hk⟩;refine⟨_,rfl,?_⟩;replace BK552:=am_ (KeepBut.blk hk (g':=gb552) (o:= .cells #[.int .i64 0, .int .i64 0, .int .i64 0] 42 (0,0)) ((a5_ BK552.out)) NB552_553.out (by simp));replace HB:=am_ (hb);replace HI553:=am_ (hi);(try clear hb);(try clear hb2);(try clear hk);(try clear hi);have hnb6:=NB552_553.out;have hnc6:=NB553_552.out;have hcz7_0:w5.cell? ⟨gb552,0,none⟩=some (.int .i64 0):=(blk_cell BK552.out 0).trans rfl;have hcz7_1:w5.cell? ⟨gb552,1,none⟩=some (.int .i64 0):=(blk_cell BK552.out 1).trans rfl;have hcz7_2:w5.cell? ⟨gb552,2,none⟩=some (.int .i64 0):=(blk_cell BK552.out 2).trans rfl;have hfz7_0:=blk_frozen BK552.out 0;have hfz7_1:=blk_frozen BK552.out 1;have hfz7_2:=blk_frozen BK552.out 2))
 refine bodyPost_ret (results_cell_row rfl _ _ gb552 42 #[.int .i64 t554, .int .i64 t555, .int .i64 t556] (0,0) _ rfl (by(with_reducible repeat (first|refine blk_drewN ?_ _ | refine blk_drew ?_ | refine blk_alloc ?_ _));refine blk_put (cs:= #[.int .i64 t554, .int .i64 t555, .int .i64 0]) ?_ 2 _ rfl;(with_reducible repeat (first|refine blk_drewN ?_ _ | refine blk_drew ?_ | refine blk_alloc ?_ _));refine blk_put (cs:= #[.int .i64 t554, .int .i64 0, .int .i64 0]) ?_ 1 _ rfl;(with_reducible repeat (first|refine blk_drewN ?_ _ | refine blk_drew ?_ | refine blk_alloc ?_ _));refine blk_put (cs:= #[.int .i64 0, .int .i64 0, .int .i64 0]) ?_ 0 _ rfl;(with_reducible repeat (first|refine blk_drewN ?_ _ | refine blk_drew ?_ | refine blk_alloc ?_ _));exact BK552.out) Try.underlying42 rfl (by kernel_rfl)) rfl ?_
 exact⟨a9_,(a16_ HI553.out GE552.out)⟩

/-! ### impl_HoleNumber: function 26 -/
def impl_HoleNumber.f (a0_0:Int) (a0_1:Int) (a0_2:Int):Option (Int×Bool):=(impl_IsHole.f a0_0 a0_1 a0_2).bind fun t560=>(if t560=true then((impl_holeNumber.f a0_0 a0_1 a0_2).bind fun t561=>(some (t561,true))) else(some (0,false)))
set_option maxHeartbeats 8000000 in
set_option maxRecDepth 100000 in
theorem impl_HoleNumber.calls (a0_0:Int) (a0_1:Int) (a0_2:Int) (r1:Int) (r2:Bool) (w:World) (h:impl_HoleNumber.f a0_0 a0_1 a0_2=some (r1,r2)) :
 Calls Try.prog 26 #[.agg #[.int .i64 a0_0, .int .i64 a0_1, .int .i64 a0_2]] w fun e w'=>e = .returned (.tuple #[.int .i64 r1, .bool r2])∧Below w.heap.size w w':=by
 have hu42:=Try.underlying42
 have HB:=am_ (Below.refl w.heap.size w)
 have H:((impl_IsHole.f a0_0 a0_1 a0_2).bind fun t560=>(if t560=true then((impl_holeNumber.f a0_0 a0_1 a0_2).bind fun t561=>(some (t561,true))) else(some (0,false))))=some (r1,r2):=h
 clear h
 obtain⟨t560,A2,H⟩:=bo_ H
 try dsimp only at H
 by_cases c3:t560=true
 ·subst c3
  replace H:((impl_holeNumber.f a0_0 a0_1 a0_2).bind fun t561=>(some (t561,true)))=some (r1,r2):=by rw[if_pos rfl]at H;exact H
  obtain⟨t561,A4,H⟩:=bo_ H
  try dsimp only at H
  simp only[Option.some.injEq,Prod.mk.injEq]at H
  obtain⟨rfl,rfl⟩:=H
  go_enter Try.func26,Try.ntmps26
  go_wp2_with (first|((with_reducible refine gate_dst (N:=1) rfl ?_);refine box_event ?hg (N:=1) ?hd (cs:= #[.int .i64 a0_0, .int .i64 a0_1, .int .i64 a0_2]) (t:=42) ?hr ?_;(case hd=>rfl);(case hg=>rfl);(case hr=>exact hr_);intro gb559 hg w5 hbox hb;have BK559:=am_ (hbox);have GW559:=am_ ((by rw[hg];exact(below_size (a0_)):w.heap.size≤gb559));have GE559:=am_ ((by rw[hg];exact(below_size (a0_)):w.heap.size≤gb559));replace HB:=am_ (below_step (a0_) hb);clear hb hbox hg;have hcz6_0:w5.cell? ⟨gb559,0,none⟩=some (.int .i64 a0_0):=(blk_cell BK559.out 0).trans rfl;have hcz6_1:w5.cell? ⟨gb559,1,none⟩=some (.int .i64 a0_1):=(blk_cell BK559.out 1).trans rfl;have hcz6_2:w5.cell? ⟨gb559,2,none⟩=some (.int .i64 a0_2):=(blk_cell BK559.out 2).trans rfl;have hfz6_0:=blk_frozen BK559.out 0;have hfz6_1:=blk_frozen BK559.out 1;have hfz6_2:=blk_frozen BK559.out 2)|((with_reducible refine gate_callee (f:=69) rfl ?_);refine goesL_ (some 5) rfl rfl Try.func69 (by kernel_rfl) rfl #[.agg #[.int .i64 a0_0, .int .i64 a0_1, .int .i64 a0_2]] rfl gd_ ?_;(with_reducible refine(impl_IsHole.calls a0_0 a0_1 a0_2 true _ A2.out).mono ?_);rintro e w7 ⟨rfl,hb⟩;refine⟨_,rfl,?_⟩;replace BK559:=am_ (blk_below (g:=gb559) (o:= .cells #[.int .i64 a0_0, .int .i64 a0_1, .int .i64 a0_2] 42 (0,0)) ((a5_ BK559.out)) hb);replace HB:=am_ (below_step ((a2_ GE559.out)) hb);(try clear hb);(try clear hb2);(try clear hk);(try clear hi);have hcz8_0:w7.cell? ⟨gb559,0,none⟩=some (.int .i64 a0_0):=(blk_cell BK559.out 0).trans rfl;have hcz8_1:w7.cell? ⟨gb559,1,none⟩=some (.int .i64 a0_1):=(blk_cell BK559.out 1).trans rfl;have hcz8_2:w7.cell? ⟨gb559,2,none⟩=some (.int .i64 a0_2):=(blk_cell BK559.out 2).trans rfl;have hfz8_0:=blk_frozen BK559.out 0;have hfz8_1:=blk_frozen BK559.out 1;have hfz8_2:=blk_frozen BK559.out 2)|((with_reducible refine gate_callee (f:=75) rfl ?_);refine goesL_ (some 8) rfl rfl Try.func75 (by kernel_rfl) rfl #[.agg #[.int .i64 a0_0, .int .i64 a0_1, .int .i64 a0_2]] rfl gd_ ?_;(with_reducible refine(impl_holeNumber.calls a0_0 a0_1 a0_2 t561 _ A4.out).mono ?_);rintro e w9 ⟨rfl,hb⟩;refine⟨_,rfl,?_⟩;replace BK559:=am_ (blk_below (g:=gb559) (o:= .cells #[.int .i64 a0_0, .int .i64 a0_1, .int .i64 a0_2] 42 (0,0)) ((a5_ BK559.out)) hb);replace HB:=am_ (below_step ((a2_ GE559.out)) hb);(try clear hb);(try clear hb2);(try clear hk);(try clear hi)))
  go_ret2
  exact⟨a9_,(a2_ GE559.out)⟩
 ·replace c3:=Bool.eq_false_iff.mpr c3
  subst c3
  replace H:(some (0,false))=some (r1,r2):=by rw[if_neg (show ¬(false=true) by decide)]at H;exact H
  simp only[Option.some.injEq,Prod.mk.injEq]at H
  obtain⟨rfl,rfl⟩:=H
  go_enter Try.func26,Try.ntmps26
  go_wp2_with (first|((with_reducible refine gate_dst (N:=1) rfl ?_);refine box_event ?hg (N:=1) ?hd (cs:= #[.int .i64 a0_0, .int .i64 a0_1, .int .i64 a0_2]) (t:=42) ?hr ?_;(case hd=>rfl);(case hg=>rfl);(case hr=>exact hr_);intro gb559 hg w10 hbox hb;have BK559:=am_ (hbox);have GW559:=am_ ((by rw[hg];exact(below_size (a0_)):w.heap.size≤gb559));have GE559:=am_ ((by rw[hg];exact(below_size (a0_)):w.heap.size≤gb559));replace HB:=am_ (below_step (a0_) hb);clear hb hbox hg;have hcz11_0:w10.cell? ⟨gb559,0,none⟩=some (.int .i64 a0_0):=(blk_cell BK559.out 0).trans rfl;have hcz11_1:w10.cell? ⟨gb559,1,none⟩=some (.int .i64 a0_1):=(blk_cell BK559.out 1).trans rfl;have hcz11_2:w10.cell? ⟨gb559,2,none⟩=some (.int .i64 a0_2):=(blk_cell BK559.out 2).trans rfl;have hfz11_0:=blk_frozen BK559.out 0;have hfz11_1:=blk_frozen BK559.out 1;have hfz11_2:=blk_frozen BK559.out 2)|((with_reducible refine gate_callee (f:=69) rfl ?_);refine goesL_ (some 5) rfl rfl Try.func69 (by kernel_rfl) rfl #[.agg #[.int .i64 a0_0, .int .i64 a0_1, .int .i64 a0_2]] rfl gd_ ?_;(with_reducible refine(impl_IsHole.calls a0_0 a0_1 a0_2 false _ A2.out).mono ?_);rintro e w12 ⟨rfl,hb⟩;refine⟨_,rfl,?_⟩;replace BK559:=am_ (blk_below (g:=gb559) (o:= .cells #[.int .i64 a0_0, .int .i64 a0_1, .int .i64 a0_2] 42 (0,0)) ((a5_ BK559.out)) hb);replace HB:=am_ (below_step ((a2_ GE559.out)) hb);(try clear hb);(try clear hb2);(try clear hk);(try clear hi)))
  go_ret2
  exact⟨a9_,(a2_ GE559.out)⟩

end Go.Proofs.Ytplpjmhmochcfaa.QFnCopies
