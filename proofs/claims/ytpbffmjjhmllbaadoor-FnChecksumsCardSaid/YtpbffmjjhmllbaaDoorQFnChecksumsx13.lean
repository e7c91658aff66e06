/- Written by a program of this session (the kit's printer, with leaf contracts proved by hand put in): what each Go function computes, and that the call computes it. No condition but those that each theorem names. -/
import Derived.Test.YtpbffmjjhmllbaaDoorQFnChecksumsx0
import Derived.Test.YtpbffmjjhmllbaaDoorQFnChecksumsx2
import Derived.Test.YtpbffmjjhmllbaaDoorQFnChecksumsx9
import Derived.Test.YtpbffmjjhmllbaaDoorQFnChecksumsx11
import Derived.Test.YtpbffmjjhmllbaaDoorQFnChecksumsx12
namespace Go.Proofs.YtpbffmjjhmllbaaDoor.QFnChecksums
open Go.RowKit Go.Proofs.YtpbffmjjhmllbaaDoorW.PrintWords Go.Proofs.YtpbffmjjhmllbaaDoorW.PrintLast Go.Proofs.YtpbffmjjhmllbaaDoorW.PrintMore
attribute [local go_sem] max2_int min2_int max_two min_two max_three min_three max_four min_four   -- for this text's walks alone
set_option linter.unusedVariables false
set_option linter.unusedSimpArgs false

/-! ### spec_l1Cur_spoilt: function 62 -/
mutual
def spec_l1Cur_spoilt.l0:Nat→ByteArray→ByteArray→Int→List Int→Int→Int→Option (ByteArray×Int×Int)
 | 0,_,_,_,_,_,_=>none
 | k+1,x1,x2,x7,x1000,x1001,x1002=>if x7>0 then(spec_l1Cur_spoilt.j1 k x1 x2 x7 (decide ((x1.size:Int)>0)) x1000 x1001 x1002) else(spec_l1Cur_spoilt.j1 k x1 x2 x7 false x1000 x1001 x1002)
def spec_l1Cur_spoilt.j1:Nat→ByteArray→ByteArray→Int→Bool→List Int→Int→Int→Option (ByteArray×Int×Int)
 | 0,_,_,_,_,_,_,_=>none
 | k+1,x1,x2,x7,x19,x1000,x1001,x1002=>if x19=true then((spec_l1Cur_pick.f x1000 x1001 x1002 (x1.size:Int)).bind fun bt526=>((spec_l1Cur_pick.f x1000 bt526.2.1 bt526.2.2 (x2.size:Int)).bind fun bt529=>(if 0≤bt529.1 then(if bt529.1<(x2.size:Int) then((some (([bt x2 bt529.1]:List Int):List Int)).bind fun y532=>((spec_l1Cur_pick.f x1000 bt529.2.1 bt529.2.2 3).bind fun bt535=>(if bt535.1=0 then(if 0≤bt526.1 then(if bt526.1≤(x1.size:Int) then(if(x1.extract 0 (bt526.1:Int).toNat).size+(strOfNums y532).size≤9223372036854775807 then(if((x1.extract 0 (bt526.1:Int).toNat) ++ (strOfNums y532)).size+(x1.extract (bt526.1:Int).toNat x1.size).size≤9223372036854775807 then(spec_l1Cur_spoilt.l0 k (((x1.extract 0 (bt526.1:Int).toNat) ++ (strOfNums y532)) ++ (x1.extract (bt526.1:Int).toNat x1.size)) x2 (wrap64 (x7-1)) x1000 bt535.2.1 bt535.2.2) else(none)) else(none)) else(none)) else(none)) else(if bt535.1=1 then(if 0≤bt526.1 then(if bt526.1≤(x1.size:Int) then(if(x1.extract 0 (bt526.1:Int).toNat).size+(strOfNums y532).size≤9223372036854775807 then(if 0≤(wrap64 (bt526.1+1)) then(if(wrap64 (bt526.1+1))≤(x1.size:Int) then(if((x1.extract 0 (bt526.1:Int).toNat) ++ (strOfNums y532)).size+(x1.extract ((wrap64 (bt526.1+1)):Int).toNat x1.size).size≤9223372036854775807 then(spec_l1Cur_spoilt.l0 k (((x1.extract 0 (bt526.1:Int).toNat) ++ (strOfNums y532)) ++ (x1.extract ((wrap64 (bt526.1+1)):Int).toNat x1.size)) x2 (wrap64 (x7-1)) x1000 bt535.2.1 bt535.2.2) else(none)) else(none)) else(none)) else(none)) else(none)) else(none)) else(if 0≤bt526.1 then(if bt526.1≤(x1.size:Int) then(if 0≤(wrap64 (bt526.1+1)) then(if(wrap64 (bt526.1+1))≤(x1.size:Int) then(if(x1.extract 0 (bt526.1:Int).toNat).size+(x1.extract ((wrap64 (bt526.1+1)):Int).toNat x1.size).size≤9223372036854775807 then(spec_l1Cur_spoilt.l0 k ((x1.extract 0 (bt526.1:Int).toNat) ++ (x1.extract ((wrap64 (bt526.1+1)):Int).toNat x1.size)) x2 (wrap64 (x7-1)) x1000 bt535.2.1 bt535.2.2) else(none)) else(none)) else(none)) else(none)) else(none)))))) else(none)) else(none)))) else(some (x1,x1001,x1002))
end
def spec_l1Cur_spoilt.f (k:Nat) (s0_0:List Int) (s0_1:Int) (s0_2:Int) (a1:ByteArray) (a2:ByteArray):Option (ByteArray×Int×Int):=(spec_l1Cur_pick.f s0_0 s0_1 s0_2 2).bind fun bt523=>(spec_l1Cur_spoilt.l0 k a1 a2 (wrap64 (1+bt523.1)) s0_0 bt523.2.1 bt523.2.2)
theorem spec_l1Cur_spoilt.mono_l:∀k,(∀y0 y1 y2 y3 y4 y5,LeO (spec_l1Cur_spoilt.l0 k y0 y1 y2 y3 y4 y5) (spec_l1Cur_spoilt.l0 (k+1) y0 y1 y2 y3 y4 y5))∧(∀y0 y1 y2 y3 y4 y5 y6,LeO (spec_l1Cur_spoilt.j1 k y0 y1 y2 y3 y4 y5 y6) (spec_l1Cur_spoilt.j1 (k+1) y0 y1 y2 y3 y4 y5 y6))
 | 0=>⟨fun _ _ _ _ _ _ r h=>by simp[spec_l1Cur_spoilt.l0]at h,fun _ _ _ _ _ _ _ r h=>by simp[spec_l1Cur_spoilt.j1]at h⟩
 | k+1=>by
  obtain⟨ih0,ih1⟩:=spec_l1Cur_spoilt.mono_l k
  refine⟨?_,?_⟩
  intros
  unfold spec_l1Cur_spoilt.l0
  rotate_left
  intros
  unfold spec_l1Cur_spoilt.j1
  rotate_left
  all_goals repeat' first|(with_reducible first|exact ih0 _ _ _ _ _ _|exact ih1 _ _ _ _ _ _ _|exact LeO.refl _|exact LeO.none _|refine LeO.ite ?_ ?_|refine LeO.bind ?_ (fun _=>?_))|exact ih0 _ _ _ _ _ _|exact ih1 _ _ _ _ _ _ _|exact LeO.none _|refine LeO.ite ?_ ?_|refine LeO.bind ?_ (fun _=>?_)
theorem spec_l1Cur_spoilt.mono:∀a0 a1 a2 a3 a4 k,LeO (spec_l1Cur_spoilt.f k a0 a1 a2 a3 a4) (spec_l1Cur_spoilt.f (k+1) a0 a1 a2 a3 a4):=by
 intro a0 a1 a2 a3 a4 k
 obtain⟨ih0,ih1⟩:=spec_l1Cur_spoilt.mono_l k
 unfold spec_l1Cur_spoilt.f
 repeat' first
  |(with_reducible exact ih0 _ _ _ _ _ _)
  |(with_reducible exact ih1 _ _ _ _ _ _ _)
  |(with_reducible exact LeO.refl _)
  |(with_reducible exact LeO.none _)
  |(with_reducible refine LeO.ite ?_ ?_)
  |(with_reducible refine LeO.bind ?_ (fun _=>?_))
  |exact ih0 _ _ _ _ _ _
  |exact ih1 _ _ _ _ _ _ _
  |exact LeO.none _
   | refine LeO.ite ?_ ?_
   | refine LeO.bind ?_ (fun _=>?_)
set_option maxHeartbeats 8000000 in
set_option maxRecDepth 100000 in
theorem spec_l1Cur_spoilt.calls (k:Nat) (g:Nat) (s0_0:List Int) (s0_1:Int) (s0_2:Int) (a1:ByteArray) (a2:ByteArray) (r1:ByteArray) (r2:Int) (r3:Int) (w0 w:World) (hI:IsS55 w0 w g s0_0 s0_1 s0_2) (hB:Below w0.heap.size w0 w) (h:spec_l1Cur_spoilt.f k s0_0 s0_1 s0_2 a1 a2=some (r1,r2,r3)) :
 Calls Tryd.prog 62 #[.pointer (some ⟨g,0,none⟩), .string a1, .string a2] w fun e w'=>e = .returned (.string r1)∧IsS55 w0 w' g s0_0 r2 r3∧Below w0.heap.size w0 w'∧KeepBut w w' g none:=by
 have HI0:=am_ hI
 have HK:=am_ (KeepBut.refl w g none)
 have HL:=am_ hB.size
 clear hI
 have HW0:=am_ hB.size
 have HB:=am_ hB
 clear hB
 have H:((spec_l1Cur_pick.f s0_0 s0_1 s0_2 2).bind fun bt523=>(spec_l1Cur_spoilt.l0 k a1 a2 (wrap64 (1+bt523.1)) s0_0 bt523.2.1 bt523.2.2))=some (r1,r2,r3):=h
 clear h
 obtain⟨⟨t523,t524,t525⟩,A4,H⟩:=bo_ H
 try dsimp only at H
 have H':=am_ H
 clear H
 go_enter Tryd.func62,Tryd.ntmps62
 iterate 6 (go_wp2_with (first|(go_at_call 54;(with_reducible refine(spec_l1Cur_pick.calls g s0_0 s0_1 s0_2 2 t523 t524 t525 w0 _ ?side1 ?side2 A4.out).mono ?_);(case side1=>exact(a2_ HI0.out));(case side2=>exact(a4_ HI0.out));rintro e w5 ⟨rfl,hi,hb,hk⟩;replace HK:=am_ (KeepBut.trans (a6_) hk (.inl rfl));replace HB:=am_ (hb);replace HI0:=am_ (hi);(try clear hb);(try clear hb2);(try clear hk);(try clear hi)));try go_quiet (fail))
 (try simp only[Act.put,List.setIfInBounds_toArray,List.set_cons_zero,List.set_cons_succ])
 go_loopg [1,7] k (fun kq v1 v7 w'=>∃(x1_1:ByteArray) (x7_1:Int) (x1001_1:Int) (x1002_1:Int),v1 = .string x1_1∧v7 = .int .i64 x7_1∧Aside0 (spec_l1Cur_spoilt.l0 kq x1_1 a2 x7_1 s0_0 x1001_1 x1002_1=some (r1,r2,r3))∧Aside0 (kq≤k)∧Aside0 (IsS55 w0 w' g s0_0 x1001_1 x1002_1)∧Aside0 (KeepBut w w' g none)∧Aside0 (Below w0.heap.size w0 w'))
 case atStart=>exact⟨(a1),(wrap64 (1+t523)),(t524),(t525),(by first | rfl|(simp;done)|(simp[*];done)),(by first | rfl|(simp;done)|(simp[*];done)),H',⟨Nat.le_refl _⟩,⟨(a2_ HI0.out)⟩,⟨a6_⟩,⟨(a4_ HI0.out)⟩⟩
 case round=>
  clear H'
  try clear p2
  obtain⟨x1_1,x7_1,x1001_1,x1002_1,rfl,rfl,HA,HK1,HI0,HK,HB⟩:=hrel
  cases gk with
  | zero=>exact absurd HA.out (by simp[spec_l1Cur_spoilt.l0])
  | succ k1=>
   have H:=HA.out
   clear HA
   simp only[spec_l1Cur_spoilt.l0]at H
   have HC6:=am_ H
   clear H
   go_upto_region 2 with (fail)
   repeat (go_quiet (fail);go_upto_region 2 with (fail))
   go_cut [19] (fun v19 wc=>∃(kq:Nat) (x19_5:Bool),v19 = .bool x19_5∧Aside0 (spec_l1Cur_spoilt.j1 kq x1_1 a2 x7_1 x19_5 s0_0 x1001_1 x1002_1=some (r1,r2,r3))∧Aside0 (kq≤k1)∧Aside0 (IsS55 w0 wc g s0_0 x1001_1 x1002_1)∧Aside0 (KeepBut w wc g none)∧Aside0 (Below w0.heap.size w0 wc))
   case first=>
    have H:=HC6.out
    clear HC6
    by_cases c7:x7_1>0
    ·rw[if_pos c7]at H
     have c7b0:decide (0<x7_1)=true:=decide_eq_true c7
     clear c7
     (first|rw[c7b0]|(simp only[i64_w,i32_w];rw[c7b0]) | skip)
     have H':=am_ H
     clear H
     go_wp2
     repeat (go_quiet (fail);try go_wp2)
     go_meet
     case rel=>exact⟨_,(decide ((x1_1.size:Int)>0)),(by first | rfl|(simp;done)|(simp[*];done)),H',⟨by have:=HK1.out;first | omega|exact Nat.le_refl _⟩,⟨(a2_ HI0.out)⟩,⟨a6_⟩,⟨(a4_ HI0.out)⟩⟩
    ·rw[if_neg c7]at H
     have c7b0:decide (0<x7_1)=false:=decide_eq_false c7
     clear c7
     (first|rw[c7b0]|(simp only[i64_w,i32_w];rw[c7b0]) | skip)
     have H':=am_ H
     clear H
     go_wp2
     repeat (go_quiet (fail);try go_wp2)
     go_meet
     case rel=>exact⟨_,(false),(by first | rfl|(simp;done)|(simp[*];done)),H',⟨by have:=HK1.out;first | omega|exact Nat.le_refl _⟩,⟨(a2_ HI0.out)⟩,⟨a6_⟩,⟨(a4_ HI0.out)⟩⟩
   case rest=>
    clear HC6
    try clear p2
    try clear c6
    try clear p6
    try clear c7
    try clear c7b0
    try clear p2
    obtain⟨kq,x19_5,rfl,HA,HJ5,HI0,HK,HB⟩:=hcut
    cases kq with
    | zero=>exact absurd HA.out (by simp[spec_l1Cur_spoilt.j1])
    | succ kj5=>
     have H:=HA.out
     clear HA
     simp only[spec_l1Cur_spoilt.j1]at H
     by_cases c8:x19_5=true
     ·subst c8
      replace H:((spec_l1Cur_pick.f s0_0 x1001_1 x1002_1 (x1_1.size:Int)).bind fun bt526=>((spec_l1Cur_pick.f s0_0 bt526.2.1 bt526.2.2 (a2.size:Int)).bind fun bt529=>(if 0≤bt529.1 then(if bt529.1<(a2.size:Int) then((some (([bt a2 bt529.1]:List Int):List Int)).bind fun y532=>((spec_l1Cur_pick.f s0_0 bt529.2.1 bt529.2.2 3).bind fun bt535=>(if bt535.1=0 then(if 0≤bt526.1 then(if bt526.1≤(x1_1.size:Int) then(if(x1_1.extract 0 (bt526.1:Int).toNat).size+(strOfNums y532).size≤9223372036854775807 then(if((x1_1.extract 0 (bt526.1:Int).toNat) ++ (strOfNums y532)).size+(x1_1.extract (bt526.1:Int).toNat x1_1.size).size≤9223372036854775807 then(spec_l1Cur_spoilt.l0 kj5 (((x1_1.extract 0 (bt526.1:Int).toNat) ++ (strOfNums y532)) ++ (x1_1.extract (bt526.1:Int).toNat x1_1.size)) a2 (wrap64 (x7_1-1)) s0_0 bt535.2.1 bt535.2.2) else(none)) else(none)) else(none)) else(none)) else(if bt535.1=1 then(if 0≤bt526.1 then(if bt526.1≤(x1_1.size:Int) then(if(x1_1.extract 0 (bt526.1:Int).toNat).size+(strOfNums y532).size≤9223372036854775807 then(if 0≤(wrap64 (bt526.1+1)) then(if(wrap64 (bt526.1+1))≤(x1_1.size:Int) then(if((x1_1.extract 0 (bt526.1:Int).toNat) ++ (strOfNums y532)).size+(x1_1.extract ((wrap64 (bt526.1+1)):Int).toNat x1_1.size).size≤9223372036854775807 then(spec_l1Cur_spoilt.l0 kj5 (((x1_1.extract 0 (bt526.1:Int).toNat) ++ (strOfNums y532)) ++ (x1_1.extract ((wrap64 (bt526.1+1)):Int).toNat x1_1.size)) a2 (wrap64 (x7_1-1)) s0_0 bt535.2.1 bt535.2.2) else(none)) else(none)) else(none)) else(none)) else(none)) else(none)) else(if 0≤bt526.1 then(if bt526.1≤(x1_1.size:Int) then(if 0≤(wrap64 (bt526.1+1)) then(if(wrap64 (bt526.1+1))≤(x1_1.size:Int) then(if(x1_1.extract 0 (bt526.1:Int).toNat).size+(x1_1.extract ((wrap64 (bt526.1+1)):Int).toNat x1_1.size).size≤9223372036854775807 then(spec_l1Cur_spoilt.l0 kj5 ((x1_1.extract 0 (bt526.1:Int).toNat) ++ (x1_1.extract ((wrap64 (bt526.1+1)):Int).toNat x1_1.size)) a2 (wrap64 (x7_1-1)) s0_0 bt535.2.1 bt535.2.2) else(none)) else(none)) else(none)) else(none)) else(none)))))) else(none)) else(none))))=some (r1,r2,r3):=by rw[if_pos rfl]at H;exact H
      obtain⟨⟨t526,t527,t528⟩,A9,H⟩:=bo_ H
      try dsimp only at H
      obtain⟨⟨t529,t530,t531⟩,A10,H⟩:=bo_ H
      try dsimp only at H
      by_cases c11:0≤t529
      ·rw[if_pos c11]at H
       have c11b0:decide (0≤t529)=true:=decide_eq_true c11
       clear c11
       by_cases c12:t529<(a2.size:Int)
       ·rw[if_pos c12]at H
        have c12b0:decide (t529<(a2.size:Int))=true:=decide_eq_true c12
        clear c12
        obtain⟨y532,hy532⟩:∃y_:List Int,y_=(([bt a2 t529]:List Int)):=⟨_,rfl⟩
        replace H:((spec_l1Cur_pick.f s0_0 t530 t531 3).bind fun bt535=>(if bt535.1=0 then(if 0≤t526 then(if t526≤(x1_1.size:Int) then(if(x1_1.extract 0 (t526:Int).toNat).size+(strOfNums y532).size≤9223372036854775807 then(if((x1_1.extract 0 (t526:Int).toNat) ++ (strOfNums y532)).size+(x1_1.extract (t526:Int).toNat x1_1.size).size≤9223372036854775807 then(spec_l1Cur_spoilt.l0 kj5 (((x1_1.extract 0 (t526:Int).toNat) ++ (strOfNums y532)) ++ (x1_1.extract (t526:Int).toNat x1_1.size)) a2 (wrap64 (x7_1-1)) s0_0 bt535.2.1 bt535.2.2) else(none)) else(none)) else(none)) else(none)) else(if bt535.1=1 then(if 0≤t526 then(if t526≤(x1_1.size:Int) then(if(x1_1.extract 0 (t526:Int).toNat).size+(strOfNums y532).size≤9223372036854775807 then(if 0≤(wrap64 (t526+1)) then(if(wrap64 (t526+1))≤(x1_1.size:Int) then(if((x1_1.extract 0 (t526:Int).toNat) ++ (strOfNums y532)).size+(x1_1.extract ((wrap64 (t526+1)):Int).toNat x1_1.size).size≤9223372036854775807 then(spec_l1Cur_spoilt.l0 kj5 (((x1_1.extract 0 (t526:Int).toNat) ++ (strOfNums y532)) ++ (x1_1.extract ((wrap64 (t526+1)):Int).toNat x1_1.size)) a2 (wrap64 (x7_1-1)) s0_0 bt535.2.1 bt535.2.2) else(none)) else(none)) else(none)) else(none)) else(none)) else(none)) else(if 0≤t526 then(if t526≤(x1_1.size:Int) then(if 0≤(wrap64 (t526+1)) then(if(wrap64 (t526+1))≤(x1_1.size:Int) then(if(x1_1.extract 0 (t526:Int).toNat).size+(x1_1.extract ((wrap64 (t526+1)):Int).toNat x1_1.size).size≤9223372036854775807 then(spec_l1Cur_spoilt.l0 kj5 ((x1_1.extract 0 (t526:Int).toNat) ++ (x1_1.extract ((wrap64 (t526+1)):Int).toNat x1_1.size)) a2 (wrap64 (x7_1-1)) s0_0 bt535.2.1 bt535.2.2) else(none)) else(none)) else(none)) else(none)) else(none)))))=some (r1,r2,r3):=by first|(rw[hy532];with_reducible exact H)|(have H2_:=(Option.bind_some _ _).symm.trans H;rw[hy532];with_reducible exact H2_)|(have H2_:=(Option.bind_some _ _).symm.trans H;with_reducible exact H2_) | with_reducible exact H|(rw[hy532];exact H)|exact H
        have Ny532:=am_ hy532
        clear hy532
        obtain⟨⟨t535,t536,t537⟩,A14,H⟩:=bo_ H
        try dsimp only at H
        by_cases c15:t535=0
        ·rw[if_pos c15]at H
         have c15b0:(t535 == 0)=true:=beq_iff_eq.mpr c15
         have c15b1:(t535 != 0)=false:=bne_eq_false_iff_eq.mpr c15
         clear c15
         by_cases c16:0≤t526
         ·rw[if_pos c16]at H
          have c16b0:=eq_true c16
          have c16b1:decide (0≤t526)=true:=decide_eq_true c16
          clear c16
          by_cases c17:t526≤(x1_1.size:Int)
          ·rw[if_pos c17]at H
           have c17b0:=eq_true c17
           have c17b1:decide (t526≤(x1_1.size:Int))=true:=decide_eq_true c17
           clear c17
           by_cases c18:(x1_1.extract 0 (t526:Int).toNat).size+(strOfNums y532).size≤9223372036854775807
           ·rw[if_pos c18]at H
            have c18b0:=eq_true c18
            have c18b1:decide ((x1_1.extract 0 (t526:Int).toNat).size+(strOfNums y532).size≤9223372036854775807)=true:=decide_eq_true c18
            try have c18b2:(9223372036854775807<(x1_1.extract 0 (t526:Int).toNat).size+(strOfNums y532).size)=False:=eq_false (Nat.not_lt.2 c18)
            have c19b0:=eq_true (of_decide_eq_true (a10_):0≤t526)
            have c20b0:=eq_true (of_decide_eq_true (a10_):t526≤(x1_1.size:Int))
            by_cases c21:((x1_1.extract 0 (t526:Int).toNat) ++ (strOfNums y532)).size+(x1_1.extract (t526:Int).toNat x1_1.size).size≤9223372036854775807
            ·rw[if_pos c21]at H
             have c21b0:=eq_true c21
             have c21b1:decide (((x1_1.extract 0 (t526:Int).toNat) ++ (strOfNums y532)).size+(x1_1.extract (t526:Int).toNat x1_1.size).size≤9223372036854775807)=true:=decide_eq_true c21
             try have c21b2:(9223372036854775807<((x1_1.extract 0 (t526:Int).toNat) ++ (strOfNums y532)).size+(x1_1.extract (t526:Int).toNat x1_1.size).size)=False:=eq_false (Nat.not_lt.2 c21)
             try have c21b3:(9223372036854775807<((x1_1.size.extract.size 0 (t526.size:Int).toNat.size)+(strOfNums.size y532.size))+(x1_1.size.extract.size (t526.size:Int).toNat.size x1_1.size.size.size))=False:=eq_false (Nat.not_lt.2 (by have h_:=c21;simp only[ByteArray.size_append]at h_;exact h_))
             have H':=am_ H
             clear H
             iterate 6 (go_wp2_with (first|(go_at_call 54;(with_reducible refine(spec_l1Cur_pick.calls g s0_0 x1001_1 x1002_1 (x1_1.size:Int) t526 t527 t528 w0 _ ?side1 ?side2 A9.out).mono ?_);(case side1=>exact(a2_ HI0.out));(case side2=>exact(a4_ HI0.out));rintro e w22 ⟨rfl,hi,hb,hk⟩;replace HK:=am_ (KeepBut.trans (a6_) hk (.inl rfl));replace HB:=am_ (hb);replace HI0:=am_ (hi);(try clear hb);(try clear hb2);(try clear hk);(try clear hi))|(go_at_call 54;(with_reducible refine(spec_l1Cur_pick.calls g s0_0 t527 t528 (a2.size:Int) t529 t530 t531 w0 _ ?side1 ?side2 A10.out).mono ?_);(case side1=>exact(a2_ HI0.out));(case side2=>exact(a4_ HI0.out));rintro e w23 ⟨rfl,hi,hb,hk⟩;replace HK:=am_ (KeepBut.trans (a6_) hk (.inl rfl));replace HB:=am_ (hb);replace HI0:=am_ (hi);(try clear hb);(try clear hb2);(try clear hk);(try clear hi);have p13:0≤(t529:Int):=of_decide_eq_true (a10_);have q13:t529<(a2.size:Int):=of_decide_eq_true (a10_);have hx13:=bt_at a2 t529;replace p13:=eq_true p13;replace q13:=eq_true q13)|((with_reducible refine gate_dst (N:=32) rfl ?_);(try(refine gate_guard (by rfl) ?_;dsimp only));refine Kd.R_lit (Kd.int .u8) _ 5 ?hg (N:=32) ?hd (xs:=([bt a2 t529]:List Int)) (inner:=[.int .u8 (bt a2 t529)]) (ok:=fun _=>True) (okp:=fun _=>True) ?hr ?hp (fun _ hk=>hk) trivial (Below.refl _ _) (Nat.le_refl _) (by simp) ?_;(case hd=>rfl);(case hg=>rfl);(case hr=>exact hr_);(case hp=>exact(Reps.one (show Kd.M (Kd.int .u8) _ _ _ (bt a2 t529) [.int .u8 (bt a2 t529)] from rfl) (Reps.none _ _)));intro v533 w24 ho25 hb hg_ hnew_;clear hg_ hnew_;(first|rw[← Ny532.out]at ho25|(simp only[Int.reduceToNat]at ho25;rw[← Ny532.out]at ho25));have HO534:=am_ (Kd.R_lower ho25 (keep_size (w:=w) (g:=g) (row:=none) (a6_)));replace HK:=am_ (KeepBut.trans (a6_) (KeepBut.of_below hb g none) (.inl rfl));replace HB:=am_ (below_step ((a4_ HI0.out)) hb);replace HI0:=am_ (IsS55.below ((a2_ HI0.out)) hb);clear hb ho25;have hcv26:=own_string (P:=Tryd.prog) Tryd.underlying22 Tryd.underlying5 Tryd.underlying9 (Kd.own_of_R HO534.out))|(go_at_call 54;(with_reducible refine(spec_l1Cur_pick.calls g s0_0 t530 t531 3 t535 t536 t537 w0 _ ?side1 ?side2 A14.out).mono ?_);(case side1=>exact(a2_ HI0.out));(case side2=>exact(a4_ HI0.out));rintro e w27 ⟨rfl,hi,hb,hk⟩;replace HO534:=am_ (Kd.R_mono (Kd.R_keep (IsS55.apart (show IsS55 w0 _ g s0_0 t530 t531 from(a2_ HI0.out)) ((a1_ HO534.out)) (by decide)) hk (fun _ h=>h.2)) (fun _ h=>h.1));replace HK:=am_ (KeepBut.trans (a6_) hk (.inl rfl));replace HB:=am_ (hb);replace HI0:=am_ (hi);(try clear hb);(try clear hb2);(try clear hk);(try clear hi)));try go_quiet (fail))
             go_roundg kj5
             case measure=>have:=HK1.out;have:=HJ5.out;omega
             case rel=>exact⟨(((x1_1.extract 0 (t526:Int).toNat) ++ (strOfNums y532)) ++ (x1_1.extract (t526:Int).toNat x1_1.size)),(wrap64 (x7_1-1)),(t536),(t537),(by first | rfl|(simp;done)|(simp[*];done)),(by first | rfl|(simp;done)|(simp[*];done)),H',⟨by have:=HK1.out;have:=HJ5.out;omega⟩,⟨(a2_ HI0.out)⟩,⟨a6_⟩,⟨(a4_ HI0.out)⟩⟩
            ·rw[if_neg c21]at H
             exact absurd H (by simp)
           ·rw[if_neg c18]at H
            exact absurd H (by simp)
          ·rw[if_neg c17]at H
           exact absurd H (by simp)
         ·rw[if_neg c16]at H
          exact absurd H (by simp)
        ·rw[if_neg c15]at H
         have c15b0:(t535 == 0)=false:=beq_eq_false_iff_ne.mpr c15
         have c15b1:(t535 != 0)=true:=bne_iff_ne.mpr c15
         by_cases c28:t535=1
         ·rw[if_pos c28]at H
          have c28b0:(t535 == 1)=true:=beq_iff_eq.mpr c28
          have c28b1:(t535 != 1)=false:=bne_eq_false_iff_eq.mpr c28
          clear c28
          by_cases c29:0≤t526
          ·rw[if_pos c29]at H
           have c29b0:=eq_true c29
           have c29b1:decide (0≤t526)=true:=decide_eq_true c29
           clear c29
           by_cases c30:t526≤(x1_1.size:Int)
           ·rw[if_pos c30]at H
            have c30b0:=eq_true c30
            have c30b1:decide (t526≤(x1_1.size:Int))=true:=decide_eq_true c30
            clear c30
            by_cases c31:(x1_1.extract 0 (t526:Int).toNat).size+(strOfNums y532).size≤9223372036854775807
            ·rw[if_pos c31]at H
             have c31b0:=eq_true c31
             have c31b1:decide ((x1_1.extract 0 (t526:Int).toNat).size+(strOfNums y532).size≤9223372036854775807)=true:=decide_eq_true c31
             try have c31b2:(9223372036854775807<(x1_1.extract 0 (t526:Int).toNat).size+(strOfNums y532).size)=False:=eq_false (Nat.not_lt.2 c31)
             obtain⟨ji32,hji32⟩:∃j_:Int,(wrap64 (t526+1))=j_:=⟨_,rfl⟩
             replace H:(if 0≤(ji32) then(if(ji32)≤(x1_1.size:Int) then(if((x1_1.extract 0 (t526:Int).toNat) ++ (strOfNums y532)).size+(x1_1.extract ((ji32):Int).toNat x1_1.size).size≤9223372036854775807 then(spec_l1Cur_spoilt.l0 kj5 (((x1_1.extract 0 (t526:Int).toNat) ++ (strOfNums y532)) ++ (x1_1.extract ((ji32):Int).toNat x1_1.size)) a2 (wrap64 (x7_1-1)) s0_0 t536 t537) else(none)) else(none)) else(none))=some (r1,r2,r3):=by first|(rw[hji32]at H;exact H)|(simp only[hji32]at H ⊢;exact H)
             (try rw[hji32]at A9)
             (try rw[hji32]at A10)
             (try rw[hji32]at A14)
             have hji32w:(IntKind.i64.wrap (t526+1))=ji32:=(i64_w _).trans hji32
             by_cases c33:0≤(ji32)
             ·rw[if_pos c33]at H
              have c33b0:=eq_true c33
              have c33b1:decide (0≤(ji32))=true:=decide_eq_true c33
              clear c33
              by_cases c34:(ji32)≤(x1_1.size:Int)
              ·rw[if_pos c34]at H
               have c34b0:=eq_true c34
               have c34b1:decide ((ji32)≤(x1_1.size:Int))=true:=decide_eq_true c34
               clear c34
               by_cases c35:((x1_1.extract 0 (t526:Int).toNat) ++ (strOfNums y532)).size+(x1_1.extract ((ji32):Int).toNat x1_1.size).size≤9223372036854775807
               ·rw[if_pos c35]at H
                have c35b0:=eq_true c35
                have c35b1:decide (((x1_1.extract 0 (t526:Int).toNat) ++ (strOfNums y532)).size+(x1_1.extract ((ji32):Int).toNat x1_1.size).size≤9223372036854775807)=true:=decide_eq_true c35
                try have c35b2:(9223372036854775807<((x1_1.extract 0 (t526:Int).toNat) ++ (strOfNums y532)).size+(x1_1.extract ((ji32):Int).toNat x1_1.size).size)=False:=eq_false (Nat.not_lt.2 c35)
                try have c35b3:(9223372036854775807<((x1_1.size.extract.size 0 (t526.size:Int).toNat.size)+(strOfNums.size y532.size))+(x1_1.size.extract.size ((ji32.size):Int).toNat.size x1_1.size.size.size))=False:=eq_false (Nat.not_lt.2 (by have h_:=c35;simp only[ByteArray.size_append]at h_;exact h_))
                have H':=am_ H
                clear H
                iterate 6 (go_wp2_with (first|(go_at_call 54;(with_reducible refine(spec_l1Cur_pick.calls g s0_0 x1001_1 x1002_1 (x1_1.size:Int) t526 t527 t528 w0 _ ?side1 ?side2 A9.out).mono ?_);(case side1=>exact(a2_ HI0.out));(case side2=>exact(a4_ HI0.out));rintro e w36 ⟨rfl,hi,hb,hk⟩;replace HK:=am_ (KeepBut.trans (a6_) hk (.inl rfl));replace HB:=am_ (hb);replace HI0:=am_ (hi);(try clear hb);(try clear hb2);(try clear hk);(try clear hi))|(go_at_call 54;(with_reducible refine(spec_l1Cur_pick.calls g s0_0 t527 t528 (a2.size:Int) t529 t530 t531 w0 _ ?side1 ?side2 A10.out).mono ?_);(case side1=>exact(a2_ HI0.out));(case side2=>exact(a4_ HI0.out));rintro e w37 ⟨rfl,hi,hb,hk⟩;replace HK:=am_ (KeepBut.trans (a6_) hk (.inl rfl));replace HB:=am_ (hb);replace HI0:=am_ (hi);(try clear hb);(try clear hb2);(try clear hk);(try clear hi);have p13:0≤(t529:Int):=of_decide_eq_true (a10_);have q13:t529<(a2.size:Int):=of_decide_eq_true (a10_);have hx13:=bt_at a2 t529;replace p13:=eq_true p13;replace q13:=eq_true q13)|((with_reducible refine gate_dst (N:=32) rfl ?_);(try(refine gate_guard (by rfl) ?_;dsimp only));refine Kd.R_lit (Kd.int .u8) _ 5 ?hg (N:=32) ?hd (xs:=([bt a2 t529]:List Int)) (inner:=[.int .u8 (bt a2 t529)]) (ok:=fun _=>True) (okp:=fun _=>True) ?hr ?hp (fun _ hk=>hk) trivial (Below.refl _ _) (Nat.le_refl _) (by simp) ?_;(case hd=>rfl);(case hg=>rfl);(case hr=>exact hr_);(case hp=>exact(Reps.one (show Kd.M (Kd.int .u8) _ _ _ (bt a2 t529) [.int .u8 (bt a2 t529)] from rfl) (Reps.none _ _)));intro v533 w38 ho39 hb hg_ hnew_;clear hg_ hnew_;(first|rw[← Ny532.out]at ho39|(simp only[Int.reduceToNat]at ho39;rw[← Ny532.out]at ho39));have HO534:=am_ (Kd.R_lower ho39 (keep_size (w:=w) (g:=g) (row:=none) (a6_)));replace HK:=am_ (KeepBut.trans (a6_) (KeepBut.of_below hb g none) (.inl rfl));replace HB:=am_ (below_step ((a4_ HI0.out)) hb);replace HI0:=am_ (IsS55.below ((a2_ HI0.out)) hb);clear hb ho39;have hcv40:=own_string (P:=Tryd.prog) Tryd.underlying22 Tryd.underlying5 Tryd.underlying9 (Kd.own_of_R HO534.out))|(go_at_call 54;(with_reducible refine(spec_l1Cur_pick.calls g s0_0 t530 t531 3 t535 t536 t537 w0 _ ?side1 ?side2 A14.out).mono ?_);(case side1=>exact(a2_ HI0.out));(case side2=>exact(a4_ HI0.out));rintro e w41 ⟨rfl,hi,hb,hk⟩;replace HO534:=am_ (Kd.R_mono (Kd.R_keep (IsS55.apart (show IsS55 w0 _ g s0_0 t530 t531 from(a2_ HI0.out)) ((a1_ HO534.out)) (by decide)) hk (fun _ h=>h.2)) (fun _ h=>h.1));replace HK:=am_ (KeepBut.trans (a6_) hk (.inl rfl));replace HB:=am_ (hb);replace HI0:=am_ (hi);(try clear hb);(try clear hb2);(try clear hk);(try clear hi)));try go_quiet (fail))
                go_roundg kj5
                case measure=>have:=HK1.out;have:=HJ5.out;omega
                case rel=>exact⟨(((x1_1.extract 0 (t526:Int).toNat) ++ (strOfNums y532)) ++ (x1_1.extract ((ji32):Int).toNat x1_1.size)),(wrap64 (x7_1-1)),(t536),(t537),(by first | rfl|(simp;done)|(simp only[← hji32]<;>(first|rfl | simp))|(simp[*];done)),(by first | rfl|(simp;done)|(simp[*];done)),H',⟨by have:=HK1.out;have:=HJ5.out;omega⟩,⟨(a2_ HI0.out)⟩,⟨a6_⟩,⟨(a4_ HI0.out)⟩⟩
               ·rw[if_neg c35]at H
                exact absurd H (by simp)
              ·rw[if_neg c34]at H
               exact absurd H (by simp)
             ·rw[if_neg c33]at H
              exact absurd H (by simp)
            ·rw[if_neg c31]at H
             exact absurd H (by simp)
           ·rw[if_neg c30]at H
            exact absurd H (by simp)
          ·rw[if_neg c29]at H
           exact absurd H (by simp)
         ·rw[if_neg c28]at H
          have c28b0:(t535 == 1)=false:=beq_eq_false_iff_ne.mpr c28
          have c28b1:(t535 != 1)=true:=bne_iff_ne.mpr c28
          by_cases c42:0≤t526
          ·rw[if_pos c42]at H
           have c42b0:=eq_true c42
           have c42b1:decide (0≤t526)=true:=decide_eq_true c42
           clear c42
           by_cases c43:t526≤(x1_1.size:Int)
           ·rw[if_pos c43]at H
            have c43b0:=eq_true c43
            have c43b1:decide (t526≤(x1_1.size:Int))=true:=decide_eq_true c43
            clear c43
            obtain⟨ji44,hji44⟩:∃j_:Int,(wrap64 (t526+1))=j_:=⟨_,rfl⟩
            replace H:(if 0≤(ji44) then(if(ji44)≤(x1_1.size:Int) then(if(x1_1.extract 0 (t526:Int).toNat).size+(x1_1.extract ((ji44):Int).toNat x1_1.size).size≤9223372036854775807 then(spec_l1Cur_spoilt.l0 kj5 ((x1_1.extract 0 (t526:Int).toNat) ++ (x1_1.extract ((ji44):Int).toNat x1_1.size)) a2 (wrap64 (x7_1-1)) s0_0 t536 t537) else(none)) else(none)) else(none))=some (r1,r2,r3):=by first|(rw[hji44]at H;exact H)|(simp only[hji44]at H ⊢;exact H)
            (try rw[hji44]at A9)
            (try rw[hji44]at A10)
            (try rw[hji44]at A14)
            have hji44w:(IntKind.i64.wrap (t526+1))=ji44:=(i64_w _).trans hji44
            by_cases c45:0≤(ji44)
            ·rw[if_pos c45]at H
             have c45b0:=eq_true c45
             have c45b1:decide (0≤(ji44))=true:=decide_eq_true c45
             clear c45
             by_cases c46:(ji44)≤(x1_1.size:Int)
             ·rw[if_pos c46]at H
              have c46b0:=eq_true c46
              have c46b1:decide ((ji44)≤(x1_1.size:Int))=true:=decide_eq_true c46
              clear c46
              by_cases c47:(x1_1.extract 0 (t526:Int).toNat).size+(x1_1.extract ((ji44):Int).toNat x1_1.size).size≤9223372036854775807
              ·rw[if_pos c47]at H
               have c47b0:=eq_true c47
               have c47b1:decide ((x1_1.extract 0 (t526:Int).toNat).size+(x1_1.extract ((ji44):Int).toNat x1_1.size).size≤9223372036854775807)=true:=decide_eq_true c47
               try have c47b2:(9223372036854775807<(x1_1.extract 0 (t526:Int).toNat).size+(x1_1.extract ((ji44):Int).toNat x1_1.size).size)=False:=eq_false (Nat.not_lt.2 c47)
               have H':=am_ H
               clear H
               iterate 6 (go_wp2_with (first|(go_at_call 54;(with_reducible refine(spec_l1Cur_pick.calls g s0_0 x1001_1 x1002_1 (x1_1.size:Int) t526 t527 t528 w0 _ ?side1 ?side2 A9.out).mono ?_);(case side1=>exact(a2_ HI0.out));(case side2=>exact(a4_ HI0.out));rintro e w48 ⟨rfl,hi,hb,hk⟩;replace HK:=am_ (KeepBut.trans (a6_) hk (.inl rfl));replace HB:=am_ (hb);replace HI0:=am_ (hi);(try clear hb);(try clear hb2);(try clear hk);(try clear hi))|(go_at_call 54;(with_reducible refine(spec_l1Cur_pick.calls g s0_0 t527 t528 (a2.size:Int) t529 t530 t531 w0 _ ?side1 ?side2 A10.out).mono ?_);(case side1=>exact(a2_ HI0.out));(case side2=>exact(a4_ HI0.out));rintro e w49 ⟨rfl,hi,hb,hk⟩;replace HK:=am_ (KeepBut.trans (a6_) hk (.inl rfl));replace HB:=am_ (hb);replace HI0:=am_ (hi);(try clear hb);(try clear hb2);(try clear hk);(try clear hi);have p13:0≤(t529:Int):=of_decide_eq_true (a10_);have q13:t529<(a2.size:Int):=of_decide_eq_true (a10_);have hx13:=bt_at a2 t529;replace p13:=eq_true p13;replace q13:=eq_true q13)|((with_reducible refine gate_dst (N:=32) rfl ?_);(try(refine gate_guard (by rfl) ?_;dsimp only));refine Kd.R_lit (Kd.int .u8) _ 5 ?hg (N:=32) ?hd (xs:=([bt a2 t529]:List Int)) (inner:=[.int .u8 (bt a2 t529)]) (ok:=fun _=>True) (okp:=fun _=>True) ?hr ?hp (fun _ hk=>hk) trivial (Below.refl _ _) (Nat.le_refl _) (by simp) ?_;(case hd=>rfl);(case hg=>rfl);(case hr=>exact hr_);(case hp=>exact(Reps.one (show Kd.M (Kd.int .u8) _ _ _ (bt a2 t529) [.int .u8 (bt a2 t529)] from rfl) (Reps.none _ _)));intro v533 w50 ho51 hb hg_ hnew_;clear hg_ hnew_;(first|rw[← Ny532.out]at ho51|(simp only[Int.reduceToNat]at ho51;rw[← Ny532.out]at ho51));have HO534:=am_ (Kd.R_lower ho51 (keep_size (w:=w) (g:=g) (row:=none) (a6_)));replace HK:=am_ (KeepBut.trans (a6_) (KeepBut.of_below hb g none) (.inl rfl));replace HB:=am_ (below_step ((a4_ HI0.out)) hb);replace HI0:=am_ (IsS55.below ((a2_ HI0.out)) hb);clear hb ho51;have hcv52:=own_string (P:=Tryd.prog) Tryd.underlying22 Tryd.underlying5 Tryd.underlying9 (Kd.own_of_R HO534.out))|(go_at_call 54;(with_reducible refine(spec_l1Cur_pick.calls g s0_0 t530 t531 3 t535 t536 t537 w0 _ ?side1 ?side2 A14.out).mono ?_);(case side1=>exact(a2_ HI0.out));(case side2=>exact(a4_ HI0.out));rintro e w53 ⟨rfl,hi,hb,hk⟩;replace HO534:=am_ (Kd.R_mono (Kd.R_keep (IsS55.apart (show IsS55 w0 _ g s0_0 t530 t531 from(a2_ HI0.out)) ((a1_ HO534.out)) (by decide)) hk (fun _ h=>h.2)) (fun _ h=>h.1));replace HK:=am_ (KeepBut.trans (a6_) hk (.inl rfl));replace HB:=am_ (hb);replace HI0:=am_ (hi);(try clear hb);(try clear hb2);(try clear hk);(try clear hi)));try go_quiet (fail))
               go_roundg kj5
               case measure=>have:=HK1.out;have:=HJ5.out;omega
               case rel=>exact⟨((x1_1.extract 0 (t526:Int).toNat) ++ (x1_1.extract ((ji44):Int).toNat x1_1.size)),(wrap64 (x7_1-1)),(t536),(t537),(by first | rfl|(simp;done)|(simp only[← hji44]<;>(first|rfl | simp))|(simp[*];done)),(by first | rfl|(simp;done)|(simp[*];done)),H',⟨by have:=HK1.out;have:=HJ5.out;omega⟩,⟨(a2_ HI0.out)⟩,⟨a6_⟩,⟨(a4_ HI0.out)⟩⟩
              ·rw[if_neg c47]at H
               exact absurd H (by simp)
             ·rw[if_neg c46]at H
              exact absurd H (by simp)
            ·rw[if_neg c45]at H
             exact absurd H (by simp)
           ·rw[if_neg c43]at H
            exact absurd H (by simp)
          ·rw[if_neg c42]at H
           exact absurd H (by simp)
       ·rw[if_neg c12]at H
        exact absurd H (by simp)
      ·rw[if_neg c11]at H
       exact absurd H (by simp)
     ·replace c8:=Bool.eq_false_iff.mpr c8
      subst c8
      replace H:(some (x1_1,x1001_1,x1002_1))=some (r1,r2,r3):=by rw[if_neg (show ¬(false=true) by decide)]at H;exact H
      simp only[Option.some.injEq,Prod.mk.injEq]at H
      obtain⟨rfl,rfl,rfl⟩:=H
      go_wp2
      repeat (go_quiet (fail);try go_wp2)
      go_ret
      exact⟨a8_,(a2_ HI0.out),(a4_ HI0.out),a6_⟩

/-! ### spec_DrawReadChecksum: function 24 -/
def spec_DrawReadChecksum.f (k:Nat) (l0:List Int):Option (ByteArray):=(spec_l1Cur_checksum.f l0 0 0).bind fun bt539=>((spec_ckIs.f bt539.1).bind fun t542=>(if t542=true then((spec_ckText.f k bt539.1).bind fun t549=>((spec_l1Cur_one.f l0 bt539.2.1 bt539.2.2 3).bind fun bt550=>(if bt550.1=true then((spec_l1Cur_spoilt.f k l0 bt550.2.1 bt550.2.2 t549 (⟨#[48,49,57,120]⟩:ByteArray)).bind fun bt553=>(some bt553.1)) else(some t549)))) else((spec_l1Cur_of.f l0 bt539.2.1 bt539.2.2 (([(⟨#[]⟩:ByteArray),(⟨#[49]⟩:ByteArray),(⟨#[49,48,48,48,48,48,51]⟩:ByteArray),(⟨#[48,48,48,48,48,48,48,49]⟩:ByteArray),(⟨#[48,48,48,48,48,48,120]⟩:ByteArray),(⟨#[49,48,48,48,48,48,50]⟩:ByteArray)]:List ByteArray))).bind fun bt546=>(some bt546.1))))
theorem spec_DrawReadChecksum.mono:∀a0 k,LeO (spec_DrawReadChecksum.f k a0) (spec_DrawReadChecksum.f (k+1) a0):=by
 intro a0 k
 unfold spec_DrawReadChecksum.f
 repeat' first
  |(with_reducible exact spec_ckText.mono _ _)
  |(with_reducible exact spec_l1Cur_spoilt.mono _ _ _ _ _ _)
  |(with_reducible exact LeO.refl _)
  |(with_reducible exact LeO.none _)
  |(with_reducible refine LeO.ite ?_ ?_)
  |(with_reducible refine LeO.bind ?_ (fun _=>?_))
  |exact spec_ckText.mono _ _
  |exact spec_l1Cur_spoilt.mono _ _ _ _ _ _
  |exact LeO.none _
   | refine LeO.ite ?_ ?_
   | refine LeO.bind ?_ (fun _=>?_)
set_option maxHeartbeats 8000000 in
set_option maxRecDepth 100000 in
theorem spec_DrawReadChecksum.calls (k:Nat) (A0:Option Addr) (c0:Nat) (l0:List Int) (r:ByteArray) (w:World) (hr0:Kd.C (Kd.int .u8) w A0 l0.length l0) (hc0:l0.length≤c0) (h:spec_DrawReadChecksum.f k l0=some r) :
 Calls Tryd.prog 24 #[.slice A0 l0.length c0] w fun e w'=>e = .returned (.string r)∧Below w.heap.size w w':=by
 have hu55:=Tryd.underlying55
 have HR0:=am_ hr0
 have HC0:=am_ hc0
 clear hr0 hc0
 have HB:=am_ (Below.refl w.heap.size w)
 have H:((spec_l1Cur_checksum.f l0 0 0).bind fun bt539=>((spec_ckIs.f bt539.1).bind fun t542=>(if t542=true then((spec_ckText.f k bt539.1).bind fun t549=>((spec_l1Cur_one.f l0 bt539.2.1 bt539.2.2 3).bind fun bt550=>(if bt550.1=true then((spec_l1Cur_spoilt.f k l0 bt550.2.1 bt550.2.2 t549 (⟨#[48,49,57,120]⟩:ByteArray)).bind fun bt553=>(some bt553.1)) else(some t549)))) else((spec_l1Cur_of.f l0 bt539.2.1 bt539.2.2 (([(⟨#[]⟩:ByteArray),(⟨#[49]⟩:ByteArray),(⟨#[49,48,48,48,48,48,51]⟩:ByteArray),(⟨#[48,48,48,48,48,48,48,49]⟩:ByteArray),(⟨#[48,48,48,48,48,48,120]⟩:ByteArray),(⟨#[49,48,48,48,48,48,50]⟩:ByteArray)]:List ByteArray))).bind fun bt546=>(some bt546.1)))))=some r:=h
 clear h
 obtain⟨⟨t539,t540,t541⟩,A2,H⟩:=bo_ H
 try dsimp only at H
 obtain⟨t542,A3,H⟩:=bo_ H
 try dsimp only at H
 by_cases c4:t542=true
 ·subst c4
  replace H:((spec_ckText.f k t539).bind fun t549=>((spec_l1Cur_one.f l0 t540 t541 3).bind fun bt550=>(if bt550.1=true then((spec_l1Cur_spoilt.f k l0 bt550.2.1 bt550.2.2 t549 (⟨#[48,49,57,120]⟩:ByteArray)).bind fun bt553=>(some bt553.1)) else(some t549))))=some r:=by rw[if_pos rfl]at H;exact H
  obtain⟨t549,A5,H⟩:=bo_ H
  try dsimp only at H
  obtain⟨⟨t550,t551,t552⟩,A6,H⟩:=bo_ H
  try dsimp only at H
  by_cases c7:t550=true
  ·subst c7
   replace H:((spec_l1Cur_spoilt.f k l0 t551 t552 t549 (⟨#[48,49,57,120]⟩:ByteArray)).bind fun bt553=>(some bt553.1))=some r:=by rw[if_pos rfl]at H;exact H
   obtain⟨⟨t553,t554,t555⟩,A8,H⟩:=bo_ H
   try dsimp only at H
   obtain rfl:=Option.some.inj H
   go_enter Tryd.func24,Tryd.ntmps24
   go_wp2_with (first|((with_reducible refine gate_dst (N:=8) rfl ?_);refine box_event ?hg (N:=8) ?hd (cs:= #[.slice A0 l0.length c0, .int .i64 0, .int .u64 0]) (t:=55) ?hr ?_;(case hd=>rfl);(case hg=>rfl);(case hr=>exact hr_);intro g538 hg w9 hbox hb;have HI538:=am_ ((⟨_,_,hbox,by rw[hg];exact(below_size (a0_)),HR0.out⟩:IsS55 w w9 g538 l0 0 0));replace HB:=am_ (below_step (a0_) hb);clear hb hbox hg)|((with_reducible refine gate_callee (f:=55) rfl ?_);refine goesL_ (some 10) rfl rfl Tryd.func55 (by kernel_rfl) rfl #[.pointer (some ⟨g538,0,none⟩)] rfl gd_ ?_;(with_reducible refine(spec_l1Cur_checksum.calls g538 l0 0 0 t539 t540 t541 w _ ?side1 ?side2 A2.out).mono ?_);(case side1=>exact(a2_ HI538.out));(case side2=>exact(a4_ HI538.out));rintro e w10 ⟨rfl,hi,hb,hk⟩;refine⟨_,rfl,?_⟩;replace HB:=am_ (hb);replace HI538:=am_ (hi);(try clear hb);(try clear hb2);(try clear hk);(try clear hi))|((with_reducible refine gate_callee (f:=44) rfl ?_);refine goesL_ (some 12) rfl rfl Tryd.func44 (by kernel_rfl) rfl #[.int .i64 t539] rfl gd_ ?_;(with_reducible refine(spec_ckIs.calls t539 true _ A3.out).mono ?_);rintro e w' ⟨rfl,⟨nd,rfl⟩⟩;refine⟨_,rfl,?_⟩)|((with_reducible refine gate_callee (f:=60) rfl ?_);refine goesL_ (some 18) rfl rfl Tryd.func60 (by kernel_rfl) rfl #[.int .i64 t539] rfl gd_ ?_;(with_reducible refine(spec_ckText.calls k t539 t549 _ A5.out).mono ?_);rintro e w11 ⟨rfl,hb⟩;refine⟨_,rfl,?_⟩;replace HB:=am_ (below_step ((a4_ HI538.out)) hb);replace HI538:=am_ (IsS55.below ((a2_ HI538.out)) hb);(try clear hb);(try clear hb2);(try clear hk);(try clear hi))|((with_reducible refine gate_callee (f:=61) rfl ?_);refine goesL_ (some 20) rfl rfl Tryd.func61 (by kernel_rfl) rfl #[.pointer (some ⟨g538,0,none⟩), .int .i64 3] rfl gd_ ?_;(with_reducible refine(spec_l1Cur_one.calls g538 l0 t540 t541 3 true t551 t552 w _ ?side1 ?side2 A6.out).mono ?_);(case side1=>exact(a2_ HI538.out));(case side2=>exact(a4_ HI538.out));rintro e w12 ⟨rfl,hi,hb,hk⟩;refine⟨_,rfl,?_⟩;replace HB:=am_ (hb);replace HI538:=am_ (hi);(try clear hb);(try clear hb2);(try clear hk);(try clear hi))|((with_reducible refine gate_callee (f:=62) rfl ?_);refine goesL_ (some 23) rfl rfl Tryd.func62 (by kernel_rfl) rfl #[.pointer (some ⟨g538,0,none⟩), .string t549, .string (⟨#[48,49,57,120]⟩:ByteArray)] rfl gd_ ?_;(with_reducible refine(spec_l1Cur_spoilt.calls k g538 l0 t551 t552 t549 (⟨#[48,49,57,120]⟩:ByteArray) t553 t554 t555 w _ ?side1 ?side2 A8.out).mono ?_);(case side1=>exact(a2_ HI538.out));(case side2=>exact(a4_ HI538.out));rintro e w13 ⟨rfl,hi,hb,hk⟩;refine⟨_,rfl,?_⟩;replace HB:=am_ (hb);replace HI538:=am_ (hi);(try clear hb);(try clear hb2);(try clear hk);(try clear hi)))
   go_ret
   exact⟨a8_,(a4_ HI538.out)⟩
  ·replace c7:=Bool.eq_false_iff.mpr c7
   subst c7
   replace H:(some t549)=some r:=by rw[if_neg (show ¬(false=true) by decide)]at H;exact H
   obtain rfl:=Option.some.inj H
   go_enter Tryd.func24,Tryd.ntmps24
   go_wp2_with (first|((with_reducible refine gate_dst (N:=8) rfl ?_);refine box_event ?hg (N:=8) ?hd (cs:= #[.slice A0 l0.length c0, .int .i64 0, .int .u64 0]) (t:=55) ?hr ?_;(case hd=>rfl);(case hg=>rfl);(case hr=>exact hr_);intro g538 hg w14 hbox hb;have HI538:=am_ ((⟨_,_,hbox,by rw[hg];exact(below_size (a0_)),HR0.out⟩:IsS55 w w14 g538 l0 0 0));replace HB:=am_ (below_step (a0_) hb);clear hb hbox hg)|((with_reducible refine gate_callee (f:=55) rfl ?_);refine goesL_ (some 10) rfl rfl Tryd.func55 (by kernel_rfl) rfl #[.pointer (some ⟨g538,0,none⟩)] rfl gd_ ?_;(with_reducible refine(spec_l1Cur_checksum.calls g538 l0 0 0 t539 t540 t541 w _ ?side1 ?side2 A2.out).mono ?_);(case side1=>exact(a2_ HI538.out));(case side2=>exact(a4_ HI538.out));rintro e w15 ⟨rfl,hi,hb,hk⟩;refine⟨_,rfl,?_⟩;replace HB:=am_ (hb);replace HI538:=am_ (hi);(try clear hb);(try clear hb2);(try clear hk);(try clear hi))|((with_reducible refine gate_callee (f:=44) rfl ?_);refine goesL_ (some 12) rfl rfl Tryd.func44 (by kernel_rfl) rfl #[.int .i64 t539] rfl gd_ ?_;(with_reducible refine(spec_ckIs.calls t539 true _ A3.out).mono ?_);rintro e w' ⟨rfl,⟨nd,rfl⟩⟩;refine⟨_,rfl,?_⟩)|((with_reducible refine gate_callee (f:=60) rfl ?_);refine goesL_ (some 18) rfl rfl Tryd.func60 (by kernel_rfl) rfl #[.int .i64 t539] rfl gd_ ?_;(with_reducible refine(spec_ckText.calls k t539 t549 _ A5.out).mono ?_);rintro e w16 ⟨rfl,hb⟩;refine⟨_,rfl,?_⟩;replace HB:=am_ (below_step ((a4_ HI538.out)) hb);replace HI538:=am_ (IsS55.below ((a2_ HI538.out)) hb);(try clear hb);(try clear hb2);(try clear hk);(try clear hi))|((with_reducible refine gate_callee (f:=61) rfl ?_);refine goesL_ (some 20) rfl rfl Tryd.func61 (by kernel_rfl) rfl #[.pointer (some ⟨g538,0,none⟩), .int .i64 3] rfl gd_ ?_;(with_reducible refine(spec_l1Cur_one.calls g538 l0 t540 t541 3 false t551 t552 w _ ?side1 ?side2 A6.out).mono ?_);(case side1=>exact(a2_ HI538.out));(case side2=>exact(a4_ HI538.out));rintro e w17 ⟨rfl,hi,hb,hk⟩;refine⟨_,rfl,?_⟩;replace HB:=am_ (hb);replace HI538:=am_ (hi);(try clear hb);(try clear hb2);(try clear hk);(try clear hi)))
   go_ret
   exact⟨a8_,(a4_ HI538.out)⟩
 ·replace c4:=Bool.eq_false_iff.mpr c4
  subst c4
  replace H:((spec_l1Cur_of.f l0 t540 t541 (([(⟨#[]⟩:ByteArray),(⟨#[49]⟩:ByteArray),(⟨#[49,48,48,48,48,48,51]⟩:ByteArray),(⟨#[48,48,48,48,48,48,48,49]⟩:ByteArray),(⟨#[48,48,48,48,48,48,120]⟩:ByteArray),(⟨#[49,48,48,48,48,48,50]⟩:ByteArray)]:List ByteArray))).bind fun bt546=>(some bt546.1))=some r:=by rw[if_neg (show ¬(false=true) by decide)]at H;exact H
  obtain⟨y543,hy543⟩:∃y_:List ByteArray,y_=(([(⟨#[]⟩:ByteArray),(⟨#[49]⟩:ByteArray),(⟨#[49,48,48,48,48,48,51]⟩:ByteArray),(⟨#[48,48,48,48,48,48,48,49]⟩:ByteArray),(⟨#[48,48,48,48,48,48,120]⟩:ByteArray),(⟨#[49,48,48,48,48,48,50]⟩:ByteArray)]:List ByteArray)):=⟨_,rfl⟩
  replace H:((spec_l1Cur_of.f l0 t540 t541 y543).bind fun bt546=>(some bt546.1))=some r:=by first|(rw[hy543];with_reducible exact H)|(have H2_:=(Option.bind_some _ _).symm.trans H;rw[hy543];with_reducible exact H2_)|(have H2_:=(Option.bind_some _ _).symm.trans H;with_reducible exact H2_) | with_reducible exact H|(rw[hy543];exact H)|exact H
  have Ny543:=am_ hy543
  clear hy543
  obtain⟨⟨t546,t547,t548⟩,A18,H⟩:=bo_ H
  try dsimp only at H
  obtain rfl:=Option.some.inj H
  go_enter Tryd.func24,Tryd.ntmps24
  go_wp2_with (first|((with_reducible refine gate_dst (N:=8) rfl ?_);refine box_event ?hg (N:=8) ?hd (cs:= #[.slice A0 l0.length c0, .int .i64 0, .int .u64 0]) (t:=55) ?hr ?_;(case hd=>rfl);(case hg=>rfl);(case hr=>exact hr_);intro g538 hg w19 hbox hb;have HI538:=am_ ((⟨_,_,hbox,by rw[hg];exact(below_size (a0_)),HR0.out⟩:IsS55 w w19 g538 l0 0 0));replace HB:=am_ (below_step (a0_) hb);clear hb hbox hg)|((with_reducible refine gate_callee (f:=55) rfl ?_);refine goesL_ (some 10) rfl rfl Tryd.func55 (by kernel_rfl) rfl #[.pointer (some ⟨g538,0,none⟩)] rfl gd_ ?_;(with_reducible refine(spec_l1Cur_checksum.calls g538 l0 0 0 t539 t540 t541 w _ ?side1 ?side2 A2.out).mono ?_);(case side1=>exact(a2_ HI538.out));(case side2=>exact(a4_ HI538.out));rintro e w20 ⟨rfl,hi,hb,hk⟩;refine⟨_,rfl,?_⟩;replace HB:=am_ (hb);replace HI538:=am_ (hi);(try clear hb);(try clear hb2);(try clear hk);(try clear hi))|((with_reducible refine gate_callee (f:=44) rfl ?_);refine goesL_ (some 12) rfl rfl Tryd.func44 (by kernel_rfl) rfl #[.int .i64 t539] rfl gd_ ?_;(with_reducible refine(spec_ckIs.calls t539 false _ A3.out).mono ?_);rintro e w' ⟨rfl,⟨nd,rfl⟩⟩;refine⟨_,rfl,?_⟩)|((with_reducible refine gate_dst (N:=15) rfl ?_);refine Kd.R_lit Kd.string _ 9 ?hg (N:=15) ?hd (xs:=([(⟨#[]⟩:ByteArray),(⟨#[49]⟩:ByteArray),(⟨#[49,48,48,48,48,48,51]⟩:ByteArray),(⟨#[48,48,48,48,48,48,48,49]⟩:ByteArray),(⟨#[48,48,48,48,48,48,120]⟩:ByteArray),(⟨#[49,48,48,48,48,48,50]⟩:ByteArray)]:List ByteArray)) (inner:=[.string (⟨#[]⟩:ByteArray), .string (⟨#[49]⟩:ByteArray), .string (⟨#[49,48,48,48,48,48,51]⟩:ByteArray), .string (⟨#[48,48,48,48,48,48,48,49]⟩:ByteArray), .string (⟨#[48,48,48,48,48,48,120]⟩:ByteArray), .string (⟨#[49,48,48,48,48,48,50]⟩:ByteArray)]) (ok:=fun _=>True) (okp:=fun _=>True) ?hr ?hp (fun _ hk=>hk) trivial (Below.refl _ _) (Nat.le_refl _) (by simp) ?_;(case hd=>rfl);(case hg=>rfl);(case hr=>exact hr_);(case hp=>exact(Reps.one (show Kd.M Kd.string _ _ _ (⟨#[]⟩:ByteArray) [.string (⟨#[]⟩:ByteArray)] from rfl) (Reps.one (show Kd.M Kd.string _ _ _ (⟨#[49]⟩:ByteArray) [.string (⟨#[49]⟩:ByteArray)] from rfl) (Reps.one (show Kd.M Kd.string _ _ _ (⟨#[49,48,48,48,48,48,51]⟩:ByteArray) [.string (⟨#[49,48,48,48,48,48,51]⟩:ByteArray)] from rfl) (Reps.one (show Kd.M Kd.string _ _ _ (⟨#[48,48,48,48,48,48,48,49]⟩:ByteArray) [.string (⟨#[48,48,48,48,48,48,48,49]⟩:ByteArray)] from rfl) (Reps.one (show Kd.M Kd.string _ _ _ (⟨#[48,48,48,48,48,48,120]⟩:ByteArray) [.string (⟨#[48,48,48,48,48,48,120]⟩:ByteArray)] from rfl) (Reps.one (show Kd.M Kd.string _ _ _ (⟨#[49,48,48,48,48,48,50]⟩:ByteArray) [.string (⟨#[49,48,48,48,48,48,50]⟩:ByteArray)] from rfl) (Reps.none _ _))))))));intro v544 w21 ho22 hb hg_ hnew_;clear hg_ hnew_;(first|rw[← Ny543.out]at ho22|(simp only[Int.reduceToNat]at ho22;rw[← Ny543.out]at ho22));have HO545:=am_ (Kd.R_lower ho22 (below_size ((a4_ HI538.out))));replace HB:=am_ (below_step ((a4_ HI538.out)) hb);replace HI538:=am_ (IsS55.below ((a2_ HI538.out)) hb);clear hb ho22;obtain⟨Ao23,co23,eo23⟩:=Kd.R_slice HO545.out;subst eo23)|((with_reducible refine gate_callee (f:=59) rfl ?_);refine goesL_ (some 16) rfl rfl Tryd.func59 (by kernel_rfl) rfl #[.pointer (some ⟨g538,0,none⟩), .slice Ao23 y543.length co23] rfl gd_ ?_;(with_reducible refine(spec_l1Cur_of.calls g538 l0 t540 t541 _ _ y543 t546 t547 t548 w _ ?side1 ?side2 ?side3 ?side4 ?side5 A18.out).mono ?_);(case side1=>exact(a2_ HI538.out));(case side2=>exact(a4_ HI538.out));(case side3=>exact(a12_ HO545.out));(case side4=>exact(Kd.R_reads' HO545.out).2.1);(case side5=>exact far_slice (IsS55.own_ne HI538.out HO545.out (by decide)));rintro e w24 ⟨rfl,hi,hb,hk⟩;refine⟨_,rfl,?_⟩;replace HO545:=am_ (Kd.R_mono (Kd.R_keep (IsS55.apart (show IsS55 w _ g538 l0 t540 t541 from(a2_ HI538.out)) ((a1_ HO545.out)) (by decide)) hk (fun _ h=>h.2)) (fun _ h=>h.1));replace HB:=am_ (hb);replace HI538:=am_ (hi);(try clear hb);(try clear hb2);(try clear hk);(try clear hi)))
  go_ret
  exact⟨a8_,(a4_ HI538.out)⟩

/-! ### spec_ReadChecksum: function 25 -/
def spec_ReadChecksum.l0:Nat→ByteArray→Int→Int→Option (Int×Bool)
 | 0,_,_,_=>none
 | k+1,x0,x4,x5=>if x5<(x0.size:Int) then(if 0≤x5 then(if(bt x0 x5)<48 then(some (0,false)) else(if(bt x0 x5)>57 then(some (0,false)) else(spec_ReadChecksum.l0 k x0 (wrap64 ((wrap64 (10*x4))+(((bt x0 x5)-48) % 256))) (wrap64 (x5+1))))) else(none)) else((spec_ckIs.f x4).bind fun t556=>(if t556=true then(some (x4,true)) else(some (0,false))))
def spec_ReadChecksum.f (k:Nat) (a0:ByteArray):Option (Int×Bool):=if(a0.size:Int)=7 then(spec_ReadChecksum.l0 k a0 0 0) else(some (0,false))
theorem spec_ReadChecksum.mono_l:∀k,(∀y0 y1 y2,LeO (spec_ReadChecksum.l0 k y0 y1 y2) (spec_ReadChecksum.l0 (k+1) y0 y1 y2))
 | 0=>fun _ _ _ r h=>by simp[spec_ReadChecksum.l0]at h
 | k+1=>by
  have ih0:=spec_ReadChecksum.mono_l k
  intros
  unfold spec_ReadChecksum.l0
  rotate_left
  all_goals repeat' first|(with_reducible first|exact ih0 _ _ _|exact LeO.refl _|exact LeO.none _|refine LeO.ite ?_ ?_|refine LeO.bind ?_ (fun _=>?_))|exact ih0 _ _ _|exact LeO.none _|refine LeO.ite ?_ ?_|refine LeO.bind ?_ (fun _=>?_)
theorem spec_ReadChecksum.mono:∀a0 k,LeO (spec_ReadChecksum.f k a0) (spec_ReadChecksum.f (k+1) a0):=by
 intro a0 k
 have ih0:=spec_ReadChecksum.mono_l k
 unfold spec_ReadChecksum.f
 repeat' first
  |(with_reducible exact ih0 _ _ _)
  |(with_reducible exact LeO.refl _)
  |(with_reducible exact LeO.none _)
  |(with_reducible refine LeO.ite ?_ ?_)
  |(with_reducible refine LeO.bind ?_ (fun _=>?_))
  |exact ih0 _ _ _
  |exact LeO.none _
   | refine LeO.ite ?_ ?_
   | refine LeO.bind ?_ (fun _=>?_)
set_option maxHeartbeats 8000000 in
set_option maxRecDepth 100000 in
theorem spec_ReadChecksum.calls (k:Nat) (a0:ByteArray) (r1:Int) (r2:Bool) (w:World) (h:spec_ReadChecksum.f k a0=some (r1,r2)) :
 Calls Tryd.prog 25 #[.string a0] w fun e w'=>e = .returned (.tuple #[.int .i64 r1, .bool r2])∧Drawn0 w w':=by
 have H:(if(a0.size:Int)=7 then(spec_ReadChecksum.l0 k a0 0 0) else(some (0,false)))=some (r1,r2):=h
 clear h
 by_cases c2:(a0.size:Int)=7
 ·rw[if_pos c2]at H
  have c2b0:((a0.size:Int) == 7)=true:=beq_iff_eq.mpr c2
  have c2b1:((a0.size:Int) != 7)=false:=bne_eq_false_iff_eq.mpr c2
  clear c2
  have H':=am_ H
  clear H
  go_enter Tryd.func25,Tryd.ntmps25
  go_wp2
  (try simp only[Act.put,List.setIfInBounds_toArray,List.set_cons_zero,List.set_cons_succ])
  go_loopg [4,5] k (fun kq v4 v5 w'=>∃(x4_1:Int) (x5_1:Int),v4 = .int .i64 x4_1∧v5 = .int .i64 x5_1∧Aside0 (spec_ReadChecksum.l0 kq a0 x4_1 x5_1=some (r1,r2))∧Aside0 (kq≤k)∧Drawn0 w w')
  case atStart=>exact⟨(0),(0),(by first | rfl|(simp;done)|(simp[*];done)),(by first | rfl|(simp;done)|(simp[*];done)),H',⟨Nat.le_refl _⟩,a24_⟩
  case round=>
   clear H'
   try clear c2
   try clear c2b0
   try clear c2b1
   try clear p2
   obtain⟨x4_1,x5_1,rfl,rfl,HA,HK1,⟨m1,rfl⟩⟩:=hrel
   cases gk with
   | zero=>exact absurd HA.out (by simp[spec_ReadChecksum.l0])
   | succ k1=>
    have H:=HA.out
    clear HA
    simp only[spec_ReadChecksum.l0]at H
    by_cases c3:x5_1<(a0.size:Int)
    ·rw[if_pos c3]at H
     have c3b0:decide (x5_1<(a0.size:Int))=true:=decide_eq_true c3
     clear c3
     by_cases c4:0≤x5_1
     ·rw[if_pos c4]at H
      have c4b0:decide (0≤x5_1)=true:=decide_eq_true c4
      clear c4
      by_cases c6:(bt a0 x5_1)<48
      ·rw[if_pos c6]at H
       have c6b0:decide ((bt a0 x5_1)<48)=true:=decide_eq_true c6
       clear c6
       simp only[Option.some.injEq,Prod.mk.injEq]at H
       obtain⟨rfl,rfl⟩:=H
       have p5:0≤(x5_1:Int):=of_decide_eq_true (a10_)
       have q5:x5_1<(a0.size:Int):=of_decide_eq_true (a10_)
       have hx5:=bt_at a0 x5_1
       replace p5:=eq_true p5
       replace q5:=eq_true q5
       go_wp2
       go_ret2
       exact⟨by first | rfl|(simp;done)|(simp[*];done),a24_⟩
      ·rw[if_neg c6]at H
       have c6b0:decide ((bt a0 x5_1)<48)=false:=decide_eq_false c6
       clear c6
       by_cases c8:(bt a0 x5_1)>57
       ·rw[if_pos c8]at H
        have c8b0:decide (57<(bt a0 x5_1))=true:=decide_eq_true c8
        clear c8
        simp only[Option.some.injEq,Prod.mk.injEq]at H
        obtain⟨rfl,rfl⟩:=H
        have p5:0≤(x5_1:Int):=of_decide_eq_true (a10_)
        have q5:x5_1<(a0.size:Int):=of_decide_eq_true (a10_)
        have hx5:=bt_at a0 x5_1
        replace p5:=eq_true p5
        replace q5:=eq_true q5
        have p7:0≤(x5_1:Int):=of_decide_eq_true (a10_)
        have q7:x5_1<(a0.size:Int):=of_decide_eq_true (a10_)
        have hx7:=bt_at a0 x5_1
        replace p7:=eq_true p7
        replace q7:=eq_true q7
        go_wp2
        go_ret2
        exact⟨by first | rfl|(simp;done)|(simp[*];done),a24_⟩
       ·rw[if_neg c8]at H
        have c8b0:decide (57<(bt a0 x5_1))=false:=decide_eq_false c8
        clear c8
        have H':=am_ H
        clear H
        have p5:0≤(x5_1:Int):=of_decide_eq_true (a10_)
        have q5:x5_1<(a0.size:Int):=of_decide_eq_true (a10_)
        have hx5:=bt_at a0 x5_1
        replace p5:=eq_true p5
        replace q5:=eq_true q5
        have p7:0≤(x5_1:Int):=of_decide_eq_true (a10_)
        have q7:x5_1<(a0.size:Int):=of_decide_eq_true (a10_)
        have hx7:=bt_at a0 x5_1
        replace p7:=eq_true p7
        replace q7:=eq_true q7
        have p9:0≤(x5_1:Int):=of_decide_eq_true (a10_)
        have q9:x5_1<(a0.size:Int):=of_decide_eq_true (a10_)
        have hx9:=bt_at a0 x5_1
        replace p9:=eq_true p9
        replace q9:=eq_true q9
        go_wp2
        go_roundg k1
        case measure=>have:=HK1.out;omega
        case rel=>exact⟨(wrap64 ((wrap64 (10*x4_1))+(((bt a0 x5_1)-48) % 256))),(wrap64 (x5_1+1)),(by first | rfl|(simp;done)|(simp[*];done)),(by first | rfl|(simp;done)|(simp[*];done)),H',⟨by have:=HK1.out;omega⟩,a24_⟩
     ·rw[if_neg c4]at H
      exact absurd H (by simp)
    ·rw[if_neg c3]at H
     have c3b0:decide (x5_1<(a0.size:Int))=false:=decide_eq_false c3
     clear c3
     obtain⟨t556,A10,H⟩:=bo_ H
     try dsimp only at H
     by_cases c11:t556=true
     ·subst c11
      replace H:(some (x4_1,true))=some (r1,r2):=by rw[if_pos rfl]at H;exact H
      simp only[Option.some.injEq,Prod.mk.injEq]at H
      obtain⟨rfl,rfl⟩:=H
      go_wp2_with (first|((with_reducible refine gate_callee (f:=44) rfl ?_);refine goesL_ (some 34) rfl rfl Tryd.func44 (by kernel_rfl) rfl #[.int .i64 x4_1] rfl gd_ ?_;(with_reducible refine(spec_ckIs.calls x4_1 true _ A10.out).mono ?_);rintro e w' ⟨rfl,⟨nd,rfl⟩⟩;refine⟨_,rfl,?_⟩))
      go_ret2
      exact⟨by first | rfl|(simp;done)|(simp[*];done),a24_⟩
     ·replace c11:=Bool.eq_false_iff.mpr c11
      subst c11
      replace H:(some (0,false))=some (r1,r2):=by rw[if_neg (show ¬(false=true) by decide)]at H;exact H
      simp only[Option.some.injEq,Prod.mk.injEq]at H
      obtain⟨rfl,rfl⟩:=H
      go_wp2_with (first|((with_reducible refine gate_callee (f:=44) rfl ?_);refine goesL_ (some 34) rfl rfl Tryd.func44 (by kernel_rfl) rfl #[.int .i64 x4_1] rfl gd_ ?_;(with_reducible refine(spec_ckIs.calls x4_1 false _ A10.out).mono ?_);rintro e w' ⟨rfl,⟨nd,rfl⟩⟩;refine⟨_,rfl,?_⟩))
      go_ret2
      exact⟨by first | rfl|(simp;done)|(simp[*];done),a24_⟩
 ·rw[if_neg c2]at H
  have c2b0:((a0.size:Int) == 7)=false:=beq_eq_false_iff_ne.mpr c2
  have c2b1:((a0.size:Int) != 7)=true:=bne_iff_ne.mpr c2
  simp only[Option.some.injEq,Prod.mk.injEq]at H
  obtain⟨rfl,rfl⟩:=H
  go_enter Tryd.func25,Tryd.ntmps25
  go_wp2
  go_ret2
  exact⟨by first | rfl|(simp;done)|(simp[*];done),a24_⟩

/-! ### spec_DrawChecksumText: function 26 -/
def spec_DrawChecksumText.f (l0:List Int):Option (Int):=(spec_l1Cur_checksum.f l0 0 0).bind fun bt558=>(some bt558.1)
set_option maxHeartbeats 8000000 in
set_option maxRecDepth 100000 in
theorem spec_DrawChecksumText.calls (A0:Option Addr) (c0:Nat) (l0:List Int) (r:Int) (w:World) (hr0:Kd.C (Kd.int .u8) w A0 l0.length l0) (hc0:l0.length≤c0) (h:spec_DrawChecksumText.f l0=some r) :
 Calls Tryd.prog 26 #[.slice A0 l0.length c0] w fun e w'=>e = .returned (.int .i64 r)∧Below w.heap.size w w':=by
 have hu55:=Tryd.underlying55
 have HR0:=am_ hr0
 have HC0:=am_ hc0
 clear hr0 hc0
 have HB:=am_ (Below.refl w.heap.size w)
 have H:((spec_l1Cur_checksum.f l0 0 0).bind fun bt558=>(some bt558.1))=some r:=h
 clear h
 obtain⟨⟨t558,t559,t560⟩,A2,H⟩:=bo_ H
 try dsimp only at H
 obtain rfl:=Option.some.inj H
 go_enter Tryd.func26,Tryd.ntmps26
 go_wp2_with (first|((with_reducible refine gate_dst (N:=6) rfl ?_);refine box_event ?hg (N:=6) ?hd (cs:= #[.slice A0 l0.length c0, .int .i64 0, .int .u64 0]) (t:=55) ?hr ?_;(case hd=>rfl);(case hg=>rfl);(case hr=>exact hr_);intro g557 hg w3 hbox hb;have HI557:=am_ ((⟨_,_,hbox,by rw[hg];exact(below_size (a0_)),HR0.out⟩:IsS55 w w3 g557 l0 0 0));replace HB:=am_ (below_step (a0_) hb);clear hb hbox hg)|((with_reducible refine gate_callee (f:=55) rfl ?_);refine goesL_ (some 8) rfl rfl Tryd.func55 (by kernel_rfl) rfl #[.pointer (some ⟨g557,0,none⟩)] rfl gd_ ?_;(with_reducible refine(spec_l1Cur_checksum.calls g557 l0 0 0 t558 t559 t560 w _ ?side1 ?side2 A2.out).mono ?_);(case side1=>exact(a2_ HI557.out));(case side2=>exact(a4_ HI557.out));rintro e w4 ⟨rfl,hi,hb,hk⟩;refine⟨_,rfl,?_⟩;replace HB:=am_ (hb);replace HI557:=am_ (hi);(try clear hb);(try clear hb2);(try clear hk);(try clear hi)))
 go_ret
 exact⟨a8_,(a4_ HI557.out)⟩

/-! ### spec_ChecksumText: function 27 -/
def spec_ChecksumText.f (k:Nat) (a0:Int):Option (ByteArray×Bool):=(spec_ckIs.f a0).bind fun t561=>(if t561=true then((spec_ckText.f k a0).bind fun t562=>(some (t562,true))) else(some ((⟨#[]⟩:ByteArray),false)))
theorem spec_ChecksumText.mono:∀a0 k,LeO (spec_ChecksumText.f k a0) (spec_ChecksumText.f (k+1) a0):=by
 intro a0 k
 unfold spec_ChecksumText.f
 repeat' first
  |(with_reducible exact spec_ckText.mono _ _)
  |(with_reducible exact LeO.refl _)
  |(with_reducible exact LeO.none _)
  |(with_reducible refine LeO.ite ?_ ?_)
  |(with_reducible refine LeO.bind ?_ (fun _=>?_))
  |exact spec_ckText.mono _ _
  |exact LeO.none _
   | refine LeO.ite ?_ ?_
   | refine LeO.bind ?_ (fun _=>?_)
set_option maxHeartbeats 8000000 in
set_option maxRecDepth 100000 in
theorem spec_ChecksumText.calls (k:Nat) (a0:Int) (r1:ByteArray) (r2:Bool) (w:World) (h:spec_ChecksumText.f k a0=some (r1,r2)) :
 Calls Tryd.prog 27 #[.int .i64 a0] w fun e w'=>e = .returned (.tuple #[.string r1, .bool r2])∧Below w.heap.size w w':=by
 have HB:=am_ (Below.refl w.heap.size w)
 have H:((spec_ckIs.f a0).bind fun t561=>(if t561=true then((spec_ckText.f k a0).bind fun t562=>(some (t562,true))) else(some ((⟨#[]⟩:ByteArray),false))))=some (r1,r2):=h
 clear h
 obtain⟨t561,A2,H⟩:=bo_ H
 try dsimp only at H
 by_cases c3:t561=true
 ·subst c3
  replace H:((spec_ckText.f k a0).bind fun t562=>(some (t562,true)))=some (r1,r2):=by rw[if_pos rfl]at H;exact H
  obtain⟨t562,A4,H⟩:=bo_ H
  try dsimp only at H
  simp only[Option.some.injEq,Prod.mk.injEq]at H
  obtain⟨rfl,rfl⟩:=H
  go_enter Tryd.func27,Tryd.ntmps27
  go_wp2_with (first|((with_reducible refine gate_callee (f:=44) rfl ?_);refine goesL_ (some 5) rfl rfl Tryd.func44 (by kernel_rfl) rfl #[.int .i64 a0] rfl gd_ ?_;(with_reducible refine(spec_ckIs.calls a0 true _ A2.out).mono ?_);rintro e w' ⟨rfl,⟨nd,rfl⟩⟩;refine⟨_,rfl,?_⟩)|((with_reducible refine gate_callee (f:=60) rfl ?_);refine goesL_ (some 8) rfl rfl Tryd.func60 (by kernel_rfl) rfl #[.int .i64 a0] rfl gd_ ?_;(with_reducible refine(spec_ckText.calls k a0 t562 _ A4.out).mono ?_);rintro e w5 ⟨rfl,hb⟩;refine⟨_,rfl,?_⟩;replace HB:=am_ (below_step (a0_) hb);(try clear hb);(try clear hb2);(try clear hk);(try clear hi)))
  go_ret2
  exact⟨a8_,a0_⟩
 ·replace c3:=Bool.eq_false_iff.mpr c3
  subst c3
  replace H:(some ((⟨#[]⟩:ByteArray),false))=some (r1,r2):=by rw[if_neg (show ¬(false=true) by decide)]at H;exact H
  simp only[Option.some.injEq,Prod.mk.injEq]at H
  obtain⟨rfl,rfl⟩:=H
  go_enter Tryd.func27,Tryd.ntmps27
  go_wp2_with (first|((with_reducible refine gate_callee (f:=44) rfl ?_);refine goesL_ (some 5) rfl rfl Tryd.func44 (by kernel_rfl) rfl #[.int .i64 a0] rfl gd_ ?_;(with_reducible refine(spec_ckIs.calls a0 false _ A2.out).mono ?_);rintro e w' ⟨rfl,⟨nd,rfl⟩⟩;refine⟨_,rfl,?_⟩))
  go_ret2
  exact⟨a8_,a0_⟩

end Go.Proofs.YtpbffmjjhmllbaaDoor.QFnChecksums
