/- Written by a program of this session (the kit's printer, with leaf contracts proved by hand put in): what each Go function computes, and that the call computes it. No condition but those that each theorem names. -/
import Derived.Test.YtpbffmjjhmllbaaDoorQFnChecksumsx0
import Derived.Test.YtpbffmjjhmllbaaDoorQFnChecksumsx2
import Derived.Test.YtpbffmjjhmllbaaDoorQFnChecksumsx3
import Derived.Test.YtpbffmjjhmllbaaDoorQFnChecksumsx5
import Derived.Test.YtpbffmjjhmllbaaDoorQFnChecksumsx9
namespace Go.Proofs.YtpbffmjjhmllbaaDoor.QFnChecksums
open Go.RowKit Go.Proofs.YtpbffmjjhmllbaaDoorW.PrintWords Go.Proofs.YtpbffmjjhmllbaaDoorW.PrintLast Go.Proofs.YtpbffmjjhmllbaaDoorW.PrintMore
attribute [local go_sem] max2_int min2_int max_two min_two max_three min_three max_four min_four   -- for this text's walks alone
set_option linter.unusedVariables false
set_option linter.unusedSimpArgs false

/-! ### spec_shDrop: function 81 -/
def spec_shDrop.f (l0:List (S33)) (a1:Int):Option ((List (S33))):=(some (([]:List (S33)):List (S33))).bind fun y389=>(if 0≤a1 then(if a1≤(l0.length:Int) then((some (l0.take (a1:Int).toNat:List (S33))).bind fun y392=>(if y389.length+y392.length<5864062014805 then((some (y389 ++ y392:List (S33))).bind fun y396=>(if 0≤(wrap64 (a1+1)) then(if(wrap64 (a1+1))≤(l0.length:Int) then((some (l0.drop ((wrap64 (a1+1)):Int).toNat:List (S33))).bind fun y399=>(if y396.length+y399.length<5864062014805 then(some (y396 ++ y399)) else(none))) else(none)) else(none))) else(none))) else(none)) else(none))
def spec_shDrop.T1:Bool×List (List Nat×List Nat):=(true, [([], []),([], []),([], []),([1,2], [1,2]),([0,3], [0,3]),([], []),([], []),([6], [6]),([5,7], [5,7]),([4,8,4], [4,8]),([9,9,0,1,2,3,4,5,6,7,8,9], [9])])
def spec_shDrop.B1:List Nat:=[0,0,0,6,15,0,0,64,224,511,1023]
theorem spec_shDrop.tab1:rtab .any (opsOf Tryd.f81 1)=spec_shDrop.T1:=by kernel_rfl
theorem spec_shDrop.bits1:waitsOk spec_shDrop.T1.2 spec_shDrop.B1=true:=by kernel_rfl
set_option maxHeartbeats 8000000 in
set_option maxRecDepth 100000 in
theorem spec_shDrop.calls (A0:Option Addr) (c0:Nat) (l0:List (S33)) (a1:Int) (r:List (S33)) (w:World) (hr0:Kd.C k33 w A0 l0.length l0) (hc0:l0.length≤c0) (h:spec_shDrop.f l0 a1=some r) :
 Calls Tryd.prog 81 #[.slice A0 l0.length c0, .int .i64 a1] w fun e w'=>∃v0_:Value,e = .returned (v0_)∧Kd.R k33 33 w' w.heap.size (fun _=>True) v0_ r∧Below w.heap.size w w':=by
 have HR0:=am_ hr0
 have HC0:=am_ hc0
 clear hr0 hc0
 have HB:=am_ (Below.refl w.heap.size w)
 have H:((some (([]:List (S33)):List (S33))).bind fun y389=>(if 0≤a1 then(if a1≤(l0.length:Int) then((some (l0.take (a1:Int).toNat:List (S33))).bind fun y392=>(if y389.length+y392.length<5864062014805 then((some (y389 ++ y392:List (S33))).bind fun y396=>(if 0≤(wrap64 (a1+1)) then(if(wrap64 (a1+1))≤(l0.length:Int) then((some (l0.drop ((wrap64 (a1+1)):Int).toNat:List (S33))).bind fun y399=>(if y396.length+y399.length<5864062014805 then(some (y396 ++ y399)) else(none))) else(none)) else(none))) else(none))) else(none)) else(none)))=some r:=h
 clear h
 obtain⟨y389,hy389⟩:∃y_:List (S33),y_=(([]:List (S33))):=⟨_,rfl⟩
 replace H:(if 0≤a1 then(if a1≤(l0.length:Int) then((some (l0.take (a1:Int).toNat:List (S33))).bind fun y392=>(if y389.length+y392.length<5864062014805 then((some (y389 ++ y392:List (S33))).bind fun y396=>(if 0≤(wrap64 (a1+1)) then(if(wrap64 (a1+1))≤(l0.length:Int) then((some (l0.drop ((wrap64 (a1+1)):Int).toNat:List (S33))).bind fun y399=>(if y396.length+y399.length<5864062014805 then(some (y396 ++ y399)) else(none))) else(none)) else(none))) else(none))) else(none)) else(none))=some r:=by first|(rw[hy389];with_reducible exact H)|(have H2_:=(Option.bind_some _ _).symm.trans H;rw[hy389];with_reducible exact H2_)|(have H2_:=(Option.bind_some _ _).symm.trans H;with_reducible exact H2_) | with_reducible exact H|(rw[hy389];exact H)|exact H
 have Ny389:=am_ hy389
 clear hy389
 by_cases c3:0≤a1
 ·rw[if_pos c3]at H
  have c3b0:=eq_true c3
  have c3b1:decide (0≤a1)=true:=decide_eq_true c3
  clear c3
  by_cases c4:a1≤(l0.length:Int)
  ·rw[if_pos c4]at H
   have c4b0:=eq_true c4
   have c4b1:decide (a1≤(l0.length:Int))=true:=decide_eq_true c4
   clear c4
   obtain⟨y392,hy392⟩:∃y_:List (S33),y_=(l0.take (a1:Int).toNat):=⟨_,rfl⟩
   replace H:(if y389.length+y392.length<5864062014805 then((some (y389 ++ y392:List (S33))).bind fun y396=>(if 0≤(wrap64 (a1+1)) then(if(wrap64 (a1+1))≤(l0.length:Int) then((some (l0.drop ((wrap64 (a1+1)):Int).toNat:List (S33))).bind fun y399=>(if y396.length+y399.length<5864062014805 then(some (y396 ++ y399)) else(none))) else(none)) else(none))) else(none))=some r:=by first|(rw[hy392];with_reducible exact H)|(have H2_:=(Option.bind_some _ _).symm.trans H;rw[hy392];with_reducible exact H2_)|(have H2_:=(Option.bind_some _ _).symm.trans H;with_reducible exact H2_) | with_reducible exact H|(rw[hy392];exact H)|exact H
   have Ny392:=am_ hy392
   clear hy392
   by_cases c5:y389.length+y392.length<5864062014805
   ·rw[if_pos c5]at H
    have LMc5:=am_ c5
    clear c5
    obtain⟨y396,hy396⟩:∃y_:List (S33),y_=(y389 ++ y392):=⟨_,rfl⟩
    replace H:(if 0≤(wrap64 (a1+1)) then(if(wrap64 (a1+1))≤(l0.length:Int) then((some (l0.drop ((wrap64 (a1+1)):Int).toNat:List (S33))).bind fun y399=>(if y396.length+y399.length<5864062014805 then(some (y396 ++ y399)) else(none))) else(none)) else(none))=some r:=by first|(rw[hy396];with_reducible exact H)|(have H2_:=(Option.bind_some _ _).symm.trans H;rw[hy396];with_reducible exact H2_)|(have H2_:=(Option.bind_some _ _).symm.trans H;with_reducible exact H2_) | with_reducible exact H|(rw[hy396];exact H)|exact H
    have Ny396:=am_ hy396
    clear hy396
    obtain⟨ji6,hji6⟩:∃j_:Int,(wrap64 (a1+1))=j_:=⟨_,rfl⟩
    replace H:(if 0≤(ji6) then(if(ji6)≤(l0.length:Int) then((some (l0.drop ((ji6):Int).toNat:List (S33))).bind fun y399=>(if y396.length+y399.length<5864062014805 then(some (y396 ++ y399)) else(none))) else(none)) else(none))=some r:=by first|(rw[hji6]at H;exact H)|(simp only[hji6]at H ⊢;exact H)
    have hji6w:(IntKind.i64.wrap (a1+1))=ji6:=(i64_w _).trans hji6
    by_cases c7:0≤(ji6)
    ·rw[if_pos c7]at H
     have c7b0:=eq_true c7
     have c7b1:decide (0≤(ji6))=true:=decide_eq_true c7
     clear c7
     by_cases c8:(ji6)≤(l0.length:Int)
     ·rw[if_pos c8]at H
      have c8b0:=eq_true c8
      have c8b1:decide ((ji6)≤(l0.length:Int))=true:=decide_eq_true c8
      clear c8
      obtain⟨y399,hy399⟩:∃y_:List (S33),y_=(l0.drop ((ji6):Int).toNat):=⟨_,rfl⟩
      replace H:(if y396.length+y399.length<5864062014805 then(some (y396 ++ y399)) else(none))=some r:=by first|(rw[hy399];with_reducible exact H)|(have H2_:=(Option.bind_some _ _).symm.trans H;rw[hy399];with_reducible exact H2_)|(have H2_:=(Option.bind_some _ _).symm.trans H;with_reducible exact H2_) | with_reducible exact H|(rw[hy399];exact H)|exact H
      have Ny399:=am_ hy399
      clear hy399
      by_cases c9:y396.length+y399.length<5864062014805
      ·rw[if_pos c9]at H
       have LMc9:=am_ c9
       clear c9
       obtain⟨y403,hy403⟩:∃y_:List (S33),y_=(y396 ++ y399):=⟨_,rfl⟩
       replace H:(some y403)=some r:=by first|(rw[hy403];with_reducible exact H)|(have H2_:=(Option.bind_some _ _).symm.trans H;rw[hy403];with_reducible exact H2_)|(have H2_:=(Option.bind_some _ _).symm.trans H;with_reducible exact H2_) | with_reducible exact H|(rw[hy403];exact H)|exact H
       have Ny403:=am_ hy403
       clear hy403
       obtain rfl:=Option.some.inj H
       go_enter Tryd.func81,Tryd.ntmps81
       try go_wp2
       replace HB:=am_ (below_drew1 HB.out)
       have q11:(a1:Int)≤((l0.length:Int):Int):=of_decide_eq_true (a10_)
       obtain⟨i011,hi011,_,hsz11,_⟩:=info_parts info33
       have hroom11:l0.length≤c0:=HC0.out
       have hC11:Kd.C k33 _ A0 l0.length l0:=HR0.out
       have hcut11:=cut_to (P:=Tryd.prog) 24 33 .i64 Tryd.underlying24 hi011 A0 l0.length c0 a1 (of_decide_eq_true (a10_)) q11 hroom11
       have hr11:=Kd.C_take (m:=(a1:Int).toNat) hC11 (by omega)
       have hy11:y392.length=(a1:Int).toNat:=(by rw[Ny392.out,List.length_take];omega)
       rw[← Ny392.out]at hr11
       rw[← hy11]at hcut11
       have HR395:=am_ hr11
       have HC395:=am_ (show y392.length≤c0 from by omega)
       clear hr11 hC11 hroom11 hi011 hsz11
       have KY11:=am_ hy11
       clear hy11
       replace q11:=eq_true q11
       have q12:((ji6):Int)≤((l0.length:Int):Int):=of_decide_eq_true (a10_)
       obtain⟨i012,hi012,_,hsz12,_⟩:=info_parts info33
       have hroom12:l0.length≤c0:=HC0.out
       have hC12:Kd.C k33 _ A0 l0.length l0:=HR0.out
       have q012:(0:Int)≤((ji6):Int):=of_decide_eq_true (a10_)
       have hcut12:=cut_from (P:=Tryd.prog) 24 33 .i64 Tryd.underlying24 hi012 3 hsz12 A0 l0.length c0 (ji6) q012 q12
       have hr12:=Kd.C_drop (m:=((ji6):Int).toNat) (c:=c0) hC12 (by omega) hroom12
       obtain⟨A12,hA12⟩:∃A1,A1=(if c0=((ji6):Int).toNat then A0 else(A0:Option Addr).map (·.add (((ji6):Int).toNat*3))):=⟨_,rfl⟩
       obtain⟨c12,hc12⟩:∃c1,c1=c0-((ji6):Int).toNat:=⟨_,rfl⟩
       have hy12:y399.length=l0.length-((ji6):Int).toNat:=(by rw[Ny399.out,List.length_drop]<;>omega)
       rw[show(l0).drop ((ji6):Int).toNat=y399 from Ny399.out.symm]at hr12
       replace hr12:Kd.C k33 _ A12 y399.length y399:=(by rw[hA12];exact hr12)
       rw[← hy12, ← hA12, ← hc12]at hcut12
       have HR402:=am_ hr12
       have HC402:=am_ (show y399.length≤c12 from by rw[hy12,hc12];exact Nat.sub_le_sub_right hroom12 _)
       clear hr12 hC12 hroom12 hi012 hsz12 hc12
       have KY12:=am_ hy12
       have KA12:=am_ hA12
       clear hy12 hA12
       replace q12:=eq_true q12
       refine start_ (n:=11) (S:=fun w'=>True) (ds:=[]) #[false,false,false,false,false,false,false,false,false,false,false] (by kernel_rfl) rfl rfl trivial (fun hHeld=>?_);refine with_tabW spec_shDrop.tab1 spec_shDrop.bits1 (fun HT_ HW_=>?_)
       generalize w.drew=w10 at HB HR395 HR402 hHeld ⊢
       refine pure_ (i:=1) (N:=some 6) (v:=?_) (a':=?_) #[false,true,false,false,false,false,false,false,false,false,false] rfl rfl (any_of HT_.out (by kernel_rfl)) (fun _ _ _ h=>h) (Or.inl ⟨by rfl,?_⟩) ?_ ?_
       rotate_left
       ·intro w'
        go_simp
        with_reducible rfl
       rotate_left
       ·simp only[Act.put,pu_]
        rfl
       refine pure_ (i:=2) (N:=some 7) (v:=?_) (a':=?_) #[false,true,true,false,false,false,false,false,false,false,false] rfl rfl (any_of HT_.out (by kernel_rfl)) (fun _ _ _ h=>h) (Or.inl ⟨by rfl,?_⟩) ?_ ?_
       rotate_left
       ·intro w'
        go_simp
        with_reducible rfl
       rotate_left
       ·simp only[Act.put,pu_]
        rfl
       refine pure_ (i:=3) (N:=some 8) (v:=?_) (a':=?_) #[false,true,true,true,false,false,false,false,false,false,false] rfl rfl (any_of HT_.out (by kernel_rfl)) (fun _ _ _ h=>h) (Or.inl ⟨by rfl,?_⟩) ?_ ?_
       rotate_left
       ·intro w'
        go_simp
        with_reducible rfl
       rotate_left
       ·simp only[Act.put,pu_]
        rfl
       refine pure_ (i:=5) (N:=some 10) (v:=?_) (a':=?_) #[false,true,true,true,false,true,false,false,false,false,false] rfl rfl (any_of HT_.out (by kernel_rfl)) (fun _ _ _ h=>h) (Or.inl ⟨by rfl,?_⟩) ?_ ?_
       rotate_left
       ·intro w'
        go_simp
        with_reducible rfl
       rotate_left
       ·simp only[Act.put,pu_]
        rfl
       refine pure_ (i:=6) (N:=some 11) (v:=?_) (a':=?_) #[false,true,true,true,false,true,true,false,false,false,false] rfl rfl (any_of HT_.out (by kernel_rfl)) (fun _ _ _ h=>h) (Or.inl ⟨by rfl,?_⟩) ?_ ?_
       rotate_left
       ·intro w'
        go_simp
        with_reducible rfl
       rotate_left
       ·simp only[Act.put,pu_]
        rfl
       refine pure_ (i:=7) (N:=some 12) (v:=?_) (a':=?_) #[false,true,true,true,false,true,true,true,false,false,false] rfl rfl (any_of HT_.out (by kernel_rfl)) (fun _ _ _ h=>h) (Or.inl ⟨by rfl,?_⟩) ?_ ?_
       rotate_left
       ·intro w'
        go_simp
        with_reducible rfl
       rotate_left
       ·simp only[Act.put,pu_]
        rfl
       refine pure_ (i:=8) (N:=some 13) (v:=?_) (a':=?_) #[false,true,true,true,false,true,true,true,true,false,false] rfl rfl (any_of HT_.out (by kernel_rfl)) (fun _ _ _ h=>h) (Or.inl ⟨by rfl,?_⟩) ?_ ?_
       rotate_left
       ·intro w'
        go_simp
        with_reducible rfl
       rotate_left
       ·simp only[Act.put,pu_]
        rfl
       refine one_ (i:=0) (N:=some 5) #[true,true,true,true,false,true,true,true,true,false,false] rfl rfl (one_of HT_.out (by kernel_rfl)) (by decide) (fun K hK=>?_)
       refine Kd.R_lit_step k33 _ 33 ?hg (N:=5) ?hd (xs:=([]:List (S33))) (inner:=[]) (ok:=fun _=>True) (okp:=fun _=>True) ?hr ?hp (fun _ hk=>hk) trivial (Below.refl _ _) (Nat.le_refl _) (by simp) ?_;(case hd=>rfl);(case hg=>rfl);(case hr=>exact hr_);(case hp=>exact(Reps.none _ _))
       intro v390 w13 ho14 hb hg_ hnew_
       clear hg_ hnew_
       (first|rw[← Ny389.out]at ho14|(simp only[Int.reduceToNat]at ho14;rw[← Ny389.out]at ho14))
       have HO391:=am_ (Kd.R_lower ho14 (below_size (a0_)))
       replace HB:=am_ (below_step (a0_) hb)
       clear hb ho14
       refine hK.out _ _ trivial (fun hHeld=>?_)
       clear hK K
       refine norm_ (a':=?_) ?_ ?_
       rotate_left
       ·show Act.put _ (some 5) _=_
        simp only[Act.put,pu_]
        rfl
       refine one_ (i:=4) (N:=some 9) #[true,true,true,true,true,true,true,true,true,false,false] rfl rfl (one_of HT_.out (by kernel_rfl)) (by decide) (fun K hK=>?_)
       refine Kd.R_append_rows_step k33 (w0:=w) w.heap.size (by rfl) (.tmp 5) (.tmp 8) 24 33 (.agg #[(.int .i64 0),(.int .i64 0),(.int .i64 0)]) 24 rfl Tryd.underlying24 info33 rfl (by decide) (by omega) v390 y389 y392 _ _ _ (fun _=>True) (fun _=>False) rfl rfl ?aO ?aR (fun _ _ h=>h) (fun _ h=>h.elim) ?aF ?aB ?aS ?aL ?_
       (case aR=>exact(a21_ HR395.out))
       (case aB=>exact(a0_))
       (case aF=>exact(fun _ _=>trivial))
       (case aO=>exact((a1_ HO391.out)))
       (case aS=>exact(below_size (a0_)))
       (case aL=>have:=LMc5.out;omega)
       intro v397 w15 ho hb hg hat
       rw[← Ny396.out]at ho
       have n0_:=am_ (hb)
       have n1_:=am_ (ho)
       clear HB HO391
       have HB:=n0_
       have HO398:=n1_
       clear n0_ n1_ ho hb hg hat
       refine hK.out _ _ trivial (fun hHeld=>?_)
       clear hK K
       refine norm_ (a':=?_) ?_ ?_
       rotate_left
       ·show Act.put _ (some 9) _=_
        simp only[Act.put,pu_]
        rfl
       refine one_ (i:=9) (N:=some 14) #[true,true,true,true,true,true,true,true,true,true,false] rfl rfl (one_of HT_.out (by kernel_rfl)) (by decide) (fun K hK=>?_)
       refine Kd.R_append_rows_step k33 (w0:=w) w.heap.size (by rfl) (.tmp 9) (.tmp 13) 24 33 (.agg #[(.int .i64 0),(.int .i64 0),(.int .i64 0)]) 24 rfl Tryd.underlying24 info33 rfl (by decide) (by omega) v397 y396 y399 _ _ _ (fun _=>True) (fun _=>False) rfl rfl ?aO ?aR (fun _ _ h=>h) (fun _ h=>h.elim) ?aF ?aB ?aS ?aL ?_
       (case aR=>exact(a21_ HR402.out))
       (case aB=>exact(a0_))
       (case aF=>exact(fun _ _=>trivial))
       (case aO=>exact((a1_ HO398.out)))
       (case aS=>exact(below_size (a0_)))
       (case aL=>have:=LMc9.out;omega)
       intro v404 w16 ho hb hg hat
       rw[← Ny403.out]at ho
       have n0_:=am_ (hb)
       have n1_:=am_ (ho)
       clear HB HO398
       have HB:=n0_
       have HO405:=n1_
       clear n0_ n1_ ho hb hg hat
       refine hK.out _ _ trivial (fun hHeld=>?_)
       clear hK K
       refine norm_ (a':=?_) ?_ ?_
       rotate_left
       ·show Act.put _ (some 14) _=_
        simp only[Act.put,pu_]
        rfl
       refine pure_ (i:=10) (N:=some 4) (v:=?_) (a':=?_) #[true,true,true,true,true,true,true,true,true,true,true] rfl rfl (any_of HT_.out (by kernel_rfl)) (fun _ _ _ h=>h) (Or.inl ⟨by rfl,?_⟩) ?_ ?_
       rotate_left
       ·intro w'
        go_simp
        with_reducible rfl
       rotate_left
       ·simp only[Act.put,pu_]
        rfl
       refine done_ (done_of HT_.out (by kernel_rfl)) ?_
       try go_wp2
       go_ret
       exact⟨_,by first | rfl|(simp[errW_none,errW_some]<;>rfl)|(simp only[← hji6];first | rfl|(simp[errW_none,errW_some]<;>rfl))|(simp[*,errW_none,errW_some]<;>rfl),(a1_ HO405.out),a0_⟩
      ·rw[if_neg c9]at H
       exact absurd H (by simp)
     ·rw[if_neg c8]at H
      exact absurd H (by simp)
    ·rw[if_neg c7]at H
     exact absurd H (by simp)
   ·rw[if_neg c5]at H
    exact absurd H (by simp)
  ·rw[if_neg c4]at H
   exact absurd H (by simp)
 ·rw[if_neg c3]at H
  exact absurd H (by simp)

/-! ### spec_l1Cur_changed: function 53 -/
mutual
def spec_l1Cur_changed.l0:Nat→List (S33)→Int→List Int→Int→Int→Option ((List (S33))×Int×Int)
 | 0,_,_,_,_,_=>none
 | k+1,x5,x6,x1000,x1001,x1002=>if x6>0 then(if(x5.length:Int)>0 then((spec_l1Cur_one.f x1000 x1001 x1002 2).bind fun bt416=>(spec_l1Cur_changed.j1 k x5 x6 bt416.1 x1000 bt416.2.1 bt416.2.2)) else(spec_l1Cur_changed.j1 k x5 x6 false x1000 x1001 x1002)) else(some (x5,x1001,x1002))
def spec_l1Cur_changed.j1:Nat→List (S33)→Int→Bool→List Int→Int→Int→Option ((List (S33))×Int×Int)
 | 0,_,_,_,_,_,_=>none
 | k+1,x5,x6,x28,x1000,x1001,x1002=>if x28=true then((spec_l1Cur_pick.f x1000 x1001 x1002 (x5.length:Int)).bind fun bt419=>((spec_shDrop.f x5 bt419.1).bind fun t422=>(spec_l1Cur_changed.j2 k t422 x6 x1000 bt419.2.1 bt419.2.2))) else(spec_l1Cur_changed.j2 k x5 x6 x1000 x1001 x1002)
def spec_l1Cur_changed.j2:Nat→List (S33)→Int→List Int→Int→Int→Option ((List (S33))×Int×Int)
 | 0,_,_,_,_,_=>none
 | k+1,x5,x6,x1000,x1001,x1002=>(spec_l1Cur_hole.f x1000 x1001 x1002).bind fun bt425=>((spec_shWith.f k x5 bt425.1 bt425.2.1 bt425.2.2.1).bind fun bt430=>(if bt430.2=true then(spec_l1Cur_changed.l0 k bt430.1 (wrap64 (x6-1)) x1000 bt425.2.2.2.1 bt425.2.2.2.2) else(spec_l1Cur_changed.l0 k x5 (wrap64 (x6-1)) x1000 bt425.2.2.2.1 bt425.2.2.2.2)))
end
def spec_l1Cur_changed.f (k:Nat) (s0_0:List Int) (s0_1:Int) (s0_2:Int) (l1:List (S33)):Option ((List (S33))×Int×Int):=(some (([]:List (S33)):List (S33))).bind fun y406=>(if y406.length+l1.length<5864062014805 then((some (y406 ++ l1:List (S33))).bind fun y409=>((spec_shGood.f k l1).bind fun t412=>(if t412=true then((spec_l1Cur_pick.f s0_0 s0_1 s0_2 4).bind fun bt413=>(spec_l1Cur_changed.l0 k y409 bt413.1 s0_0 bt413.2.1 bt413.2.2)) else(some (y409,s0_1,s0_2))))) else(none))
theorem spec_l1Cur_changed.mono_l:∀k,(∀y0 y1 y2 y3 y4,LeO (spec_l1Cur_changed.l0 k y0 y1 y2 y3 y4) (spec_l1Cur_changed.l0 (k+1) y0 y1 y2 y3 y4))∧(∀y0 y1 y2 y3 y4 y5,LeO (spec_l1Cur_changed.j1 k y0 y1 y2 y3 y4 y5) (spec_l1Cur_changed.j1 (k+1) y0 y1 y2 y3 y4 y5))∧(∀y0 y1 y2 y3 y4,LeO (spec_l1Cur_changed.j2 k y0 y1 y2 y3 y4) (spec_l1Cur_changed.j2 (k+1) y0 y1 y2 y3 y4))
 | 0=>⟨fun _ _ _ _ _ r h=>by simp[spec_l1Cur_changed.l0]at h,fun _ _ _ _ _ _ r h=>by simp[spec_l1Cur_changed.j1]at h,fun _ _ _ _ _ r h=>by simp[spec_l1Cur_changed.j2]at h⟩
 | k+1=>by
  obtain⟨ih0,ih1,ih2⟩:=spec_l1Cur_changed.mono_l k
  refine⟨?_,?_,?_⟩
  intros
  unfold spec_l1Cur_changed.l0
  rotate_left
  intros
  unfold spec_l1Cur_changed.j1
  rotate_left
  intros
  unfold spec_l1Cur_changed.j2
  rotate_left
  all_goals repeat' first|(with_reducible first|exact ih0 _ _ _ _ _|exact ih1 _ _ _ _ _ _|exact ih2 _ _ _ _ _|exact spec_shGood.mono _ _|exact spec_shWith.mono _ _ _ _ _|exact LeO.refl _|exact LeO.none _|refine LeO.ite ?_ ?_|refine LeO.bind ?_ (fun _=>?_))|exact ih0 _ _ _ _ _|exact ih1 _ _ _ _ _ _|exact ih2 _ _ _ _ _|exact spec_shGood.mono _ _|exact spec_shWith.mono _ _ _ _ _|exact LeO.none _|refine LeO.ite ?_ ?_|refine LeO.bind ?_ (fun _=>?_)
theorem spec_l1Cur_changed.mono:∀a0 a1 a2 a3 k,LeO (spec_l1Cur_changed.f k a0 a1 a2 a3) (spec_l1Cur_changed.f (k+1) a0 a1 a2 a3):=by
 intro a0 a1 a2 a3 k
 obtain⟨ih0,ih1,ih2⟩:=spec_l1Cur_changed.mono_l k
 unfold spec_l1Cur_changed.f
 repeat' first
  |(with_reducible exact ih0 _ _ _ _ _)
  |(with_reducible exact ih1 _ _ _ _ _ _)
  |(with_reducible exact ih2 _ _ _ _ _)
  |(with_reducible exact spec_shGood.mono _ _)
  |(with_reducible exact spec_shWith.mono _ _ _ _ _)
  |(with_reducible exact LeO.refl _)
  |(with_reducible exact LeO.none _)
  |(with_reducible refine LeO.ite ?_ ?_)
  |(with_reducible refine LeO.bind ?_ (fun _=>?_))
  |exact ih0 _ _ _ _ _
  |exact ih1 _ _ _ _ _ _
  |exact ih2 _ _ _ _ _
  |exact spec_shGood.mono _ _
  |exact spec_shWith.mono _ _ _ _ _
  |exact LeO.none _
   | refine LeO.ite ?_ ?_
   | refine LeO.bind ?_ (fun _=>?_)
set_option maxHeartbeats 8000000 in
set_option maxRecDepth 100000 in
theorem spec_l1Cur_changed.calls (k:Nat) (g:Nat) (s0_0:List Int) (s0_1:Int) (s0_2:Int) (A1:Option Addr) (c1:Nat) (l1:List (S33)) (r1:List (S33)) (r2:Int) (r3:Int) (w0 w:World) (hI:IsS55 w0 w g s0_0 s0_1 s0_2) (hB:Below w0.heap.size w0 w) (hr1:∀W_,KeepBut w W_ g none→Kd.C k33 W_ A1 l1.length l1) (hc1:l1.length≤c1) (h:spec_l1Cur_changed.f k s0_0 s0_1 s0_2 l1=some (r1,r2,r3)) :
 Calls Tryd.prog 53 #[.pointer (some ⟨g,0,none⟩), .slice A1 l1.length c1] w fun e w'=>∃v0_:Value,e = .returned (v0_)∧Kd.R k33 33 w' w.heap.size (fun _=>True) v0_ r1∧IsS55 w0 w' g s0_0 r2 r3∧Below w0.heap.size w0 w'∧KeepBut w w' g none:=by
 have HR1:=am_ hr1
 have HC1:=am_ hc1
 clear hr1 hc1
 have HI0:=am_ hI
 have HK:=am_ (KeepBut.refl w g none)
 have HL:=am_ hB.size
 clear hI
 have HW0:=am_ hB.size
 have HB:=am_ hB
 clear hB
 have H:((some (([]:List (S33)):List (S33))).bind fun y406=>(if y406.length+l1.length<5864062014805 then((some (y406 ++ l1:List (S33))).bind fun y409=>((spec_shGood.f k l1).bind fun t412=>(if t412=true then((spec_l1Cur_pick.f s0_0 s0_1 s0_2 4).bind fun bt413=>(spec_l1Cur_changed.l0 k y409 bt413.1 s0_0 bt413.2.1 bt413.2.2)) else(some (y409,s0_1,s0_2))))) else(none)))=some (r1,r2,r3):=h
 clear h
 obtain⟨y406,hy406⟩:∃y_:List (S33),y_=(([]:List (S33))):=⟨_,rfl⟩
 replace H:(if y406.length+l1.length<5864062014805 then((some (y406 ++ l1:List (S33))).bind fun y409=>((spec_shGood.f k l1).bind fun t412=>(if t412=true then((spec_l1Cur_pick.f s0_0 s0_1 s0_2 4).bind fun bt413=>(spec_l1Cur_changed.l0 k y409 bt413.1 s0_0 bt413.2.1 bt413.2.2)) else(some (y409,s0_1,s0_2))))) else(none))=some (r1,r2,r3):=by first|(rw[hy406];with_reducible exact H)|(have H2_:=(Option.bind_some _ _).symm.trans H;rw[hy406];with_reducible exact H2_)|(have H2_:=(Option.bind_some _ _).symm.trans H;with_reducible exact H2_) | with_reducible exact H|(rw[hy406];exact H)|exact H
 have Ny406:=am_ hy406
 clear hy406
 by_cases c3:y406.length+l1.length<5864062014805
 ·rw[if_pos c3]at H
  have LMc3:=am_ c3
  clear c3
  obtain⟨y409,hy409⟩:∃y_:List (S33),y_=(y406 ++ l1):=⟨_,rfl⟩
  replace H:((spec_shGood.f k l1).bind fun t412=>(if t412=true then((spec_l1Cur_pick.f s0_0 s0_1 s0_2 4).bind fun bt413=>(spec_l1Cur_changed.l0 k y409 bt413.1 s0_0 bt413.2.1 bt413.2.2)) else(some (y409,s0_1,s0_2))))=some (r1,r2,r3):=by first|(rw[hy409];with_reducible exact H)|(have H2_:=(Option.bind_some _ _).symm.trans H;rw[hy409];with_reducible exact H2_)|(have H2_:=(Option.bind_some _ _).symm.trans H;with_reducible exact H2_) | with_reducible exact H|(rw[hy409];exact H)|exact H
  have Ny409:=am_ hy409
  clear hy409
  obtain⟨t412,A4,H⟩:=bo_ H
  try dsimp only at H
  by_cases c5:t412=true
  ·subst c5
   replace H:((spec_l1Cur_pick.f s0_0 s0_1 s0_2 4).bind fun bt413=>(spec_l1Cur_changed.l0 k y409 bt413.1 s0_0 bt413.2.1 bt413.2.2))=some (r1,r2,r3):=by rw[if_pos rfl]at H;exact H
   obtain⟨⟨t413,t414,t415⟩,A6,H⟩:=bo_ H
   try dsimp only at H
   have H':=am_ H
   clear H
   go_enter Tryd.func53,Tryd.ntmps53
   go_wp2_with (first|((with_reducible refine gate_dst (N:=9) rfl ?_);refine Kd.R_lit k33 _ 33 ?hg (N:=9) ?hd (xs:=([]:List (S33))) (inner:=[]) (ok:=fun _=>True) (okp:=fun _=>True) ?hr ?hp (fun _ hk=>hk) trivial (Below.refl _ _) (Nat.le_refl _) (by simp) ?_;(case hd=>rfl);(case hg=>rfl);(case hr=>exact hr_);(case hp=>exact(Reps.none _ _));intro v407 w7 ho8 hb hg_ hnew_;clear hg_ hnew_;(first|rw[← Ny406.out]at ho8|(simp only[Int.reduceToNat]at ho8;rw[← Ny406.out]at ho8));have HO408:=am_ (Kd.R_lower ho8 (keep_size (w:=w) (g:=g) (row:=none) (a6_)));replace HK:=am_ (KeepBut.trans (a6_) (KeepBut.of_below hb g none) (.inl rfl));replace HB:=am_ (below_step ((a4_ HI0.out)) hb);replace HI0:=am_ (IsS55.below ((a2_ HI0.out)) hb);clear hb ho8)|((with_reducible refine gate_builtin (b:= .append) (xs:= #[.tmp 9, .tmp 10]) rfl ?_);at_builtin;refine Kd.R_append_rows k33 w.heap.size rfl (.tmp 9) (.tmp 10) 24 33 (.agg #[(.int .i64 0),(.int .i64 0),(.int .i64 0)]) 24 rfl Tryd.underlying24 info33 rfl (by decide) (by omega) v407 y406 l1 _ _ _ (fun _=>True) (fun _=>False) rfl rfl ?aO ?aR (fun _ _ h=>h) (fun _ h=>h.elim) ?aF (Below.refl _ _) ?aS ?aL ?_;(case aR=>exact Kd.C_foot_now HR1.out (a6_));(case aF=>exact(fun _ _=>trivial));(case aO=>exact((a1_ HO408.out)));(case aS=>exact(keep_size (w:=w) (g:=g) (row:=none) (a6_)));(case aL=>have:=LMc3.out;omega);intro v410 w9 ho hb hg hat;rw[← Ny409.out]at ho;have n0_:=am_ (IsS55.grown ((a2_ HI0.out)) hg (IsS55.own_ne HI0.out HO408.out (by decide)));have n1_:=am_ (below_weaken ((a4_ HI0.out)) HL.out hb);have n2_:=am_ (KeepBut.trans (a6_) (KeepBut.of_grown hg g) (Kd.R_base2 HO408.out));have n3_:=am_ (ho);clear HI0 HB HK HO408;have HI0:=n0_;have HB:=n1_;have HK:=n2_;have HO411:=n3_;clear n0_ n1_ n2_ n3_ ho hb hg hat)|((with_reducible refine gate_callee (f:=36) rfl ?_);refine goesL_ (some 13) rfl rfl Tryd.func36 (by kernel_rfl) rfl #[.slice A1 l1.length c1] rfl gd_ ?_;(with_reducible refine(spec_shGood.calls k _ _ l1 true _ ?side1 ?side2 A4.out).mono ?_);(case side1=>exact Kd.C_foot_now HR1.out (a6_));(case side2=>exact HC1.out);rintro e w10 ⟨rfl,hb⟩;refine⟨_,rfl,?_⟩;replace HO411:=am_ (Kd.R_below ((a1_ HO411.out)) hb);replace HK:=am_ (KeepBut.trans (a6_) (KeepBut.of_below hb g none) (.inl rfl));replace HB:=am_ (below_step ((a4_ HI0.out)) hb);replace HI0:=am_ (IsS55.below ((a2_ HI0.out)) hb);(try clear hb);(try clear hb2);(try clear hk);(try clear hi))|((with_reducible refine gate_callee (f:=54) rfl ?_);refine goesL_ (some 17) rfl rfl Tryd.func54 (by kernel_rfl) rfl #[.pointer (some ⟨g,0,none⟩), .int .i64 4] rfl gd_ ?_;(with_reducible refine(spec_l1Cur_pick.calls g s0_0 s0_1 s0_2 4 t413 t414 t415 w0 _ ?side1 ?side2 A6.out).mono ?_);(case side1=>exact(a2_ HI0.out));(case side2=>exact(a4_ HI0.out));rintro e w11 ⟨rfl,hi,hb,hk⟩;refine⟨_,rfl,?_⟩;replace HO411:=am_ (Kd.R_mono (Kd.R_keep (IsS55.apart (show IsS55 w0 _ g s0_0 s0_1 s0_2 from(a2_ HI0.out)) ((a1_ HO411.out)) (by decide)) hk (fun _ h=>h.2)) (fun _ h=>h.1));replace HK:=am_ (KeepBut.trans (a6_) hk (.inl rfl));replace HB:=am_ (hb);replace HI0:=am_ (hi);(try clear hb);(try clear hb2);(try clear hk);(try clear hi)))
   (try simp only[Act.put,List.setIfInBounds_toArray,List.set_cons_zero,List.set_cons_succ])
   go_loopg [5,6] k (fun kq v5 v6 w'=>∃(x5_1:List (S33)) (x6_1:Int) (x1001_1:Int) (x1002_1:Int),v6 = .int .i64 x6_1∧Aside0 (spec_l1Cur_changed.l0 kq x5_1 x6_1 s0_0 x1001_1 x1002_1=some (r1,r2,r3))∧Aside0 (kq≤k)∧Aside0 (Kd.R k33 33 w' w.heap.size (fun _=>True) v5 x5_1)∧Aside0 (IsS55 w0 w' g s0_0 x1001_1 x1002_1)∧Aside0 (KeepBut w w' g none)∧Aside0 (Below w0.heap.size w0 w'))
   case atStart=>exact⟨(y409),(t413),(t414),(t415),(by first | rfl|(simp;done)|(simp[*];done)),H',⟨Nat.le_refl _⟩,⟨(a1_ HO411.out)⟩,⟨(a2_ HI0.out)⟩,⟨a6_⟩,⟨(a4_ HI0.out)⟩⟩
   case round=>
    clear H'
    try clear c1
    try clear p2
    try clear c3
    try clear c5
    obtain⟨x5_1,x6_1,x1001_1,x1002_1,rfl,HA,HK1,HO_5,HI0,HK,HB⟩:=hrel
    cases gk with
    | zero=>exact absurd HA.out (by simp[spec_l1Cur_changed.l0])
    | succ k1=>
     have H:=HA.out
     clear HA
     simp only[spec_l1Cur_changed.l0]at H
     by_cases c12:x6_1>0
     ·rw[if_pos c12]at H
      have c12b0:decide (0<x6_1)=true:=decide_eq_true c12
      clear c12
      have HC13:=am_ H
      clear H
      go_upto_region 7 with (fail)
      go_cut [28] (fun v28 wc=>∃(kq:Nat) (x28_12:Bool) (x1001_12:Int) (x1002_12:Int),v28 = .bool x28_12∧Aside0 (spec_l1Cur_changed.j1 kq x5_1 x6_1 x28_12 s0_0 x1001_12 x1002_12=some (r1,r2,r3))∧Aside0 (kq≤k1)∧Aside0 (Kd.R k33 33 wc w.heap.size (fun _=>True) u5 x5_1)∧Aside0 (IsS55 w0 wc g s0_0 x1001_12 x1002_12)∧Aside0 (KeepBut w wc g none)∧Aside0 (Below w0.heap.size w0 wc))
      case first=>
       have H:=HC13.out
       clear HC13
       by_cases c14:(x5_1.length:Int)>0
       ·rw[if_pos c14]at H
        have c14b0:decide (0<(x5_1.length:Int))=true:=decide_eq_true c14
        have c14b1:decide (0<x5_1.length)=true:=decide_eq_true (by omega)
        clear c14
        (first|rw[c14b0]|(simp only[i64_w,i32_w];rw[c14b0]) | skip)
        obtain⟨⟨t416,t417,t418⟩,A15,H⟩:=bo_ H
        try dsimp only at H
        have H':=am_ H
        clear H
        obtain⟨Ao16,co16,eo16⟩:=Kd.R_slice HO_5.out
        subst eo16
        go_wp2_with (first|(go_at_call 61;(with_reducible refine(spec_l1Cur_one.calls g s0_0 x1001_1 x1002_1 2 t416 t417 t418 w0 _ ?side1 ?side2 A15.out).mono ?_);(case side1=>exact(a2_ HI0.out));(case side2=>exact(a4_ HI0.out));rintro e w17 ⟨rfl,hi,hb,hk⟩;replace HO_5:=am_ (Kd.R_mono (Kd.R_keep (IsS55.apart (show IsS55 w0 _ g s0_0 x1001_1 x1002_1 from(a2_ HI0.out)) ((a1_ HO_5.out)) (by decide)) hk (fun _ h=>h.2)) (fun _ h=>h.1));replace HK:=am_ (KeepBut.trans (a6_) hk (.inl rfl));replace HB:=am_ (hb);replace HI0:=am_ (hi);(try clear hb);(try clear hb2);(try clear hk);(try clear hi)))
        go_meet
        case rel=>exact⟨_,(t416),(t417),(t418),(by first | rfl|(simp;done)|(simp[*];done)),H',⟨by have:=HK1.out;first | omega|exact Nat.le_refl _⟩,⟨(a1_ HO_5.out)⟩,⟨(a2_ HI0.out)⟩,⟨a6_⟩,⟨(a4_ HI0.out)⟩⟩
       ·rw[if_neg c14]at H
        have c14b0:decide (0<(x5_1.length:Int))=false:=decide_eq_false c14
        have c14b1:decide (0<x5_1.length)=false:=decide_eq_false (by omega)
        clear c14
        (first|rw[c14b0]|(simp only[i64_w,i32_w];rw[c14b0]) | skip)
        have H':=am_ H
        clear H
        obtain⟨Ao18,co18,eo18⟩:=Kd.R_slice HO_5.out
        subst eo18
        go_wp2
        go_meet
        case rel=>exact⟨_,(false),(x1001_1),(x1002_1),(by first | rfl|(simp;done)|(simp[*];done)),H',⟨by have:=HK1.out;first | omega|exact Nat.le_refl _⟩,⟨(a1_ HO_5.out)⟩,⟨(a2_ HI0.out)⟩,⟨a6_⟩,⟨(a4_ HI0.out)⟩⟩
      case rest=>
       clear HC13
       try clear c1
       try clear p2
       try clear c3
       try clear c5
       try clear c12
       try clear c12b0
       try clear c14
       try clear c14b0
       try clear c14b1
       try clear p2
       obtain⟨kq,x28_12,x1001_12,x1002_12,rfl,HA,HJ12,HO_5,HI0,HK,HB⟩:=hcut
       cases kq with
       | zero=>exact absurd HA.out (by simp[spec_l1Cur_changed.j1])
       | succ kj12=>
        have H:=HA.out
        clear HA
        simp only[spec_l1Cur_changed.j1]at H
        have HC19:=am_ H
        clear H
        go_upto_if 28 with (fail)
        go_cut [5] (fun v5 wc=>∃(kq:Nat) (x5_18:List (S33)) (x1001_18:Int) (x1002_18:Int),Aside0 (spec_l1Cur_changed.j2 kq x5_18 x6_1 s0_0 x1001_18 x1002_18=some (r1,r2,r3))∧Aside0 (kq≤kj12)∧Aside0 (Kd.R k33 33 wc w.heap.size (fun _=>True) v5 x5_18)∧Aside0 (IsS55 w0 wc g s0_0 x1001_18 x1002_18)∧Aside0 (KeepBut w wc g none)∧Aside0 (Below w0.heap.size w0 wc))
        case first=>
         have H:=HC19.out
         clear HC19
         by_cases c20:x28_12=true
         ·subst c20
          replace H:((spec_l1Cur_pick.f s0_0 x1001_12 x1002_12 (x5_1.length:Int)).bind fun bt419=>((spec_shDrop.f x5_1 bt419.1).bind fun t422=>(spec_l1Cur_changed.j2 kj12 t422 x6_1 s0_0 bt419.2.1 bt419.2.2)))=some (r1,r2,r3):=by rw[if_pos rfl]at H;exact H
          obtain⟨⟨t419,t420,t421⟩,A21,H⟩:=bo_ H
          try dsimp only at H
          obtain⟨t422,A22,H⟩:=bo_ H
          try dsimp only at H
          have H':=am_ H
          clear H
          obtain⟨Ao23,co23,eo23⟩:=Kd.R_slice HO_5.out
          subst eo23
          go_wp2_with (first|((with_reducible refine gate_callee (f:=54) rfl ?_);refine goesL_ (some 33) rfl rfl Tryd.func54 (by kernel_rfl) rfl #[.pointer (some ⟨g,0,none⟩), .int .i64 (x5_1.length:Int)] rfl gd_ ?_;(with_reducible refine(spec_l1Cur_pick.calls g s0_0 x1001_12 x1002_12 (x5_1.length:Int) t419 t420 t421 w0 _ ?side1 ?side2 A21.out).mono ?_);(case side1=>exact(a2_ HI0.out));(case side2=>exact(a4_ HI0.out));rintro e w24 ⟨rfl,hi,hb,hk⟩;refine⟨_,rfl,?_⟩;replace HO_5:=am_ (Kd.R_mono (Kd.R_keep (IsS55.apart (show IsS55 w0 _ g s0_0 x1001_12 x1002_12 from(a2_ HI0.out)) ((a1_ HO_5.out)) (by decide)) hk (fun _ h=>h.2)) (fun _ h=>h.1));replace HK:=am_ (KeepBut.trans (a6_) hk (.inl rfl));replace HB:=am_ (hb);replace HI0:=am_ (hi);(try clear hb);(try clear hb2);(try clear hk);(try clear hi))|((with_reducible refine gate_callee (f:=81) rfl ?_);refine goesL_ (some 34) rfl rfl Tryd.func81 (by kernel_rfl) rfl #[.slice Ao23 x5_1.length co23, .int .i64 t419] rfl gd_ ?_;(with_reducible refine(spec_shDrop.calls _ _ x5_1 t419 t422 _ ?side1 ?side2 A22.out).mono ?_);(case side1=>exact(a12_ HO_5.out));(case side2=>exact(Kd.R_reads' HO_5.out).2.1);rintro e w25 ⟨v423,rfl,ho0,hb⟩;refine⟨_,rfl,?_⟩;have HO424:=am_ (Kd.R_lower (Kd.R_new' ho0 (Kd.R_lt ((a1_ HO_5.out)))) (keep_size (w:=w) (g:=g) (row:=none) (a6_)));replace HO_5:=am_ (Kd.R_elder' ((a1_ HO_5.out)) (Kd.R_base ho0) hb);replace HK:=am_ (KeepBut.trans (a6_) (KeepBut.of_below hb g none) (.inl rfl));replace HB:=am_ (below_step ((a4_ HI0.out)) hb);replace HI0:=am_ (IsS55.below ((a2_ HI0.out)) hb);(try clear hb);(try clear hb2);(try clear hk);(try clear hi);(try clear ho0)))
          go_meet
          case rel=>exact⟨_,(t422),(t420),(t421),H',⟨by have:=HK1.out;have:=HJ12.out;first | omega|exact Nat.le_refl _⟩,⟨(a36_ HO424.out)⟩,⟨(a2_ HI0.out)⟩,⟨a6_⟩,⟨(a4_ HI0.out)⟩⟩
         ·replace c20:=Bool.eq_false_iff.mpr c20
          subst c20
          replace H:(spec_l1Cur_changed.j2 kj12 x5_1 x6_1 s0_0 x1001_12 x1002_12)=some (r1,r2,r3):=by rw[if_neg (show ¬(false=true) by decide)]at H;exact H
          have H':=am_ H
          clear H
          go_wp2
          go_meet
          case rel=>exact⟨_,(x5_1),(x1001_12),(x1002_12),H',⟨by have:=HK1.out;have:=HJ12.out;first | omega|exact Nat.le_refl _⟩,⟨(a1_ HO_5.out)⟩,⟨(a2_ HI0.out)⟩,⟨a6_⟩,⟨(a4_ HI0.out)⟩⟩
        case rest=>
         clear HC19
         try clear c1
         try clear c2
         try clear p2
         try clear c3
         try clear c5
         try clear c8
         try clear c12
         try clear c12b0
         try clear c14
         try clear c14b0
         try clear c14b1
         try clear c20
         try clear p2
         obtain⟨kq,x5_18,x1001_18,x1002_18,HA,HJ18,HO_5,HI0,HK,HB⟩:=hcut
         cases kq with
         | zero=>exact absurd HA.out (by simp[spec_l1Cur_changed.j2])
         | succ kj18=>
          have H:=HA.out
          clear HA
          simp only[spec_l1Cur_changed.j2]at H
          obtain⟨⟨t425,t426,t427,t428,t429⟩,A26,H⟩:=bo_ H
          try dsimp only at H
          obtain⟨⟨t430,t433⟩,A27,H⟩:=bo_ H
          try dsimp only at H
          by_cases c28:t433=true
          ·subst c28
           replace H:(spec_l1Cur_changed.l0 kj18 t430 (wrap64 (x6_1-1)) s0_0 t428 t429)=some (r1,r2,r3):=by rw[if_pos rfl]at H;exact H
           have H':=am_ H
           clear H
           go_wp2_with (first|((with_reducible refine gate_callee (f:=57) rfl ?_);refine goesL_ (some 38) rfl rfl Tryd.func57 (by kernel_rfl) rfl #[.pointer (some ⟨g,0,none⟩)] rfl gd_ ?_;(with_reducible refine(spec_l1Cur_hole.calls g s0_0 x1001_18 x1002_18 t425 t426 t427 t428 t429 w0 _ ?side1 ?side2 A26.out).mono ?_);(case side1=>exact(a2_ HI0.out));(case side2=>exact(a4_ HI0.out));rintro e w29 ⟨rfl,hi,hb,hk⟩;refine⟨_,rfl,?_⟩;replace HO_5:=am_ (Kd.R_mono (Kd.R_keep (IsS55.apart (show IsS55 w0 _ g s0_0 x1001_18 x1002_18 from(a2_ HI0.out)) ((a1_ HO_5.out)) (by decide)) hk (fun _ h=>h.2)) (fun _ h=>h.1));replace HK:=am_ (KeepBut.trans (a6_) hk (.inl rfl));replace HB:=am_ (hb);replace HI0:=am_ (hi);(try clear hb);(try clear hb2);(try clear hk);(try clear hi);obtain⟨Ao30,co30,eo30⟩:=Kd.R_slice HO_5.out;subst eo30)|((with_reducible refine gate_callee (f:=80) rfl ?_);refine goesL_ (some 39) rfl rfl Tryd.func80 (by kernel_rfl) rfl #[.slice Ao30 x5_18.length co30, .agg #[.int .i64 t425, .int .i64 t426, .int .i64 t427]] rfl gd_ ?_;(with_reducible refine(spec_shWith.calls kj18 _ _ x5_18 t425 t426 t427 t430 true _ ?side1 ?side2 A27.out).mono ?_);(case side1=>exact(a12_ HO_5.out));(case side2=>exact(Kd.R_reads' HO_5.out).2.1);rintro e w31 ⟨v431,rfl,ho0,hb⟩;refine⟨_,rfl,?_⟩;have HO432:=am_ (Kd.R_lower (Kd.R_new' ho0 (Kd.R_lt ((a1_ HO_5.out)))) (keep_size (w:=w) (g:=g) (row:=none) (a6_)));replace HO_5:=am_ (Kd.R_elder' ((a1_ HO_5.out)) (Kd.R_base ho0) hb);replace HK:=am_ (KeepBut.trans (a6_) (KeepBut.of_below hb g none) (.inl rfl));replace HB:=am_ (below_step ((a4_ HI0.out)) hb);replace HI0:=am_ (IsS55.below ((a2_ HI0.out)) hb);(try clear hb);(try clear hb2);(try clear hk);(try clear hi);(try clear ho0)))
           go_roundg kj18
           case measure=>have:=HK1.out;have:=HJ12.out;have:=HJ18.out;omega
           case rel=>exact⟨(t430),(wrap64 (x6_1-1)),(t428),(t429),(by first | rfl|(simp;done)|(simp[*];done)),H',⟨by have:=HK1.out;have:=HJ12.out;have:=HJ18.out;omega⟩,⟨(a36_ HO432.out)⟩,⟨(a2_ HI0.out)⟩,⟨a6_⟩,⟨(a4_ HI0.out)⟩⟩
          ·replace c28:=Bool.eq_false_iff.mpr c28
           subst c28
           replace H:(spec_l1Cur_changed.l0 kj18 x5_18 (wrap64 (x6_1-1)) s0_0 t428 t429)=some (r1,r2,r3):=by rw[if_neg (show ¬(false=true) by decide)]at H;exact H
           have H':=am_ H
           clear H
           go_wp2_with (first|((with_reducible refine gate_callee (f:=57) rfl ?_);refine goesL_ (some 38) rfl rfl Tryd.func57 (by kernel_rfl) rfl #[.pointer (some ⟨g,0,none⟩)] rfl gd_ ?_;(with_reducible refine(spec_l1Cur_hole.calls g s0_0 x1001_18 x1002_18 t425 t426 t427 t428 t429 w0 _ ?side1 ?side2 A26.out).mono ?_);(case side1=>exact(a2_ HI0.out));(case side2=>exact(a4_ HI0.out));rintro e w32 ⟨rfl,hi,hb,hk⟩;refine⟨_,rfl,?_⟩;replace HO_5:=am_ (Kd.R_mono (Kd.R_keep (IsS55.apart (show IsS55 w0 _ g s0_0 x1001_18 x1002_18 from(a2_ HI0.out)) ((a1_ HO_5.out)) (by decide)) hk (fun _ h=>h.2)) (fun _ h=>h.1));replace HK:=am_ (KeepBut.trans (a6_) hk (.inl rfl));replace HB:=am_ (hb);replace HI0:=am_ (hi);(try clear hb);(try clear hb2);(try clear hk);(try clear hi);obtain⟨Ao33,co33,eo33⟩:=Kd.R_slice HO_5.out;subst eo33)|((with_reducible refine gate_callee (f:=80) rfl ?_);refine goesL_ (some 39) rfl rfl Tryd.func80 (by kernel_rfl) rfl #[.slice Ao33 x5_18.length co33, .agg #[.int .i64 t425, .int .i64 t426, .int .i64 t427]] rfl gd_ ?_;(with_reducible refine(spec_shWith.calls kj18 _ _ x5_18 t425 t426 t427 t430 false _ ?side1 ?side2 A27.out).mono ?_);(case side1=>exact(a12_ HO_5.out));(case side2=>exact(Kd.R_reads' HO_5.out).2.1);rintro e w34 ⟨v431,rfl,ho0,hb⟩;refine⟨_,rfl,?_⟩;have HO432:=am_ (Kd.R_lower (Kd.R_new' ho0 (Kd.R_lt ((a1_ HO_5.out)))) (keep_size (w:=w) (g:=g) (row:=none) (a6_)));replace HO_5:=am_ (Kd.R_elder' ((a1_ HO_5.out)) (Kd.R_base ho0) hb);replace HK:=am_ (KeepBut.trans (a6_) (KeepBut.of_below hb g none) (.inl rfl));replace HB:=am_ (below_step ((a4_ HI0.out)) hb);replace HI0:=am_ (IsS55.below ((a2_ HI0.out)) hb);(try clear hb);(try clear hb2);(try clear hk);(try clear hi);(try clear ho0)))
           go_roundg kj18
           case measure=>have:=HK1.out;have:=HJ12.out;have:=HJ18.out;omega
           case rel=>exact⟨(x5_18),(wrap64 (x6_1-1)),(t428),(t429),(by first | rfl|(simp;done)|(simp[*];done)),H',⟨by have:=HK1.out;have:=HJ12.out;have:=HJ18.out;omega⟩,⟨(a36_ HO_5.out)⟩,⟨(a2_ HI0.out)⟩,⟨a6_⟩,⟨(a4_ HI0.out)⟩⟩
     ·rw[if_neg c12]at H
      have c12b0:decide (0<x6_1)=false:=decide_eq_false c12
      clear c12
      simp only[Option.some.injEq,Prod.mk.injEq]at H
      obtain⟨rfl,rfl,rfl⟩:=H
      go_wp2
      go_ret
      exact⟨_,a8_,(a1_ HO_5.out),(a2_ HI0.out),(a4_ HI0.out),a6_⟩
  ·replace c5:=Bool.eq_false_iff.mpr c5
   subst c5
   replace H:(some (y409,s0_1,s0_2))=some (r1,r2,r3):=by rw[if_neg (show ¬(false=true) by decide)]at H;exact H
   simp only[Option.some.injEq,Prod.mk.injEq]at H
   obtain⟨rfl,rfl,rfl⟩:=H
   go_enter Tryd.func53,Tryd.ntmps53
   go_wp2_with (first|((with_reducible refine gate_dst (N:=9) rfl ?_);refine Kd.R_lit k33 _ 33 ?hg (N:=9) ?hd (xs:=([]:List (S33))) (inner:=[]) (ok:=fun _=>True) (okp:=fun _=>True) ?hr ?hp (fun _ hk=>hk) trivial (Below.refl _ _) (Nat.le_refl _) (by simp) ?_;(case hd=>rfl);(case hg=>rfl);(case hr=>exact hr_);(case hp=>exact(Reps.none _ _));intro v407 w35 ho36 hb hg_ hnew_;clear hg_ hnew_;(first|rw[← Ny406.out]at ho36|(simp only[Int.reduceToNat]at ho36;rw[← Ny406.out]at ho36));have HO408:=am_ (Kd.R_lower ho36 (keep_size (w:=w) (g:=g) (row:=none) (a6_)));replace HK:=am_ (KeepBut.trans (a6_) (KeepBut.of_below hb g none) (.inl rfl));replace HB:=am_ (below_step ((a4_ HI0.out)) hb);replace HI0:=am_ (IsS55.below ((a2_ HI0.out)) hb);clear hb ho36)|((with_reducible refine gate_builtin (b:= .append) (xs:= #[.tmp 9, .tmp 10]) rfl ?_);at_builtin;refine Kd.R_append_rows k33 w.heap.size rfl (.tmp 9) (.tmp 10) 24 33 (.agg #[(.int .i64 0),(.int .i64 0),(.int .i64 0)]) 24 rfl Tryd.underlying24 info33 rfl (by decide) (by omega) v407 y406 l1 _ _ _ (fun _=>True) (fun _=>False) rfl rfl ?aO ?aR (fun _ _ h=>h) (fun _ h=>h.elim) ?aF (Below.refl _ _) ?aS ?aL ?_;(case aR=>exact Kd.C_foot_now HR1.out (a6_));(case aF=>exact(fun _ _=>trivial));(case aO=>exact((a1_ HO408.out)));(case aS=>exact(keep_size (w:=w) (g:=g) (row:=none) (a6_)));(case aL=>have:=LMc3.out;omega);intro v410 w37 ho hb hg hat;rw[← Ny409.out]at ho;have n0_:=am_ (IsS55.grown ((a2_ HI0.out)) hg (IsS55.own_ne HI0.out HO408.out (by decide)));have n1_:=am_ (below_weaken ((a4_ HI0.out)) HL.out hb);have n2_:=am_ (KeepBut.trans (a6_) (KeepBut.of_grown hg g) (Kd.R_base2 HO408.out));have n3_:=am_ (ho);clear HI0 HB HK HO408;have HI0:=n0_;have HB:=n1_;have HK:=n2_;have HO411:=n3_;clear n0_ n1_ n2_ n3_ ho hb hg hat)|((with_reducible refine gate_callee (f:=36) rfl ?_);refine goesL_ (some 13) rfl rfl Tryd.func36 (by kernel_rfl) rfl #[.slice A1 l1.length c1] rfl gd_ ?_;(with_reducible refine(spec_shGood.calls k _ _ l1 false _ ?side1 ?side2 A4.out).mono ?_);(case side1=>exact Kd.C_foot_now HR1.out (a6_));(case side2=>exact HC1.out);rintro e w38 ⟨rfl,hb⟩;refine⟨_,rfl,?_⟩;replace HO411:=am_ (Kd.R_below ((a1_ HO411.out)) hb);replace HK:=am_ (KeepBut.trans (a6_) (KeepBut.of_below hb g none) (.inl rfl));replace HB:=am_ (below_step ((a4_ HI0.out)) hb);replace HI0:=am_ (IsS55.below ((a2_ HI0.out)) hb);(try clear hb);(try clear hb2);(try clear hk);(try clear hi)))
   go_ret
   exact⟨_,a8_,(a1_ HO411.out),(a2_ HI0.out),(a4_ HI0.out),a6_⟩
 ·rw[if_neg c3]at H
  exact absurd H (by simp)

/-! ### spec_l1Cur_checksum: function 55 -/
def spec_l1Cur_checksum.f (s0_0:List Int) (s0_1:Int) (s0_2:Int):Option (Int×Int×Int):=(spec_l1Cur_pick.f s0_0 s0_1 s0_2 60000).bind fun bt434=>((spec_l1Cur_among.f s0_0 bt434.2.1 bt434.2.2 (([1000003,(-1)]:List Int))).bind fun bt440=>((spec_l1Cur_among.f s0_0 bt440.2.1 bt440.2.2 (([0,1,31,bt434.1,1000002,bt440.1]:List Int))).bind fun bt446=>(some (bt446.1,bt446.2.1,bt446.2.2))))
set_option maxHeartbeats 8000000 in
set_option maxRecDepth 100000 in
theorem spec_l1Cur_checksum.calls (g:Nat) (s0_0:List Int) (s0_1:Int) (s0_2:Int) (r1:Int) (r2:Int) (r3:Int) (w0 w:World) (hI:IsS55 w0 w g s0_0 s0_1 s0_2) (hB:Below w0.heap.size w0 w) (h:spec_l1Cur_checksum.f s0_0 s0_1 s0_2=some (r1,r2,r3)) :
 Calls Tryd.prog 55 #[.pointer (some ⟨g,0,none⟩)] w fun e w'=>e = .returned (.int .i64 r1)∧IsS55 w0 w' g s0_0 r2 r3∧Below w0.heap.size w0 w'∧KeepBut w w' g none:=by
 have HI0:=am_ hI
 have HK:=am_ (KeepBut.refl w g none)
 have HL:=am_ hB.size
 clear hI
 have HW0:=am_ hB.size
 have HB:=am_ hB
 clear hB
 have H:((spec_l1Cur_pick.f s0_0 s0_1 s0_2 60000).bind fun bt434=>((spec_l1Cur_among.f s0_0 bt434.2.1 bt434.2.2 (([1000003,(-1)]:List Int))).bind fun bt440=>((spec_l1Cur_among.f s0_0 bt440.2.1 bt440.2.2 (([0,1,31,bt434.1,1000002,bt440.1]:List Int))).bind fun bt446=>(some (bt446.1,bt446.2.1,bt446.2.2)))))=some (r1,r2,r3):=h
 clear h
 obtain⟨⟨t434,t435,t436⟩,A2,H⟩:=bo_ H
 try dsimp only at H
 obtain⟨y437,hy437⟩:∃y_:List Int,y_=(([1000003,(-1)]:List Int)):=⟨_,rfl⟩
 replace H:((spec_l1Cur_among.f s0_0 t435 t436 y437).bind fun bt440=>((spec_l1Cur_among.f s0_0 bt440.2.1 bt440.2.2 (([0,1,31,t434,1000002,bt440.1]:List Int))).bind fun bt446=>(some (bt446.1,bt446.2.1,bt446.2.2))))=some (r1,r2,r3):=by first|(rw[hy437];with_reducible exact H)|(have H2_:=(Option.bind_some _ _).symm.trans H;rw[hy437];with_reducible exact H2_)|(have H2_:=(Option.bind_some _ _).symm.trans H;with_reducible exact H2_) | with_reducible exact H|(rw[hy437];exact H)|exact H
 have Ny437:=am_ hy437
 clear hy437
 obtain⟨⟨t440,t441,t442⟩,A3,H⟩:=bo_ H
 try dsimp only at H
 obtain⟨y443,hy443⟩:∃y_:List Int,y_=(([0,1,31,t434,1000002,t440]:List Int)):=⟨_,rfl⟩
 replace H:((spec_l1Cur_among.f s0_0 t441 t442 y443).bind fun bt446=>(some (bt446.1,bt446.2.1,bt446.2.2)))=some (r1,r2,r3):=by first|(rw[hy443];with_reducible exact H)|(have H2_:=(Option.bind_some _ _).symm.trans H;rw[hy443];with_reducible exact H2_)|(have H2_:=(Option.bind_some _ _).symm.trans H;with_reducible exact H2_) | with_reducible exact H|(rw[hy443];exact H)|exact H
 have Ny443:=am_ hy443
 clear hy443
 obtain⟨⟨t446,t447,t448⟩,A4,H⟩:=bo_ H
 try dsimp only at H
 simp only[Option.some.injEq,Prod.mk.injEq]at H
 obtain⟨rfl,rfl,rfl⟩:=H
 go_enter Tryd.func55,Tryd.ntmps55
 go_wp2_with (first|((with_reducible refine gate_callee (f:=54) rfl ?_);refine goesL_ (some 5) rfl rfl Tryd.func54 (by kernel_rfl) rfl #[.pointer (some ⟨g,0,none⟩), .int .i64 60000] rfl gd_ ?_;(with_reducible refine(spec_l1Cur_pick.calls g s0_0 s0_1 s0_2 60000 t434 t435 t436 w0 _ ?side1 ?side2 A2.out).mono ?_);(case side1=>exact(a2_ HI0.out));(case side2=>exact(a4_ HI0.out));rintro e w5 ⟨rfl,hi,hb,hk⟩;refine⟨_,rfl,?_⟩;replace HK:=am_ (KeepBut.trans (a6_) hk (.inl rfl));replace HB:=am_ (hb);replace HI0:=am_ (hi);(try clear hb);(try clear hb2);(try clear hk);(try clear hi))|((with_reducible refine gate_dst (N:=7) rfl ?_);refine Kd.R_lit (Kd.int .i64) _ 3 ?hg (N:=7) ?hd (xs:=([1000003,(-1)]:List Int)) (inner:=[.int .i64 1000003, .int .i64 (-1)]) (ok:=fun _=>True) (okp:=fun _=>True) ?hr ?hp (fun _ hk=>hk) trivial (Below.refl _ _) (Nat.le_refl _) (by simp) ?_;(case hd=>rfl);(case hg=>rfl);(case hr=>exact hr_);(case hp=>exact(Reps.one (show Kd.M (Kd.int .i64) _ _ _ 1000003 [.int .i64 1000003] from rfl) (Reps.one (show Kd.M (Kd.int .i64) _ _ _ (-1) [.int .i64 (-1)] from rfl) (Reps.none _ _))));intro v438 w6 ho7 hb hg_ hnew_;clear hg_ hnew_;(first|rw[← Ny437.out]at ho7|(simp only[Int.reduceToNat]at ho7;rw[← Ny437.out]at ho7));have HO439:=am_ (Kd.R_lower ho7 (keep_size (w:=w) (g:=g) (row:=none) (a6_)));replace HK:=am_ (KeepBut.trans (a6_) (KeepBut.of_below hb g none) (.inl rfl));replace HB:=am_ (below_step ((a4_ HI0.out)) hb);replace HI0:=am_ (IsS55.below ((a2_ HI0.out)) hb);clear hb ho7;obtain⟨Ao8,co8,eo8⟩:=Kd.R_slice HO439.out;subst eo8)|((with_reducible refine gate_callee (f:=58) rfl ?_);refine goesL_ (some 8) rfl rfl Tryd.func58 (by kernel_rfl) rfl #[.pointer (some ⟨g,0,none⟩), .slice Ao8 y437.length co8] rfl gd_ ?_;(with_reducible refine(spec_l1Cur_among.calls g s0_0 t435 t436 _ _ y437 t440 t441 t442 w0 _ ?side1 ?side2 ?side3 ?side4 ?side5 A3.out).mono ?_);(case side1=>exact(a2_ HI0.out));(case side2=>exact(a4_ HI0.out));(case side3=>exact(a12_ HO439.out));(case side4=>exact(Kd.R_reads' HO439.out).2.1);(case side5=>exact far_slice (IsS55.own_ne HI0.out HO439.out (by decide)));rintro e w9 ⟨rfl,hi,hb,hk⟩;refine⟨_,rfl,?_⟩;replace HO439:=am_ (Kd.R_mono (Kd.R_keep (IsS55.apart (show IsS55 w0 _ g s0_0 t435 t436 from(a2_ HI0.out)) ((a1_ HO439.out)) (by decide)) hk (fun _ h=>h.2)) (fun _ h=>h.1));replace HK:=am_ (KeepBut.trans (a6_) hk (.inl rfl));replace HB:=am_ (hb);replace HI0:=am_ (hi);(try clear hb);(try clear hb2);(try clear hk);(try clear hi))|((with_reducible refine gate_dst (N:=9) rfl ?_);refine Kd.R_lit (Kd.int .i64) _ 3 ?hg (N:=9) ?hd (xs:=([0,1,31,t434,1000002,t440]:List Int)) (inner:=[.int .i64 0, .int .i64 1, .int .i64 31, .int .i64 t434, .int .i64 1000002, .int .i64 t440]) (ok:=fun _=>True) (okp:=fun _=>True) ?hr ?hp (fun _ hk=>hk) trivial (Below.refl _ _) (Nat.le_refl _) (by simp) ?_;(case hd=>rfl);(case hg=>rfl);(case hr=>exact hr_);(case hp=>exact(Reps.one (show Kd.M (Kd.int .i64) _ _ _ 0 [.int .i64 0] from rfl) (Reps.one (show Kd.M (Kd.int .i64) _ _ _ 1 [.int .i64 1] from rfl) (Reps.one (show Kd.M (Kd.int .i64) _ _ _ 31 [.int .i64 31] from rfl) (Reps.one (show Kd.M (Kd.int .i64) _ _ _ t434 [.int .i64 t434] from rfl) (Reps.one (show Kd.M (Kd.int .i64) _ _ _ 1000002 [.int .i64 1000002] from rfl) (Reps.one (show Kd.M (Kd.int .i64) _ _ _ t440 [.int .i64 t440] from rfl) (Reps.none _ _))))))));intro v444 w10 ho11 hb hg_ hnew_;clear hg_ hnew_;(first|rw[← Ny443.out]at ho11|(simp only[Int.reduceToNat]at ho11;rw[← Ny443.out]at ho11));have HO445:=am_ (Kd.R_lower (Kd.R_new' ho11 (Kd.R_lt ((a1_ HO439.out)))) (keep_size (w:=w) (g:=g) (row:=none) (a6_)));replace HO439:=am_ (Kd.R_elder' ((a1_ HO439.out)) (Kd.R_base ho11) hb);replace HK:=am_ (KeepBut.trans (a6_) (KeepBut.of_below hb g none) (.inl rfl));replace HB:=am_ (below_step ((a4_ HI0.out)) hb);replace HI0:=am_ (IsS55.below ((a2_ HI0.out)) hb);clear hb ho11;obtain⟨Ao12,co12,eo12⟩:=Kd.R_slice HO445.out;subst eo12)|((with_reducible refine gate_callee (f:=58) rfl ?_);refine goesL_ (some 10) rfl rfl Tryd.func58 (by kernel_rfl) rfl #[.pointer (some ⟨g,0,none⟩), .slice Ao12 y443.length co12] rfl gd_ ?_;(with_reducible refine(spec_l1Cur_among.calls g s0_0 t441 t442 _ _ y443 t446 t447 t448 w0 _ ?side1 ?side2 ?side3 ?side4 ?side5 A4.out).mono ?_);(case side1=>exact(a2_ HI0.out));(case side2=>exact(a4_ HI0.out));(case side3=>exact(a12_ HO445.out));(case side4=>exact(Kd.R_reads' HO445.out).2.1);(case side5=>exact far_slice (IsS55.own_ne HI0.out HO445.out (by decide)));rintro e w13 ⟨rfl,hi,hb,hk⟩;refine⟨_,rfl,?_⟩;replace HO439:=am_ (Kd.R_mono (Kd.R_keep (IsS55.apart (show IsS55 w0 _ g s0_0 t441 t442 from(a2_ HI0.out)) ((a1_ HO439.out)) (by decide)) hk (fun _ h=>h.2)) (fun _ h=>h.1));replace HO445:=am_ (Kd.R_mono (Kd.R_keep (IsS55.apart (show IsS55 w0 _ g s0_0 t441 t442 from(a2_ HI0.out)) ((a1_ HO445.out)) (by decide)) hk (fun _ h=>h.2)) (fun _ h=>h.1));replace HK:=am_ (KeepBut.trans (a6_) hk (.inl rfl));replace HB:=am_ (hb);replace HI0:=am_ (hi);(try clear hb);(try clear hb2);(try clear hk);(try clear hi)))
 go_ret
 exact⟨a8_,(a2_ HI0.out),(a4_ HI0.out),a6_⟩

/-! ### spec_DrawDifferentTracks: function 20 -/
def spec_DrawDifferentTracks.f (k:Nat) (l0:List Int):Option (List Int×List Int):=(spec_l1Cur_sheet.f k l0 0 0).bind fun bt450=>((spec_TrackChecksums.f k bt450.1).bind fun bt455=>((spec_l1Cur_changed.f k l0 bt450.2.1 bt450.2.2 bt450.1).bind fun bt459=>((spec_TrackChecksums.f k bt459.1).bind fun bt464=>((spec_l1Cur_pick.f l0 bt459.2.1 bt459.2.2 16).bind fun bt468=>(if bt468.1=0 then(if 1≤(bt455.1.length:Int) then(some ((bt455.1.drop (1:Int).toNat),bt464.1)) else(none)) else(if bt468.1=1 then((spec_l1Cur_checksum.f l0 bt468.2.1 bt468.2.2).bind fun bt474=>(if 0<(bt464.1.length:Int) then(some (bt455.1,(bt464.1.set (0:Int).toNat bt474.1))) else(none))) else(some (bt455.1,bt464.1))))))))
theorem spec_DrawDifferentTracks.mono:∀a0 k,LeO (spec_DrawDifferentTracks.f k a0) (spec_DrawDifferentTracks.f (k+1) a0):=by
 intro a0 k
 unfold spec_DrawDifferentTracks.f
 repeat' first
  |(with_reducible exact spec_TrackChecksums.mono _ _)
  |(with_reducible exact spec_l1Cur_changed.mono _ _ _ _ _)
  |(with_reducible exact spec_l1Cur_sheet.mono _ _ _ _)
  |(with_reducible exact LeO.refl _)
  |(with_reducible exact LeO.none _)
  |(with_reducible refine LeO.ite ?_ ?_)
  |(with_reducible refine LeO.bind ?_ (fun _=>?_))
  |exact spec_TrackChecksums.mono _ _
  |exact spec_l1Cur_changed.mono _ _ _ _ _
  |exact spec_l1Cur_sheet.mono _ _ _ _
  |exact LeO.none _
   | refine LeO.ite ?_ ?_
   | refine LeO.bind ?_ (fun _=>?_)
set_option maxHeartbeats 8000000 in
set_option maxRecDepth 100000 in
theorem spec_DrawDifferentTracks.calls (k:Nat) (A0:Option Addr) (c0:Nat) (l0:List Int) (r1:List Int) (r2:List Int) (w:World) (hr0:Kd.C (Kd.int .u8) w A0 l0.length l0) (hc0:l0.length≤c0) (h:spec_DrawDifferentTracks.f k l0=some (r1,r2)) :
 Calls Tryd.prog 20 #[.slice A0 l0.length c0] w fun e w'=>∃v0_ v1_:Value,e = .returned (.tuple #[v0_,v1_])∧Kd.Q (Kd.int .i64) 3 w' w.heap.size (fun k_=>some k_≠(v1_:Value).ownBlock) v0_ r1∧Kd.R (Kd.int .i64) 3 w' w.heap.size (fun k_=>some k_≠(v0_:Value).ownBlock) v1_ r2∧Below w.heap.size w w':=by
 have hu55:=Tryd.underlying55
 have HR0:=am_ hr0
 have HC0:=am_ hc0
 clear hr0 hc0
 have HB:=am_ (Below.refl w.heap.size w)
 have H:((spec_l1Cur_sheet.f k l0 0 0).bind fun bt450=>((spec_TrackChecksums.f k bt450.1).bind fun bt455=>((spec_l1Cur_changed.f k l0 bt450.2.1 bt450.2.2 bt450.1).bind fun bt459=>((spec_TrackChecksums.f k bt459.1).bind fun bt464=>((spec_l1Cur_pick.f l0 bt459.2.1 bt459.2.2 16).bind fun bt468=>(if bt468.1=0 then(if 1≤(bt455.1.length:Int) then(some ((bt455.1.drop (1:Int).toNat),bt464.1)) else(none)) else(if bt468.1=1 then((spec_l1Cur_checksum.f l0 bt468.2.1 bt468.2.2).bind fun bt474=>(if 0<(bt464.1.length:Int) then(some (bt455.1,(bt464.1.set (0:Int).toNat bt474.1))) else(none))) else(some (bt455.1,bt464.1)))))))))=some (r1,r2):=h
 clear h
 obtain⟨⟨t450,t453,t454⟩,A2,H⟩:=bo_ H
 try dsimp only at H
 obtain⟨⟨t455,t456⟩,A3,H⟩:=bo_ H
 try dsimp only at H
 obtain⟨⟨t459,t462,t463⟩,A4,H⟩:=bo_ H
 try dsimp only at H
 obtain⟨⟨t464,t465⟩,A5,H⟩:=bo_ H
 try dsimp only at H
 obtain⟨⟨t468,t469,t470⟩,A6,H⟩:=bo_ H
 try dsimp only at H
 by_cases c7:t468=0
 ·rw[if_pos c7]at H
  have c7b0:(t468 == 0)=true:=beq_iff_eq.mpr c7
  have c7b1:(t468 != 0)=false:=bne_eq_false_iff_eq.mpr c7
  clear c7
  by_cases c8:1≤(t455.length:Int)
  ·rw[if_pos c8]at H
   have c8b0:=eq_true c8
   have c8b1:decide (1≤(t455.length:Int))=true:=decide_eq_true c8
   clear c8
   obtain⟨y471,hy471⟩:∃y_:List Int,y_=(t455.drop (1:Int).toNat):=⟨_,rfl⟩
   replace H:(some (y471,t464))=some (r1,r2):=by first|(rw[hy471];with_reducible exact H)|(have H2_:=(Option.bind_some _ _).symm.trans H;rw[hy471];with_reducible exact H2_)|(have H2_:=(Option.bind_some _ _).symm.trans H;with_reducible exact H2_) | with_reducible exact H|(rw[hy471];exact H)|exact H
   have Ny471:=am_ hy471
   clear hy471
   simp only[Option.some.injEq,Prod.mk.injEq]at H
   obtain⟨rfl,rfl⟩:=H
   go_enter Tryd.func20,Tryd.ntmps20
   go_wp2_with (first|((with_reducible refine gate_dst (N:=12) rfl ?_);refine box_event ?hg (N:=12) ?hd (cs:= #[.slice A0 l0.length c0, .int .i64 0, .int .u64 0]) (t:=55) ?hr ?_;(case hd=>rfl);(case hg=>rfl);(case hr=>exact hr_);intro g449 hg w9 hbox hb;have HI449:=am_ ((⟨_,_,hbox,by rw[hg];exact(below_size (a0_)),HR0.out⟩:IsS55 w w9 g449 l0 0 0));replace HB:=am_ (below_step (a0_) hb);clear hb hbox hg)|((with_reducible refine gate_callee (f:=52) rfl ?_);refine goesL_ (some 14) rfl rfl Tryd.func52 (by kernel_rfl) rfl #[.pointer (some ⟨g449,0,none⟩)] rfl gd_ ?_;(with_reducible refine(spec_l1Cur_sheet.calls k g449 l0 0 0 t450 t453 t454 w _ ?side1 ?side2 A2.out).mono ?_);(case side1=>exact(a2_ HI449.out));(case side2=>exact(a4_ HI449.out));rintro e w10 ⟨v451,rfl,ho0,hi,hb,hk⟩;refine⟨_,rfl,?_⟩;have HO452:=am_ (Kd.R_lower ho0 (below_size ((a4_ HI449.out))));replace HB:=am_ (hb);replace HI449:=am_ (hi);(try clear hb);(try clear hb2);(try clear hk);(try clear hi);(try clear ho0);obtain⟨Ao11,co11,eo11⟩:=Kd.R_slice HO452.out;subst eo11)|((with_reducible refine gate_callee (f:=10) rfl ?_);refine goesL_ (some 17) rfl rfl Tryd.func10 (by kernel_rfl) rfl #[.slice Ao11 t450.length co11] rfl gd_ ?_;(with_reducible refine(spec_TrackChecksums.calls k _ _ t450 t455 t456 _ ?side1 ?side2 A3.out).mono ?_);(case side1=>exact(a12_ HO452.out));(case side2=>exact(Kd.R_reads' HO452.out).2.1);rintro e w12 ⟨v457,rfl,ho0,hb⟩;refine⟨_,rfl,?_⟩;replace HO452:=am_ (Kd.R_below ((a1_ HO452.out)) hb);have HO458:=am_ (Kd.R_lower ho0 (below_size ((a4_ HI449.out))));replace HB:=am_ (below_step ((a4_ HI449.out)) hb);replace HI449:=am_ (IsS55.below ((a2_ HI449.out)) hb);(try clear hb);(try clear hb2);(try clear hk);(try clear hi);(try clear ho0))|((with_reducible refine gate_callee (f:=53) rfl ?_);refine goesL_ (some 23) rfl rfl Tryd.func53 (by kernel_rfl) rfl #[.pointer (some ⟨g449,0,none⟩), .slice Ao11 t450.length co11] rfl gd_ ?_;(with_reducible refine(spec_l1Cur_changed.calls k g449 l0 t453 t454 _ _ t450 t459 t462 t463 w _ ?side1 ?side2 ?side3 ?side4 A4.out).mono ?_);(case side1=>exact(a2_ HI449.out));(case side2=>exact(a4_ HI449.out));(case side3=>exact Kd.C_foot_own (IsS55.apart (show IsS55 w _ g449 l0 t453 t454 from(a2_ HI449.out)) ((a1_ HO452.out)) (by decide)) (fun _ h_=>h_.2));(case side4=>exact(Kd.R_reads' HO452.out).2.1);rintro e w13 ⟨v460,rfl,ho0,hi,hb,hk⟩;refine⟨_,rfl,?_⟩;replace HO458:=am_ (Kd.R_mono (Kd.R_keep (IsS55.apart (show IsS55 w _ g449 l0 t453 t454 from(a2_ HI449.out)) ((a1_ HO458.out)) (by decide)) hk (fun _ h=>h.2)) (fun _ h=>h.1));have HO461:=am_ (Kd.R_lower (Kd.R_new' ho0 (Kd.R_lt ((a1_ HO452.out)))) (below_size ((a4_ HI449.out))));replace HO452:=am_ (Kd.R_mono (Kd.R_told (Kd.R_oldK (IsS55.apart (show IsS55 w _ g449 l0 t453 t454 from(a2_ HI449.out)) ((a1_ HO452.out)) (by decide)) hk) (Kd.R_base ho0)) (fun _ h_=>h_.1));replace HB:=am_ (hb);replace HI449:=am_ (hi);(try clear hb);(try clear hb2);(try clear hk);(try clear hi);(try clear ho0);obtain⟨Ao14,co14,eo14⟩:=Kd.R_slice HO461.out;subst eo14)|((with_reducible refine gate_callee (f:=10) rfl ?_);refine goesL_ (some 24) rfl rfl Tryd.func10 (by kernel_rfl) rfl #[.slice Ao14 t459.length co14] rfl gd_ ?_;(with_reducible refine(spec_TrackChecksums.calls k _ _ t459 t464 t465 _ ?side1 ?side2 A5.out).mono ?_);(case side1=>exact(a12_ HO461.out));(case side2=>exact(Kd.R_reads' HO461.out).2.1);rintro e w15 ⟨v466,rfl,ho0,hb⟩;refine⟨_,rfl,?_⟩;replace HO452:=am_ (Kd.R_below ((a1_ HO452.out)) hb);replace HO461:=am_ (Kd.R_below ((a1_ HO461.out)) hb);have HO467:=am_ (Kd.R_lower (Kd.R_new' ho0 (Kd.R_lt ((a1_ HO458.out)))) (below_size ((a4_ HI449.out))));replace HO458:=am_ (Kd.R_elder' ((a1_ HO458.out)) (Kd.R_base ho0) hb);replace HB:=am_ (below_step ((a4_ HI449.out)) hb);replace HI449:=am_ (IsS55.below ((a2_ HI449.out)) hb);(try clear hb);(try clear hb2);(try clear hk);(try clear hi);(try clear ho0))|((with_reducible refine gate_callee (f:=54) rfl ?_);refine goesL_ (some 28) rfl rfl Tryd.func54 (by kernel_rfl) rfl #[.pointer (some ⟨g449,0,none⟩), .int .i64 16] rfl gd_ ?_;(with_reducible refine(spec_l1Cur_pick.calls g449 l0 t462 t463 16 t468 t469 t470 w _ ?side1 ?side2 A6.out).mono ?_);(case side1=>exact(a2_ HI449.out));(case side2=>exact(a4_ HI449.out));rintro e w16 ⟨rfl,hi,hb,hk⟩;refine⟨_,rfl,?_⟩;replace HO452:=am_ (Kd.R_mono (Kd.R_keep (IsS55.apart (show IsS55 w _ g449 l0 t462 t463 from(a2_ HI449.out)) ((a1_ HO452.out)) (by decide)) hk (fun _ h=>h.2)) (fun _ h=>h.1));replace HO458:=am_ (Kd.R_mono (Kd.R_keep (IsS55.apart (show IsS55 w _ g449 l0 t462 t463 from(a2_ HI449.out)) ((a1_ HO458.out)) (by decide)) hk (fun _ h=>h.2)) (fun _ h=>h.1));replace HO461:=am_ (Kd.R_mono (Kd.R_keep (IsS55.apart (show IsS55 w _ g449 l0 t462 t463 from(a2_ HI449.out)) ((a1_ HO461.out)) (by decide)) hk (fun _ h=>h.2)) (fun _ h=>h.1));replace HO467:=am_ (Kd.R_mono (Kd.R_keep (IsS55.apart (show IsS55 w _ g449 l0 t462 t463 from(a2_ HI449.out)) ((a1_ HO467.out)) (by decide)) hk (fun _ h=>h.2)) (fun _ h=>h.1));replace HB:=am_ (hb);replace HI449:=am_ (hi);(try clear hb);(try clear hb2);(try clear hk);(try clear hi);obtain⟨Ao17,co17,eo17⟩:=Kd.R_slice HO458.out;subst eo17;have n_:=am_ (Kd.R_mono (ok':=(fun k_=>some k_≠(v466:Value).ownBlock)) HO458.out (fun k_ hk=>hk.2));clear HO458;have HO458:=n_;clear n_;have q18:(1:Int)≤((t455.length:Int):Int):=of_decide_eq_true (a10_);obtain⟨i018,hi018,_,hsz18,_⟩:=info_parts info3;have hcut18:=cut_from (P:=Tryd.prog) 28 3 .i64 Tryd.underlying28 hi018 1 hsz18 Ao17 t455.length co17 1 (by omega) q18;have hr18:=Kd.Q_drop (k:=(1:Int).toNat) (Kd.Q_of_R HO458.out) (by omega);obtain⟨A18,hA18⟩:∃A1,A1=(if co17=(1:Int).toNat then Ao17 else(Ao17:Option Addr).map (·.add ((1:Int).toNat*1))):=⟨_,rfl⟩;obtain⟨c18,hc18⟩:∃c1,c1=co17-(1:Int).toNat:=⟨_,rfl⟩;have hy18:y471.length=t455.length-(1:Int).toNat:=(by rw[Ny471.out,List.length_drop]);rw[← Ny471.out]at hr18;rw[← hy18, ← hA18, ← hc18]at hcut18;replace hr18:Kd.Q (Kd.int .i64) 3 w16 w.heap.size (fun k_=>some k_≠(v466:Value).ownBlock) (.slice A18 y471.length c18) y471:=(by rw[hA18,hc18,hy18];exact hr18);have HE18:Aside0 ((Value.slice A18 y471.length c18).ownBlock=(.slice Ao17 t455.length co17:Value).ownBlock):=⟨by rw[hA18];split<;>(cases (Ao17:Option Addr)<;>rfl)⟩;clear hy18 hi018 hsz18 HO458 hA18 hc18;have HO473:=am_ hr18;clear hr18;replace q18:=eq_true q18;have n_:=am_ (Kd.R_mono (ok':=fun k_=>(True∧some k_≠(.slice A18 y471.length c18:Value).ownBlock)) HO467.out (fun k_ hk=>⟨trivial,(by rw[HE18.out];exact hk.2)⟩));clear HO467;have HO467:=n_;clear n_))
   go_ret2
   exact⟨_,_,a8_,(a39_ HO473.out),(a48_ HO467.out),(a4_ HI449.out)⟩
  ·rw[if_neg c8]at H
   exact absurd H (by simp)
 ·rw[if_neg c7]at H
  have c7b0:(t468 == 0)=false:=beq_eq_false_iff_ne.mpr c7
  have c7b1:(t468 != 0)=true:=bne_iff_ne.mpr c7
  by_cases c19:t468=1
  ·rw[if_pos c19]at H
   have c19b0:(t468 == 1)=true:=beq_iff_eq.mpr c19
   have c19b1:(t468 != 1)=false:=bne_eq_false_iff_eq.mpr c19
   clear c19
   obtain⟨⟨t474,t475,t476⟩,A20,H⟩:=bo_ H
   try dsimp only at H
   by_cases c21:0<(t464.length:Int)
   ·rw[if_pos c21]at H
    have c21b0:decide (0<(t464.length:Int))=true:=decide_eq_true c21
    have c21b1:decide (0<t464.length)=true:=decide_eq_true (by omega)
    clear c21
    obtain⟨y477,hy477⟩:∃y_:List Int,y_=(t464.set (0:Int).toNat t474):=⟨_,rfl⟩
    replace H:(some (t455,y477))=some (r1,r2):=by first|(rw[hy477];with_reducible exact H)|(have H2_:=(Option.bind_some _ _).symm.trans H;rw[hy477];with_reducible exact H2_)|(have H2_:=(Option.bind_some _ _).symm.trans H;with_reducible exact H2_) | with_reducible exact H|(rw[hy477];exact H)|exact H
    have Ny477:=am_ hy477
    clear hy477
    simp only[Option.some.injEq,Prod.mk.injEq]at H
    obtain⟨rfl,rfl⟩:=H
    go_enter Tryd.func20,Tryd.ntmps20
    go_wp2_with (first|((with_reducible refine gate_dst (N:=12) rfl ?_);refine box_event ?hg (N:=12) ?hd (cs:= #[.slice A0 l0.length c0, .int .i64 0, .int .u64 0]) (t:=55) ?hr ?_;(case hd=>rfl);(case hg=>rfl);(case hr=>exact hr_);intro g449 hg w23 hbox hb;have HI449:=am_ ((⟨_,_,hbox,by rw[hg];exact(below_size (a0_)),HR0.out⟩:IsS55 w w23 g449 l0 0 0));replace HB:=am_ (below_step (a0_) hb);clear hb hbox hg)|((with_reducible refine gate_callee (f:=52) rfl ?_);refine goesL_ (some 14) rfl rfl Tryd.func52 (by kernel_rfl) rfl #[.pointer (some ⟨g449,0,none⟩)] rfl gd_ ?_;(with_reducible refine(spec_l1Cur_sheet.calls k g449 l0 0 0 t450 t453 t454 w _ ?side1 ?side2 A2.out).mono ?_);(case side1=>exact(a2_ HI449.out));(case side2=>exact(a4_ HI449.out));rintro e w24 ⟨v451,rfl,ho0,hi,hb,hk⟩;refine⟨_,rfl,?_⟩;have HO452:=am_ (Kd.R_lower ho0 (below_size ((a4_ HI449.out))));replace HB:=am_ (hb);replace HI449:=am_ (hi);(try clear hb);(try clear hb2);(try clear hk);(try clear hi);(try clear ho0);obtain⟨Ao25,co25,eo25⟩:=Kd.R_slice HO452.out;subst eo25)|((with_reducible refine gate_callee (f:=10) rfl ?_);refine goesL_ (some 17) rfl rfl Tryd.func10 (by kernel_rfl) rfl #[.slice Ao25 t450.length co25] rfl gd_ ?_;(with_reducible refine(spec_TrackChecksums.calls k _ _ t450 t455 t456 _ ?side1 ?side2 A3.out).mono ?_);(case side1=>exact(a12_ HO452.out));(case side2=>exact(Kd.R_reads' HO452.out).2.1);rintro e w26 ⟨v457,rfl,ho0,hb⟩;refine⟨_,rfl,?_⟩;replace HO452:=am_ (Kd.R_below ((a1_ HO452.out)) hb);have HO458:=am_ (Kd.R_lower ho0 (below_size ((a4_ HI449.out))));replace HB:=am_ (below_step ((a4_ HI449.out)) hb);replace HI449:=am_ (IsS55.below ((a2_ HI449.out)) hb);(try clear hb);(try clear hb2);(try clear hk);(try clear hi);(try clear ho0))|((with_reducible refine gate_callee (f:=53) rfl ?_);refine goesL_ (some 23) rfl rfl Tryd.func53 (by kernel_rfl) rfl #[.pointer (some ⟨g449,0,none⟩), .slice Ao25 t450.length co25] rfl gd_ ?_;(with_reducible refine(spec_l1Cur_changed.calls k g449 l0 t453 t454 _ _ t450 t459 t462 t463 w _ ?side1 ?side2 ?side3 ?side4 A4.out).mono ?_);(case side1=>exact(a2_ HI449.out));(case side2=>exact(a4_ HI449.out));(case side3=>exact Kd.C_foot_own (IsS55.apart (show IsS55 w _ g449 l0 t453 t454 from(a2_ HI449.out)) ((a1_ HO452.out)) (by decide)) (fun _ h_=>h_.2));(case side4=>exact(Kd.R_reads' HO452.out).2.1);rintro e w27 ⟨v460,rfl,ho0,hi,hb,hk⟩;refine⟨_,rfl,?_⟩;replace HO458:=am_ (Kd.R_mono (Kd.R_keep (IsS55.apart (show IsS55 w _ g449 l0 t453 t454 from(a2_ HI449.out)) ((a1_ HO458.out)) (by decide)) hk (fun _ h=>h.2)) (fun _ h=>h.1));have HO461:=am_ (Kd.R_lower (Kd.R_new' ho0 (Kd.R_lt ((a1_ HO452.out)))) (below_size ((a4_ HI449.out))));replace HO452:=am_ (Kd.R_mono (Kd.R_told (Kd.R_oldK (IsS55.apart (show IsS55 w _ g449 l0 t453 t454 from(a2_ HI449.out)) ((a1_ HO452.out)) (by decide)) hk) (Kd.R_base ho0)) (fun _ h_=>h_.1));replace HB:=am_ (hb);replace HI449:=am_ (hi);(try clear hb);(try clear hb2);(try clear hk);(try clear hi);(try clear ho0);obtain⟨Ao28,co28,eo28⟩:=Kd.R_slice HO461.out;subst eo28)|((with_reducible refine gate_callee (f:=10) rfl ?_);refine goesL_ (some 24) rfl rfl Tryd.func10 (by kernel_rfl) rfl #[.slice Ao28 t459.length co28] rfl gd_ ?_;(with_reducible refine(spec_TrackChecksums.calls k _ _ t459 t464 t465 _ ?side1 ?side2 A5.out).mono ?_);(case side1=>exact(a12_ HO461.out));(case side2=>exact(Kd.R_reads' HO461.out).2.1);rintro e w29 ⟨v466,rfl,ho0,hb⟩;refine⟨_,rfl,?_⟩;replace HO452:=am_ (Kd.R_below ((a1_ HO452.out)) hb);replace HO461:=am_ (Kd.R_below ((a1_ HO461.out)) hb);have HO467:=am_ (Kd.R_lower (Kd.R_new' ho0 (Kd.R_lt ((a1_ HO458.out)))) (below_size ((a4_ HI449.out))));replace HO458:=am_ (Kd.R_elder' ((a1_ HO458.out)) (Kd.R_base ho0) hb);replace HB:=am_ (below_step ((a4_ HI449.out)) hb);replace HI449:=am_ (IsS55.below ((a2_ HI449.out)) hb);(try clear hb);(try clear hb2);(try clear hk);(try clear hi);(try clear ho0))|((with_reducible refine gate_callee (f:=54) rfl ?_);refine goesL_ (some 28) rfl rfl Tryd.func54 (by kernel_rfl) rfl #[.pointer (some ⟨g449,0,none⟩), .int .i64 16] rfl gd_ ?_;(with_reducible refine(spec_l1Cur_pick.calls g449 l0 t462 t463 16 t468 t469 t470 w _ ?side1 ?side2 A6.out).mono ?_);(case side1=>exact(a2_ HI449.out));(case side2=>exact(a4_ HI449.out));rintro e w30 ⟨rfl,hi,hb,hk⟩;refine⟨_,rfl,?_⟩;replace HO452:=am_ (Kd.R_mono (Kd.R_keep (IsS55.apart (show IsS55 w _ g449 l0 t462 t463 from(a2_ HI449.out)) ((a1_ HO452.out)) (by decide)) hk (fun _ h=>h.2)) (fun _ h=>h.1));replace HO458:=am_ (Kd.R_mono (Kd.R_keep (IsS55.apart (show IsS55 w _ g449 l0 t462 t463 from(a2_ HI449.out)) ((a1_ HO458.out)) (by decide)) hk (fun _ h=>h.2)) (fun _ h=>h.1));replace HO461:=am_ (Kd.R_mono (Kd.R_keep (IsS55.apart (show IsS55 w _ g449 l0 t462 t463 from(a2_ HI449.out)) ((a1_ HO461.out)) (by decide)) hk (fun _ h=>h.2)) (fun _ h=>h.1));replace HO467:=am_ (Kd.R_mono (Kd.R_keep (IsS55.apart (show IsS55 w _ g449 l0 t462 t463 from(a2_ HI449.out)) ((a1_ HO467.out)) (by decide)) hk (fun _ h=>h.2)) (fun _ h=>h.1));replace HB:=am_ (hb);replace HI449:=am_ (hi);(try clear hb);(try clear hb2);(try clear hk);(try clear hi))|((with_reducible refine gate_callee (f:=55) rfl ?_);refine goesL_ (some 37) rfl rfl Tryd.func55 (by kernel_rfl) rfl #[.pointer (some ⟨g449,0,none⟩)] rfl gd_ ?_;(with_reducible refine(spec_l1Cur_checksum.calls g449 l0 t469 t470 t474 t475 t476 w _ ?side1 ?side2 A20.out).mono ?_);(case side1=>exact(a2_ HI449.out));(case side2=>exact(a4_ HI449.out));rintro e w31 ⟨rfl,hi,hb,hk⟩;refine⟨_,rfl,?_⟩;replace HO452:=am_ (Kd.R_mono (Kd.R_keep (IsS55.apart (show IsS55 w _ g449 l0 t469 t470 from(a2_ HI449.out)) ((a1_ HO452.out)) (by decide)) hk (fun _ h=>h.2)) (fun _ h=>h.1));replace HO458:=am_ (Kd.R_mono (Kd.R_keep (IsS55.apart (show IsS55 w _ g449 l0 t469 t470 from(a2_ HI449.out)) ((a1_ HO458.out)) (by decide)) hk (fun _ h=>h.2)) (fun _ h=>h.1));replace HO461:=am_ (Kd.R_mono (Kd.R_keep (IsS55.apart (show IsS55 w _ g449 l0 t469 t470 from(a2_ HI449.out)) ((a1_ HO461.out)) (by decide)) hk (fun _ h=>h.2)) (fun _ h=>h.1));replace HO467:=am_ (Kd.R_mono (Kd.R_keep (IsS55.apart (show IsS55 w _ g449 l0 t469 t470 from(a2_ HI449.out)) ((a1_ HO467.out)) (by decide)) hk (fun _ h=>h.2)) (fun _ h=>h.1));replace HB:=am_ (hb);replace HI449:=am_ (hi);(try clear hb);(try clear hb2);(try clear hk);(try clear hi);have p22:0≤(0:Int):=(by omega);have q22:(0:Int)<((t464.length:Int):Int):=of_decide_eq_true (a10_);have qi22:(0<t464.length)=True:=eq_true (by omega);obtain⟨go22,co22,eo22,gb22,gl22,cl22,HG22⟩:=Kd.R_form HO467.out (by omega);(first|cases eo22|(injection eo22 with ea_ en_ ec_;(first|subst ea_|(injection ea_ with ea_;subst ea_));subst ec_;clear en_));have GB22:=am_ gb22;have GG22:=am_ HG22;clear gb22 gl22 HG22;obtain⟨hx22_0,hf22_0⟩:=Kd.R_celln 0 HO467.out (0:Int) p22 q22;(try rw[show((0:Int)).toNat=0 from rfl]at hx22_0);(try simp only[Nat.reduceMul,Nat.zero_mul,Nat.zero_add,Nat.reduceAdd]at hx22_0);(try rw[show((0:Int)).toNat=0 from rfl]at hf22_0);(try simp only[Nat.reduceMul,Nat.zero_mul,Nat.zero_add,Nat.reduceAdd]at hf22_0);replace p22:=eq_true p22;replace q22:=eq_true q22;have n_:=am_ (Kd.R_mono (ok':=(fun k_=>some k_≠(v457:Value).ownBlock)) HO467.out (fun k_ hk=>hk.2));clear HO467;have HO467:=n_;clear n_;obtain⟨hy32_,hz32_⟩:=Kd.R_celln 0 HO467.out (0:Int) (by omega) (of_decide_eq_true (a10_));(try simp only[Int.reduceToNat,Int.toNat_zero,Int.toNat_ofNat,Nat.reduceMul,Nat.zero_mul,Nat.zero_add]at hy32_ hz32_);(try rw[show((0:Int)).toNat=0 from rfl]at hy32_);(try rw[show((0:Int)).toNat=0 from rfl]at hz32_);have HP32:=Kd.R_putg HO467.out (0:Int) t474)|((with_reducible refine gate_store (t:=3) (p:=38) rfl ?_);refine store_event (t:=3) (p:=38) (v:=?vo_w33) (w1:=(w31.setCell ⟨go22,(0:Int).toNat,none⟩ (.int .i64 t474))) ?hg ?ho ?hn ?hr ?_;(case ho=>rfl);(case hg=>rfl);(case hn=>rfl);(case hr=>exact hr_);intro w33 hw;have hg:w31.grownBy w33 (some go22):=(by rw[hw];exact HP32.2);have hp_:Kd.R (Kd.int .i64) 3 w33 w.heap.size (fun k_=>some k_≠(v457:Value).ownBlock) (.slice (some ⟨go22,0,none⟩) t464.length co22) y477:=(by rw[hw,Ny477.out];exact HP32.1);clear HP32;replace HI449:=am_ (IsS55.grown ((a2_ HI449.out)) hg (IsS55.own_ne HI449.out HO467.out (by decide)));replace HO452:=am_ (Kd.R_over' (v:=(.slice (some ⟨go22,0,none⟩) t464.length co22)) ((a1_ HO452.out)) (Kd.R_typed HO467.out) (by decide) hg);replace HO458:=am_ (Kd.R_after (v:=(.slice (some ⟨go22,0,none⟩) t464.length co22)) (v1:=(.slice (some ⟨go22,0,none⟩) t464.length co22)) (ok:=(fun _=>True)) ((a1_ HO458.out)) hg (.inl rfl));replace HO461:=am_ (Kd.R_over' (v:=(.slice (some ⟨go22,0,none⟩) t464.length co22)) ((a1_ HO461.out)) (Kd.R_typed HO467.out) (by decide) hg);replace HO467:=am_ (hp_);replace HB:=am_ ((by rw[hw];exact below_set (HB.out) GB22.out:Below w.heap.size w w33));clear hg hw hp_))
    go_ret2
    exact⟨_,_,a8_,Kd.Q_of_R ((a48_ HO458.out)),(a1_ HO467.out),(a4_ HI449.out)⟩
   ·rw[if_neg c21]at H
    exact absurd H (by simp)
  ·rw[if_neg c19]at H
   have c19b0:(t468 == 1)=false:=beq_eq_false_iff_ne.mpr c19
   have c19b1:(t468 != 1)=true:=bne_iff_ne.mpr c19
   simp only[Option.some.injEq,Prod.mk.injEq]at H
   obtain⟨rfl,rfl⟩:=H
   go_enter Tryd.func20,Tryd.ntmps20
   go_wp2_with (first|((with_reducible refine gate_dst (N:=12) rfl ?_);refine box_event ?hg (N:=12) ?hd (cs:= #[.slice A0 l0.length c0, .int .i64 0, .int .u64 0]) (t:=55) ?hr ?_;(case hd=>rfl);(case hg=>rfl);(case hr=>exact hr_);intro g449 hg w34 hbox hb;have HI449:=am_ ((⟨_,_,hbox,by rw[hg];exact(below_size (a0_)),HR0.out⟩:IsS55 w w34 g449 l0 0 0));replace HB:=am_ (below_step (a0_) hb);clear hb hbox hg)|((with_reducible refine gate_callee (f:=52) rfl ?_);refine goesL_ (some 14) rfl rfl Tryd.func52 (by kernel_rfl) rfl #[.pointer (some ⟨g449,0,none⟩)] rfl gd_ ?_;(with_reducible refine(spec_l1Cur_sheet.calls k g449 l0 0 0 t450 t453 t454 w _ ?side1 ?side2 A2.out).mono ?_);(case side1=>exact(a2_ HI449.out));(case side2=>exact(a4_ HI449.out));rintro e w35 ⟨v451,rfl,ho0,hi,hb,hk⟩;refine⟨_,rfl,?_⟩;have HO452:=am_ (Kd.R_lower ho0 (below_size ((a4_ HI449.out))));replace HB:=am_ (hb);replace HI449:=am_ (hi);(try clear hb);(try clear hb2);(try clear hk);(try clear hi);(try clear ho0);obtain⟨Ao36,co36,eo36⟩:=Kd.R_slice HO452.out;subst eo36)|((with_reducible refine gate_callee (f:=10) rfl ?_);refine goesL_ (some 17) rfl rfl Tryd.func10 (by kernel_rfl) rfl #[.slice Ao36 t450.length co36] rfl gd_ ?_;(with_reducible refine(spec_TrackChecksums.calls k _ _ t450 t455 t456 _ ?side1 ?side2 A3.out).mono ?_);(case side1=>exact(a12_ HO452.out));(case side2=>exact(Kd.R_reads' HO452.out).2.1);rintro e w37 ⟨v457,rfl,ho0,hb⟩;refine⟨_,rfl,?_⟩;replace HO452:=am_ (Kd.R_below ((a1_ HO452.out)) hb);have HO458:=am_ (Kd.R_lower ho0 (below_size ((a4_ HI449.out))));replace HB:=am_ (below_step ((a4_ HI449.out)) hb);replace HI449:=am_ (IsS55.below ((a2_ HI449.out)) hb);(try clear hb);(try clear hb2);(try clear hk);(try clear hi);(try clear ho0))|((with_reducible refine gate_callee (f:=53) rfl ?_);refine goesL_ (some 23) rfl rfl Tryd.func53 (by kernel_rfl) rfl #[.pointer (some ⟨g449,0,none⟩), .slice Ao36 t450.length co36] rfl gd_ ?_;(with_reducible refine(spec_l1Cur_changed.calls k g449 l0 t453 t454 _ _ t450 t459 t462 t463 w _ ?side1 ?side2 ?side3 ?side4 A4.out).mono ?_);(case side1=>exact(a2_ HI449.out));(case side2=>exact(a4_ HI449.out));(case side3=>exact Kd.C_foot_own (IsS55.apart (show IsS55 w _ g449 l0 t453 t454 from(a2_ HI449.out)) ((a1_ HO452.out)) (by decide)) (fun _ h_=>h_.2));(case side4=>exact(Kd.R_reads' HO452.out).2.1);rintro e w38 ⟨v460,rfl,ho0,hi,hb,hk⟩;refine⟨_,rfl,?_⟩;replace HO458:=am_ (Kd.R_mono (Kd.R_keep (IsS55.apart (show IsS55 w _ g449 l0 t453 t454 from(a2_ HI449.out)) ((a1_ HO458.out)) (by decide)) hk (fun _ h=>h.2)) (fun _ h=>h.1));have HO461:=am_ (Kd.R_lower (Kd.R_new' ho0 (Kd.R_lt ((a1_ HO452.out)))) (below_size ((a4_ HI449.out))));replace HO452:=am_ (Kd.R_mono (Kd.R_told (Kd.R_oldK (IsS55.apart (show IsS55 w _ g449 l0 t453 t454 from(a2_ HI449.out)) ((a1_ HO452.out)) (by decide)) hk) (Kd.R_base ho0)) (fun _ h_=>h_.1));replace HB:=am_ (hb);replace HI449:=am_ (hi);(try clear hb);(try clear hb2);(try clear hk);(try clear hi);(try clear ho0);obtain⟨Ao39,co39,eo39⟩:=Kd.R_slice HO461.out;subst eo39)|((with_reducible refine gate_callee (f:=10) rfl ?_);refine goesL_ (some 24) rfl rfl Tryd.func10 (by kernel_rfl) rfl #[.slice Ao39 t459.length co39] rfl gd_ ?_;(with_reducible refine(spec_TrackChecksums.calls k _ _ t459 t464 t465 _ ?side1 ?side2 A5.out).mono ?_);(case side1=>exact(a12_ HO461.out));(case side2=>exact(Kd.R_reads' HO461.out).2.1);rintro e w40 ⟨v466,rfl,ho0,hb⟩;refine⟨_,rfl,?_⟩;replace HO452:=am_ (Kd.R_below ((a1_ HO452.out)) hb);replace HO461:=am_ (Kd.R_below ((a1_ HO461.out)) hb);have HO467:=am_ (Kd.R_lower (Kd.R_new' ho0 (Kd.R_lt ((a1_ HO458.out)))) (below_size ((a4_ HI449.out))));replace HO458:=am_ (Kd.R_elder' ((a1_ HO458.out)) (Kd.R_base ho0) hb);replace HB:=am_ (below_step ((a4_ HI449.out)) hb);replace HI449:=am_ (IsS55.below ((a2_ HI449.out)) hb);(try clear hb);(try clear hb2);(try clear hk);(try clear hi);(try clear ho0))|((with_reducible refine gate_callee (f:=54) rfl ?_);refine goesL_ (some 28) rfl rfl Tryd.func54 (by kernel_rfl) rfl #[.pointer (some ⟨g449,0,none⟩), .int .i64 16] rfl gd_ ?_;(with_reducible refine(spec_l1Cur_pick.calls g449 l0 t462 t463 16 t468 t469 t470 w _ ?side1 ?side2 A6.out).mono ?_);(case side1=>exact(a2_ HI449.out));(case side2=>exact(a4_ HI449.out));rintro e w41 ⟨rfl,hi,hb,hk⟩;refine⟨_,rfl,?_⟩;replace HO452:=am_ (Kd.R_mono (Kd.R_keep (IsS55.apart (show IsS55 w _ g449 l0 t462 t463 from(a2_ HI449.out)) ((a1_ HO452.out)) (by decide)) hk (fun _ h=>h.2)) (fun _ h=>h.1));replace HO458:=am_ (Kd.R_mono (Kd.R_keep (IsS55.apart (show IsS55 w _ g449 l0 t462 t463 from(a2_ HI449.out)) ((a1_ HO458.out)) (by decide)) hk (fun _ h=>h.2)) (fun _ h=>h.1));replace HO461:=am_ (Kd.R_mono (Kd.R_keep (IsS55.apart (show IsS55 w _ g449 l0 t462 t463 from(a2_ HI449.out)) ((a1_ HO461.out)) (by decide)) hk (fun _ h=>h.2)) (fun _ h=>h.1));replace HO467:=am_ (Kd.R_mono (Kd.R_keep (IsS55.apart (show IsS55 w _ g449 l0 t462 t463 from(a2_ HI449.out)) ((a1_ HO467.out)) (by decide)) hk (fun _ h=>h.2)) (fun _ h=>h.1));replace HB:=am_ (hb);replace HI449:=am_ (hi);(try clear hb);(try clear hb2);(try clear hk);(try clear hi)))
   go_ret2
   exact⟨_,_,a8_,Kd.Q_of_R ((a48_ HO458.out)),(a48_ HO467.out),(a4_ HI449.out)⟩

/-! ### spec_l1All: function 83 -/
def spec_l1All.l0:Nat→Int→Int→List Int→Int→Int→Option (Bool)
 | 0,_,_,_,_,_=>none
 | k+1,x1,x2,x9,x10,x11=>if x11<x10 then(if 0≤x11 then(if x11<(x9.length:Int) then((spec_l1In.f (rd x9 x11) x1 x2).bind fun t479=>(if t479=true then(spec_l1All.l0 k x1 x2 x9 x10 (wrap64 (x11+1))) else(some false))) else(none)) else(none)) else(some true)
def spec_l1All.f (k:Nat) (l0:List Int) (a1:Int) (a2:Int):Option (Bool):=spec_l1All.l0 k a1 a2 l0 (l0.length:Int) 0
theorem spec_l1All.mono_l:∀k,(∀y0 y1 y2 y3 y4,LeO (spec_l1All.l0 k y0 y1 y2 y3 y4) (spec_l1All.l0 (k+1) y0 y1 y2 y3 y4))
 | 0=>fun _ _ _ _ _ r h=>by simp[spec_l1All.l0]at h
 | k+1=>by
  have ih0:=spec_l1All.mono_l k
  intros
  unfold spec_l1All.l0
  rotate_left
  all_goals repeat' first|(with_reducible first|exact ih0 _ _ _ _ _|exact LeO.refl _|exact LeO.none _|refine LeO.ite ?_ ?_|refine LeO.bind ?_ (fun _=>?_))|exact ih0 _ _ _ _ _|exact LeO.none _|refine LeO.ite ?_ ?_|refine LeO.bind ?_ (fun _=>?_)
theorem spec_l1All.mono:∀a0 a1 a2 k,LeO (spec_l1All.f k a0 a1 a2) (spec_l1All.f (k+1) a0 a1 a2):=by
 intro a0 a1 a2 k
 have ih0:=spec_l1All.mono_l k
 unfold spec_l1All.f
 repeat' first
  |(with_reducible exact ih0 _ _ _ _ _)
  |(with_reducible exact LeO.refl _)
  |(with_reducible exact LeO.none _)
  |(with_reducible refine LeO.ite ?_ ?_)
  |(with_reducible refine LeO.bind ?_ (fun _=>?_))
  |exact ih0 _ _ _ _ _
  |exact LeO.none _
   | refine LeO.ite ?_ ?_
   | refine LeO.bind ?_ (fun _=>?_)
set_option maxHeartbeats 8000000 in
set_option maxRecDepth 100000 in
theorem spec_l1All.calls (k:Nat) (A0:Option Addr) (c0:Nat) (l0:List Int) (a1:Int) (a2:Int) (r:Bool) (w:World) (hr0:Kd.C (Kd.int .i64) w A0 l0.length l0) (hc0:l0.length≤c0) (h:spec_l1All.f k l0 a1 a2=some r) :
 Calls Tryd.prog 83 #[.slice A0 l0.length c0, .int .i64 a1, .int .i64 a2] w fun e w'=>e = .returned (.bool r)∧Drawn0 w w':=by
 have HR0:=am_ hr0
 have HC0:=am_ hc0
 clear hr0 hc0
 have H:(spec_l1All.l0 k a1 a2 l0 (l0.length:Int) 0)=some r:=h
 clear h
 have H':=am_ H
 clear H
 go_enter Tryd.func83,Tryd.ntmps83
 go_wp2
 (try simp only[Act.put,List.setIfInBounds_toArray,List.set_cons_zero,List.set_cons_succ])
 go_loopg [11] k (fun kq v11 w'=>∃(x11_1:Int),v11 = .int .i64 x11_1∧Aside0 (spec_l1All.l0 kq a1 a2 l0 (l0.length:Int) x11_1=some r)∧Aside0 (kq≤k)∧Drawn0 w w')
 case atStart=>exact⟨(0),(by first | rfl|(simp;done)|(simp[*];done)),H',⟨Nat.le_refl _⟩,a24_⟩
 case round=>
  clear H'
  try clear p2
  obtain⟨x11_1,rfl,HA,HK1,⟨m1,rfl⟩⟩:=hrel
  cases gk with
  | zero=>exact absurd HA.out (by simp[spec_l1All.l0])
  | succ k1=>
   have H:=HA.out
   clear HA
   simp only[spec_l1All.l0]at H
   by_cases c4:x11_1<(l0.length:Int)
   ·rw[if_pos c4]at H
    have c4b0:decide (x11_1<(l0.length:Int))=true:=decide_eq_true c4
    clear c4
    by_cases c5:0≤x11_1
    ·rw[if_pos c5]at H
     have c5b0:decide (0≤x11_1)=true:=decide_eq_true c5
     clear c5
     by_cases c6:x11_1<(l0.length:Int)
     ·rw[if_pos c6]at H
      have c6b0:decide (x11_1<(l0.length:Int))=true:=decide_eq_true c6
      clear c6
      obtain⟨t479,A7,H⟩:=bo_ H
      try dsimp only at H
      by_cases c8:t479=true
      ·subst c8
       replace H:(spec_l1All.l0 k1 a1 a2 l0 (l0.length:Int) (wrap64 (x11_1+1)))=some r:=by rw[if_pos rfl]at H;exact H
       have H':=am_ H
       clear H
       have p478:0≤(x11_1:Int):=of_decide_eq_true (a10_)
       have q478:x11_1<(l0.length:Int):=of_decide_eq_true (a10_)
       obtain⟨ad478,e478,hx478_0⟩:=Kd.at_int HR0.out x11_1 p478 q478
       cases e478
       replace p478:=eq_true p478
       replace q478:=eq_true q478
       go_wp2_with (first|((with_reducible refine gate_callee (f:=77) rfl ?_);refine goesL_ (some 18) rfl rfl Tryd.func77 (by kernel_rfl) rfl #[.int .i64 (rd l0 x11_1), .int .i64 a1, .int .i64 a2] rfl gd_ ?_;(with_reducible refine(spec_l1In.calls (rd l0 x11_1) a1 a2 true _ A7.out).mono ?_);rintro e w' ⟨rfl,⟨nd,rfl⟩⟩;refine⟨_,rfl,?_⟩))
       go_roundg k1
       case measure=>have:=HK1.out;omega
       case rel=>exact⟨(wrap64 (x11_1+1)),(by first | rfl|(simp;done)|(simp[*];done)),H',⟨by have:=HK1.out;omega⟩,a24_⟩
      ·replace c8:=Bool.eq_false_iff.mpr c8
       subst c8
       replace H:(some false)=some r:=by rw[if_neg (show ¬(false=true) by decide)]at H;exact H
       obtain rfl:=Option.some.inj H
       have p478:0≤(x11_1:Int):=of_decide_eq_true (a10_)
       have q478:x11_1<(l0.length:Int):=of_decide_eq_true (a10_)
       obtain⟨ad478,e478,hx478_0⟩:=Kd.at_int HR0.out x11_1 p478 q478
       cases e478
       replace p478:=eq_true p478
       replace q478:=eq_true q478
       go_wp2_with (first|((with_reducible refine gate_callee (f:=77) rfl ?_);refine goesL_ (some 18) rfl rfl Tryd.func77 (by kernel_rfl) rfl #[.int .i64 (rd l0 x11_1), .int .i64 a1, .int .i64 a2] rfl gd_ ?_;(with_reducible refine(spec_l1In.calls (rd l0 x11_1) a1 a2 false _ A7.out).mono ?_);rintro e w' ⟨rfl,⟨nd,rfl⟩⟩;refine⟨_,rfl,?_⟩))
       go_ret
       exact⟨by first | rfl|(simp;done)|(simp[*];done),a24_⟩
     ·rw[if_neg c6]at H
      exact absurd H (by simp)
    ·rw[if_neg c5]at H
     exact absurd H (by simp)
   ·rw[if_neg c4]at H
    have c4b0:decide (x11_1<(l0.length:Int))=false:=decide_eq_false c4
    clear c4
    obtain rfl:=Option.some.inj H
    go_wp2
    go_ret
    exact⟨by first | rfl|(simp;done)|(simp[*];done),a24_⟩

end Go.Proofs.YtpbffmjjhmllbaaDoor.QFnChecksums
