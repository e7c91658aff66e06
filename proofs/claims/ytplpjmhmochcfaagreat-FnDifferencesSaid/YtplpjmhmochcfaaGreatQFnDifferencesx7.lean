/- Written by a program of this session (the kit's printer, with leaf contracts proved by hand put in): what each Go function computes, and that the call computes it. No condition but those that each theorem names. -/
import Derived.Test.YtplpjmhmochcfaaGreatQFnDifferencesx0
import Derived.Test.YtplpjmhmochcfaaGreatQFnDifferencesx2
import Derived.Test.YtplpjmhmochcfaaGreatQFnDifferencesx3
import Derived.Test.YtplpjmhmochcfaaGreatQFnDifferencesx5
import Derived.Test.YtplpjmhmochcfaaGreatQFnDifferencesx6
namespace Go.Proofs.YtplpjmhmochcfaaGreat.QFnDifferences
open Go.RowKit Go.Proofs.YtplpjmhmochcfaaGreatW.PrintWords Go.Proofs.YtplpjmhmochcfaaGreatW.PrintLast Go.Proofs.YtplpjmhmochcfaaGreatW.PrintMore
attribute [local go_sem] max2_int min2_int max_two min_two max_three min_three max_four min_four   -- for this text's walks alone
set_option linter.unusedVariables false
set_option linter.unusedSimpArgs false

/-! ### spec_shDrop: function 85 -/
def spec_shDrop.f (l0:List (S40)) (a1:Int):Option ((List (S40))):=(some (([]:List (S40)):List (S40))).bind fun y307=>(if 0≤a1 then(if a1≤(l0.length:Int) then((some (l0.take (a1:Int).toNat:List (S40))).bind fun y310=>(if y307.length+y310.length<5864062014805 then((some (y307 ++ y310:List (S40))).bind fun y314=>(if 0≤(wrap64 (a1+1)) then(if(wrap64 (a1+1))≤(l0.length:Int) then((some (l0.drop ((wrap64 (a1+1)):Int).toNat:List (S40))).bind fun y317=>(if y314.length+y317.length<5864062014805 then(some (y314 ++ y317)) else(none))) else(none)) else(none))) else(none))) else(none)) else(none))
def spec_shDrop.T1:Bool×List (List Nat×List Nat):=(true, [([], []),([], []),([], []),([1,2], [1,2]),([0,3], [0,3]),([], []),([], []),([6], [6]),([5,7], [5,7]),([4,8,4], [4,8]),([9,9,0,1,2,3,4,5,6,7,8,9], [9])])
def spec_shDrop.B1:List Nat:=[0,0,0,6,15,0,0,64,224,511,1023]
theorem spec_shDrop.tab1:rtab .any (opsOf Tryz.f85 1)=spec_shDrop.T1:=by kernel_rfl
theorem spec_shDrop.bits1:waitsOk spec_shDrop.T1.2 spec_shDrop.B1=true:=by kernel_rfl
set_option maxHeartbeats 8000000 in
set_option maxRecDepth 100000 in
theorem spec_shDrop.calls (A0:Option Addr) (c0:Nat) (l0:List (S40)) (a1:Int) (r:List (S40)) (w:World) (hr0:Kd.C k40 w A0 l0.length l0) (hc0:l0.length≤c0) (h:spec_shDrop.f l0 a1=some r) :
 Calls Tryz.prog 85 #[.slice A0 l0.length c0, .int .i64 a1] w fun e w'=>∃v0_:Value,e = .returned (v0_)∧Kd.R k40 40 w' w.heap.size (fun _=>True) v0_ r∧Below w.heap.size w w':=by
 have HR0:=am_ hr0
 have HC0:=am_ hc0
 clear hr0 hc0
 have HB:=am_ (Below.refl w.heap.size w)
 have H:((some (([]:List (S40)):List (S40))).bind fun y307=>(if 0≤a1 then(if a1≤(l0.length:Int) then((some (l0.take (a1:Int).toNat:List (S40))).bind fun y310=>(if y307.length+y310.length<5864062014805 then((some (y307 ++ y310:List (S40))).bind fun y314=>(if 0≤(wrap64 (a1+1)) then(if(wrap64 (a1+1))≤(l0.length:Int) then((some (l0.drop ((wrap64 (a1+1)):Int).toNat:List (S40))).bind fun y317=>(if y314.length+y317.length<5864062014805 then(some (y314 ++ y317)) else(none))) else(none)) else(none))) else(none))) else(none)) else(none)))=some r:=h
 clear h
 obtain⟨y307,hy307⟩:∃y_:List (S40),y_=(([]:List (S40))):=⟨_,rfl⟩
 replace H:(if 0≤a1 then(if a1≤(l0.length:Int) then((some (l0.take (a1:Int).toNat:List (S40))).bind fun y310=>(if y307.length+y310.length<5864062014805 then((some (y307 ++ y310:List (S40))).bind fun y314=>(if 0≤(wrap64 (a1+1)) then(if(wrap64 (a1+1))≤(l0.length:Int) then((some (l0.drop ((wrap64 (a1+1)):Int).toNat:List (S40))).bind fun y317=>(if y314.length+y317.length<5864062014805 then(some (y314 ++ y317)) else(none))) else(none)) else(none))) else(none))) else(none)) else(none))=some r:=by first|(rw[hy307];with_reducible exact H)|(have H2_:=(Option.bind_some _ _).symm.trans H;rw[hy307];with_reducible exact H2_)|(have H2_:=(Option.bind_some _ _).symm.trans H;with_reducible exact H2_) | with_reducible exact H|(rw[hy307];exact H)|exact H
 have Ny307:=am_ hy307
 clear hy307
 by_cases c3:0≤a1
 ·rw[if_pos c3]at H
  have c3b0:=eq_true c3
  have c3b1:decide (0≤a1)=true:=decide_eq_true c3
  clear c3
  by_cases c4:a1≤(l0.length:Int)
  ·rw[if_pos c4]at H
   have c4b0:=eq_true c4
   have c4b1:decide (a1≤(l0.length:Int))=true:=decide_eq_true c4
   clear c4
   obtain⟨y310,hy310⟩:∃y_:List (S40),y_=(l0.take (a1:Int).toNat):=⟨_,rfl⟩
   replace H:(if y307.length+y310.length<5864062014805 then((some (y307 ++ y310:List (S40))).bind fun y314=>(if 0≤(wrap64 (a1+1)) then(if(wrap64 (a1+1))≤(l0.length:Int) then((some (l0.drop ((wrap64 (a1+1)):Int).toNat:List (S40))).bind fun y317=>(if y314.length+y317.length<5864062014805 then(some (y314 ++ y317)) else(none))) else(none)) else(none))) else(none))=some r:=by first|(rw[hy310];with_reducible exact H)|(have H2_:=(Option.bind_some _ _).symm.trans H;rw[hy310];with_reducible exact H2_)|(have H2_:=(Option.bind_some _ _).symm.trans H;with_reducible exact H2_) | with_reducible exact H|(rw[hy310];exact H)|exact H
   have Ny310:=am_ hy310
   clear hy310
   by_cases c5:y307.length+y310.length<5864062014805
   ·rw[if_pos c5]at H
    have LMc5:=am_ c5
    clear c5
    obtain⟨y314,hy314⟩:∃y_:List (S40),y_=(y307 ++ y310):=⟨_,rfl⟩
    replace H:(if 0≤(wrap64 (a1+1)) then(if(wrap64 (a1+1))≤(l0.length:Int) then((some (l0.drop ((wrap64 (a1+1)):Int).toNat:List (S40))).bind fun y317=>(if y314.length+y317.length<5864062014805 then(some (y314 ++ y317)) else(none))) else(none)) else(none))=some r:=by first|(rw[hy314];with_reducible exact H)|(have H2_:=(Option.bind_some _ _).symm.trans H;rw[hy314];with_reducible exact H2_)|(have H2_:=(Option.bind_some _ _).symm.trans H;with_reducible exact H2_) | with_reducible exact H|(rw[hy314];exact H)|exact H
    have Ny314:=am_ hy314
    clear hy314
    obtain⟨ji6,hji6⟩:∃j_:Int,(wrap64 (a1+1))=j_:=⟨_,rfl⟩
    replace H:(if 0≤(ji6) then(if(ji6)≤(l0.length:Int) then((some (l0.drop ((ji6):Int).toNat:List (S40))).bind fun y317=>(if y314.length+y317.length<5864062014805 then(some (y314 ++ y317)) else(none))) else(none)) else(none))=some r:=by first|(rw[hji6]at H;exact H)|(simp only[hji6]at H ⊢;exact H)
    have hji6w:(IntKind.i64.wrap (a1+1))=ji6:=(i64_w _).trans hji6
    by_cases c7:0≤(ji6)
    ·rw[if_pos c7]at H
     have c7b0:=eq_true c7
     have c7b1:decide (0≤(ji6))=true:=decide_eq_true c7
     clear c7
     by_cases c8:(ji6)≤(l0.length:Int)
     ·rw[if_pos c8]at H
      have c8b0:=eq_true c8
      have c8b1:decide ((ji6)≤(l0.length:Int))=true:=decide_eq_true c8
      clear c8
      obtain⟨y317,hy317⟩:∃y_:List (S40),y_=(l0.drop ((ji6):Int).toNat):=⟨_,rfl⟩
      replace H:(if y314.length+y317.length<5864062014805 then(some (y314 ++ y317)) else(none))=some r:=by first|(rw[hy317];with_reducible exact H)|(have H2_:=(Option.bind_some _ _).symm.trans H;rw[hy317];with_reducible exact H2_)|(have H2_:=(Option.bind_some _ _).symm.trans H;with_reducible exact H2_) | with_reducible exact H|(rw[hy317];exact H)|exact H
      have Ny317:=am_ hy317
      clear hy317
      by_cases c9:y314.length+y317.length<5864062014805
      ·rw[if_pos c9]at H
       have LMc9:=am_ c9
       clear c9
       obtain⟨y321,hy321⟩:∃y_:List (S40),y_=(y314 ++ y317):=⟨_,rfl⟩
       replace H:(some y321)=some r:=by first|(rw[hy321];with_reducible exact H)|(have H2_:=(Option.bind_some _ _).symm.trans H;rw[hy321];with_reducible exact H2_)|(have H2_:=(Option.bind_some _ _).symm.trans H;with_reducible exact H2_) | with_reducible exact H|(rw[hy321];exact H)|exact H
       have Ny321:=am_ hy321
       clear hy321
       obtain rfl:=Option.some.inj H
       go_enter Tryz.func85,Tryz.ntmps85
       try go_wp2
       replace HB:=am_ (below_drew1 HB.out)
       have q11:(a1:Int)≤((l0.length:Int):Int):=of_decide_eq_true (a12_)
       obtain⟨i011,hi011,_,hsz11,_⟩:=info_parts info40
       have hroom11:l0.length≤c0:=HC0.out
       have hC11:Kd.C k40 _ A0 l0.length l0:=HR0.out
       have hcut11:=cut_to (P:=Tryz.prog) 24 40 .i64 Tryz.underlying24 hi011 A0 l0.length c0 a1 (of_decide_eq_true (a12_)) q11 hroom11
       have hr11:=Kd.C_take (m:=(a1:Int).toNat) hC11 (by omega)
       have hy11:y310.length=(a1:Int).toNat:=(by rw[Ny310.out,List.length_take];omega)
       rw[← Ny310.out]at hr11
       rw[← hy11]at hcut11
       have HR313:=am_ hr11
       have HC313:=am_ (show y310.length≤c0 from by omega)
       clear hr11 hC11 hroom11 hi011 hsz11
       have KY11:=am_ hy11
       clear hy11
       replace q11:=eq_true q11
       have q12:((ji6):Int)≤((l0.length:Int):Int):=of_decide_eq_true (a12_)
       obtain⟨i012,hi012,_,hsz12,_⟩:=info_parts info40
       have hroom12:l0.length≤c0:=HC0.out
       have hC12:Kd.C k40 _ A0 l0.length l0:=HR0.out
       have q012:(0:Int)≤((ji6):Int):=of_decide_eq_true (a12_)
       have hcut12:=cut_from (P:=Tryz.prog) 24 40 .i64 Tryz.underlying24 hi012 3 hsz12 A0 l0.length c0 (ji6) q012 q12
       have hr12:=Kd.C_drop (m:=((ji6):Int).toNat) (c:=c0) hC12 (by omega) hroom12
       obtain⟨A12,hA12⟩:∃A1,A1=(if c0=((ji6):Int).toNat then A0 else(A0:Option Addr).map (·.add (((ji6):Int).toNat*3))):=⟨_,rfl⟩
       obtain⟨c12,hc12⟩:∃c1,c1=c0-((ji6):Int).toNat:=⟨_,rfl⟩
       have hy12:y317.length=l0.length-((ji6):Int).toNat:=(by rw[Ny317.out,List.length_drop]<;>omega)
       rw[show(l0).drop ((ji6):Int).toNat=y317 from Ny317.out.symm]at hr12
       replace hr12:Kd.C k40 _ A12 y317.length y317:=(by rw[hA12];exact hr12)
       rw[← hy12, ← hA12, ← hc12]at hcut12
       have HR320:=am_ hr12
       have HC320:=am_ (show y317.length≤c12 from by rw[hy12,hc12];exact Nat.sub_le_sub_right hroom12 _)
       clear hr12 hC12 hroom12 hi012 hsz12 hc12
       have KY12:=am_ hy12
       have KA12:=am_ hA12
       clear hy12 hA12
       replace q12:=eq_true q12
       refine start_ (n:=11) (S:=fun w'=>True) (ds:=[]) #[false,false,false,false,false,false,false,false,false,false,false] (by kernel_rfl) rfl rfl trivial (fun hHeld=>?_);refine with_tabW spec_shDrop.tab1 spec_shDrop.bits1 (fun HT_ HW_=>?_)
       generalize w.drew=w10 at HB HR313 HR320 hHeld ⊢
       refine pure_ (i:=1) (N:=some 6) (v:=?_) (a':=?_) #[false,true,false,false,false,false,false,false,false,false,false] rfl rfl (any_of HT_.out (by kernel_rfl)) (fun _ _ _ h=>h) (Or.inl ⟨by rfl,?_⟩) ?_ ?_
       rotate_left
       ·intro w'
        go_simp
        with_reducible rfl
       rotate_left
       ·simp only[Act.put,pu_]
        rfl
       refine pure_ (i:=2) (N:=some 7) (v:=?_) (a':=?_) #[false,true,true,false,false,false,false,false,false,false,false] rfl rfl (any_of HT_.out (by kernel_rfl)) (fun _ _ _ h=>h) (Or.inl ⟨by rfl,?_⟩) ?_ ?_
       rotate_left
       ·intro w'
        go_simp
        with_reducible rfl
       rotate_left
       ·simp only[Act.put,pu_]
        rfl
       refine pure_ (i:=3) (N:=some 8) (v:=?_) (a':=?_) #[false,true,true,true,false,false,false,false,false,false,false] rfl rfl (any_of HT_.out (by kernel_rfl)) (fun _ _ _ h=>h) (Or.inl ⟨by rfl,?_⟩) ?_ ?_
       rotate_left
       ·intro w'
        go_simp
        with_reducible rfl
       rotate_left
       ·simp only[Act.put,pu_]
        rfl
       refine pure_ (i:=5) (N:=some 10) (v:=?_) (a':=?_) #[false,true,true,true,false,true,false,false,false,false,false] rfl rfl (any_of HT_.out (by kernel_rfl)) (fun _ _ _ h=>h) (Or.inl ⟨by rfl,?_⟩) ?_ ?_
       rotate_left
       ·intro w'
        go_simp
        with_reducible rfl
       rotate_left
       ·simp only[Act.put,pu_]
        rfl
       refine pure_ (i:=6) (N:=some 11) (v:=?_) (a':=?_) #[false,true,true,true,false,true,true,false,false,false,false] rfl rfl (any_of HT_.out (by kernel_rfl)) (fun _ _ _ h=>h) (Or.inl ⟨by rfl,?_⟩) ?_ ?_
       rotate_left
       ·intro w'
        go_simp
        with_reducible rfl
       rotate_left
       ·simp only[Act.put,pu_]
        rfl
       refine pure_ (i:=7) (N:=some 12) (v:=?_) (a':=?_) #[false,true,true,true,false,true,true,true,false,false,false] rfl rfl (any_of HT_.out (by kernel_rfl)) (fun _ _ _ h=>h) (Or.inl ⟨by rfl,?_⟩) ?_ ?_
       rotate_left
       ·intro w'
        go_simp
        with_reducible rfl
       rotate_left
       ·simp only[Act.put,pu_]
        rfl
       refine pure_ (i:=8) (N:=some 13) (v:=?_) (a':=?_) #[false,true,true,true,false,true,true,true,true,false,false] rfl rfl (any_of HT_.out (by kernel_rfl)) (fun _ _ _ h=>h) (Or.inl ⟨by rfl,?_⟩) ?_ ?_
       rotate_left
       ·intro w'
        go_simp
        with_reducible rfl
       rotate_left
       ·simp only[Act.put,pu_]
        rfl
       refine one_ (i:=0) (N:=some 5) #[true,true,true,true,false,true,true,true,true,false,false] rfl rfl (one_of HT_.out (by kernel_rfl)) (by decide) (fun K hK=>?_)
       refine Kd.R_lit_step k40 _ 40 ?hg (N:=5) ?hd (xs:=([]:List (S40))) (inner:=[]) (ok:=fun _=>True) (okp:=fun _=>True) ?hr ?hp (fun _ hk=>hk) trivial (Below.refl _ _) (Nat.le_refl _) (by simp) ?_;(case hd=>rfl);(case hg=>rfl);(case hr=>exact hr_);(case hp=>exact(Reps.none _ _))
       intro v308 w13 ho14 hb hg_ hnew_
       clear hg_ hnew_
       (first|rw[← Ny307.out]at ho14|(simp only[Int.reduceToNat]at ho14;rw[← Ny307.out]at ho14))
       have HO309:=am_ (Kd.R_lower ho14 (below_size (a1_)))
       replace HB:=am_ (below_step (a1_) hb)
       clear hb ho14
       refine hK.out _ _ trivial (fun hHeld=>?_)
       clear hK K
       refine norm_ (a':=?_) ?_ ?_
       rotate_left
       ·show Act.put _ (some 5) _=_
        simp only[Act.put,pu_]
        rfl
       refine one_ (i:=4) (N:=some 9) #[true,true,true,true,true,true,true,true,true,false,false] rfl rfl (one_of HT_.out (by kernel_rfl)) (by decide) (fun K hK=>?_)
       refine Kd.R_append_rows_step k40 (w0:=w) w.heap.size (by rfl) (.tmp 5) (.tmp 8) 24 40 (.agg #[(.int .i64 0),(.int .i64 0),(.int .i64 0)]) 24 rfl Tryz.underlying24 info40 rfl (by decide) (by omega) v308 y307 y310 _ _ _ (fun _=>True) (fun _=>False) rfl rfl ?aO ?aR (fun _ _ h=>h) (fun _ h=>h.elim) ?aF ?aB ?aS ?aL ?_
       (case aR=>exact(a6_ HR313.out))
       (case aB=>exact(a1_))
       (case aF=>exact(fun _ _=>trivial))
       (case aO=>exact((a0_ HO309.out)))
       (case aS=>exact(below_size (a1_)))
       (case aL=>have:=LMc5.out;omega)
       intro v315 w15 ho hb hg hat
       rw[← Ny314.out]at ho
       have n0_:=am_ (hb)
       have n1_:=am_ (ho)
       clear HB HO309
       have HB:=n0_
       have HO316:=n1_
       clear n0_ n1_ ho hb hg hat
       refine hK.out _ _ trivial (fun hHeld=>?_)
       clear hK K
       refine norm_ (a':=?_) ?_ ?_
       rotate_left
       ·show Act.put _ (some 9) _=_
        simp only[Act.put,pu_]
        rfl
       refine one_ (i:=9) (N:=some 14) #[true,true,true,true,true,true,true,true,true,true,false] rfl rfl (one_of HT_.out (by kernel_rfl)) (by decide) (fun K hK=>?_)
       refine Kd.R_append_rows_step k40 (w0:=w) w.heap.size (by rfl) (.tmp 9) (.tmp 13) 24 40 (.agg #[(.int .i64 0),(.int .i64 0),(.int .i64 0)]) 24 rfl Tryz.underlying24 info40 rfl (by decide) (by omega) v315 y314 y317 _ _ _ (fun _=>True) (fun _=>False) rfl rfl ?aO ?aR (fun _ _ h=>h) (fun _ h=>h.elim) ?aF ?aB ?aS ?aL ?_
       (case aR=>exact(a6_ HR320.out))
       (case aB=>exact(a1_))
       (case aF=>exact(fun _ _=>trivial))
       (case aO=>exact((a0_ HO316.out)))
       (case aS=>exact(below_size (a1_)))
       (case aL=>have:=LMc9.out;omega)
       intro v322 w16 ho hb hg hat
       rw[← Ny321.out]at ho
       have n0_:=am_ (hb)
       have n1_:=am_ (ho)
       clear HB HO316
       have HB:=n0_
       have HO323:=n1_
       clear n0_ n1_ ho hb hg hat
       refine hK.out _ _ trivial (fun hHeld=>?_)
       clear hK K
       refine norm_ (a':=?_) ?_ ?_
       rotate_left
       ·show Act.put _ (some 14) _=_
        simp only[Act.put,pu_]
        rfl
       refine pure_ (i:=10) (N:=some 4) (v:=?_) (a':=?_) #[true,true,true,true,true,true,true,true,true,true,true] rfl rfl (any_of HT_.out (by kernel_rfl)) (fun _ _ _ h=>h) (Or.inl ⟨by rfl,?_⟩) ?_ ?_
       rotate_left
       ·intro w'
        go_simp
        with_reducible rfl
       rotate_left
       ·simp only[Act.put,pu_]
        rfl
       refine done_ (done_of HT_.out (by kernel_rfl)) ?_
       try go_wp2
       go_ret
       exact⟨_,by first | rfl|(simp[errW_none,errW_some]<;>rfl)|(simp only[← hji6];first | rfl|(simp[errW_none,errW_some]<;>rfl))|(simp[*,errW_none,errW_some]<;>rfl),(a0_ HO323.out),a1_⟩
      ·rw[if_neg c9]at H
       exact absurd H (by simp)
     ·rw[if_neg c8]at H
      exact absurd H (by simp)
    ·rw[if_neg c7]at H
     exact absurd H (by simp)
   ·rw[if_neg c5]at H
    exact absurd H (by simp)
  ·rw[if_neg c4]at H
   exact absurd H (by simp)
 ·rw[if_neg c3]at H
  exact absurd H (by simp)

/-! ### spec_l1Cur_changed: function 44 -/
mutual
def spec_l1Cur_changed.l0:Nat→List (S40)→Int→List Int→Int→Int→Option ((List (S40))×Int×Int)
 | 0,_,_,_,_,_=>none
 | k+1,x5,x6,x1000,x1001,x1002=>if x6>0 then(if(x5.length:Int)>0 then((spec_l1Cur_one.f x1000 x1001 x1002 2).bind fun bt334=>(spec_l1Cur_changed.j1 k x5 x6 bt334.1 x1000 bt334.2.1 bt334.2.2)) else(spec_l1Cur_changed.j1 k x5 x6 false x1000 x1001 x1002)) else(some (x5,x1001,x1002))
def spec_l1Cur_changed.j1:Nat→List (S40)→Int→Bool→List Int→Int→Int→Option ((List (S40))×Int×Int)
 | 0,_,_,_,_,_,_=>none
 | k+1,x5,x6,x28,x1000,x1001,x1002=>if x28=true then((spec_l1Cur_pick.f x1000 x1001 x1002 (x5.length:Int)).bind fun bt337=>((spec_shDrop.f x5 bt337.1).bind fun t340=>(spec_l1Cur_changed.j2 k t340 x6 x1000 bt337.2.1 bt337.2.2))) else(spec_l1Cur_changed.j2 k x5 x6 x1000 x1001 x1002)
def spec_l1Cur_changed.j2:Nat→List (S40)→Int→List Int→Int→Int→Option ((List (S40))×Int×Int)
 | 0,_,_,_,_,_=>none
 | k+1,x5,x6,x1000,x1001,x1002=>(spec_l1Cur_hole.f x1000 x1001 x1002).bind fun bt343=>((spec_shWith.f k x5 bt343.1 bt343.2.1 bt343.2.2.1).bind fun bt348=>(if bt348.2=true then(spec_l1Cur_changed.l0 k bt348.1 (wrap64 (x6-1)) x1000 bt343.2.2.2.1 bt343.2.2.2.2) else(spec_l1Cur_changed.l0 k x5 (wrap64 (x6-1)) x1000 bt343.2.2.2.1 bt343.2.2.2.2)))
end
def spec_l1Cur_changed.f (k:Nat) (s0_0:List Int) (s0_1:Int) (s0_2:Int) (l1:List (S40)):Option ((List (S40))×Int×Int):=(some (([]:List (S40)):List (S40))).bind fun y324=>(if y324.length+l1.length<5864062014805 then((some (y324 ++ l1:List (S40))).bind fun y327=>((spec_shGood.f k l1).bind fun t330=>(if t330=true then((spec_l1Cur_pick.f s0_0 s0_1 s0_2 4).bind fun bt331=>(spec_l1Cur_changed.l0 k y327 bt331.1 s0_0 bt331.2.1 bt331.2.2)) else(some (y327,s0_1,s0_2))))) else(none))
theorem spec_l1Cur_changed.mono_l:∀k,(∀y0 y1 y2 y3 y4,LeO (spec_l1Cur_changed.l0 k y0 y1 y2 y3 y4) (spec_l1Cur_changed.l0 (k+1) y0 y1 y2 y3 y4))∧(∀y0 y1 y2 y3 y4 y5,LeO (spec_l1Cur_changed.j1 k y0 y1 y2 y3 y4 y5) (spec_l1Cur_changed.j1 (k+1) y0 y1 y2 y3 y4 y5))∧(∀y0 y1 y2 y3 y4,LeO (spec_l1Cur_changed.j2 k y0 y1 y2 y3 y4) (spec_l1Cur_changed.j2 (k+1) y0 y1 y2 y3 y4))
 | 0=>⟨fun _ _ _ _ _ r h=>by simp[spec_l1Cur_changed.l0]at h,fun _ _ _ _ _ _ r h=>by simp[spec_l1Cur_changed.j1]at h,fun _ _ _ _ _ r h=>by simp[spec_l1Cur_changed.j2]at h⟩
 | k+1=>by
  obtain⟨ih0,ih1,ih2⟩:=spec_l1Cur_changed.mono_l k
  refine⟨?_,?_,?_⟩
  intros
  unfold spec_l1Cur_changed.l0
  rotate_left
  intros
  unfold spec_l1Cur_changed.j1
  rotate_left
  intros
  unfold spec_l1Cur_changed.j2
  rotate_left
  all_goals repeat' first|(with_reducible first|exact ih0 _ _ _ _ _|exact ih1 _ _ _ _ _ _|exact ih2 _ _ _ _ _|exact spec_shGood.mono _ _|exact spec_shWith.mono _ _ _ _ _|exact LeO.refl _|exact LeO.none _|refine LeO.ite ?_ ?_|refine LeO.bind ?_ (fun _=>?_))|exact ih0 _ _ _ _ _|exact ih1 _ _ _ _ _ _|exact ih2 _ _ _ _ _|exact spec_shGood.mono _ _|exact spec_shWith.mono _ _ _ _ _|exact LeO.none _|refine LeO.ite ?_ ?_|refine LeO.bind ?_ (fun _=>?_)
theorem spec_l1Cur_changed.mono:∀a0 a1 a2 a3 k,LeO (spec_l1Cur_changed.f k a0 a1 a2 a3) (spec_l1Cur_changed.f (k+1) a0 a1 a2 a3):=by
 intro a0 a1 a2 a3 k
 obtain⟨ih0,ih1,ih2⟩:=spec_l1Cur_changed.mono_l k
 unfold spec_l1Cur_changed.f
 repeat' first
  |(with_reducible exact ih0 _ _ _ _ _)
  |(with_reducible exact ih1 _ _ _ _ _ _)
  |(with_reducible exact ih2 _ _ _ _ _)
  |(with_reducible exact spec_shGood.mono _ _)
  |(with_reducible exact spec_shWith.mono _ _ _ _ _)
  |(with_reducible exact LeO.refl _)
  |(with_reducible exact LeO.none _)
  |(with_reducible refine LeO.ite ?_ ?_)
  |(with_reducible refine LeO.bind ?_ (fun _=>?_))
  |exact ih0 _ _ _ _ _
  |exact ih1 _ _ _ _ _ _
  |exact ih2 _ _ _ _ _
  |exact spec_shGood.mono _ _
  |exact spec_shWith.mono _ _ _ _ _
  |exact LeO.none _
   | refine LeO.ite ?_ ?_
   | refine LeO.bind ?_ (fun _=>?_)
set_option maxHeartbeats 8000000 in
set_option maxRecDepth 100000 in
theorem spec_l1Cur_changed.calls (k:Nat) (g:Nat) (s0_0:List Int) (s0_1:Int) (s0_2:Int) (A1:Option Addr) (c1:Nat) (l1:List (S40)) (r1:List (S40)) (r2:Int) (r3:Int) (w0 w:World) (hI:IsS69 w0 w g s0_0 s0_1 s0_2) (hB:Below w0.heap.size w0 w) (hr1:∀W_,KeepBut w W_ g none→Kd.C k40 W_ A1 l1.length l1) (hc1:l1.length≤c1) (h:spec_l1Cur_changed.f k s0_0 s0_1 s0_2 l1=some (r1,r2,r3)) :
 Calls Tryz.prog 44 #[.pointer (some ⟨g,0,none⟩), .slice A1 l1.length c1] w fun e w'=>∃v0_:Value,e = .returned (v0_)∧Kd.R k40 40 w' w.heap.size (fun _=>True) v0_ r1∧IsS69 w0 w' g s0_0 r2 r3∧Below w0.heap.size w0 w'∧KeepBut w w' g none:=by
 have HR1:=am_ hr1
 have HC1:=am_ hc1
 clear hr1 hc1
 have HI0:=am_ hI
 have HK:=am_ (KeepBut.refl w g none)
 have HL:=am_ hB.size
 clear hI
 have HW0:=am_ hB.size
 have HB:=am_ hB
 clear hB
 have H:((some (([]:List (S40)):List (S40))).bind fun y324=>(if y324.length+l1.length<5864062014805 then((some (y324 ++ l1:List (S40))).bind fun y327=>((spec_shGood.f k l1).bind fun t330=>(if t330=true then((spec_l1Cur_pick.f s0_0 s0_1 s0_2 4).bind fun bt331=>(spec_l1Cur_changed.l0 k y327 bt331.1 s0_0 bt331.2.1 bt331.2.2)) else(some (y327,s0_1,s0_2))))) else(none)))=some (r1,r2,r3):=h
 clear h
 obtain⟨y324,hy324⟩:∃y_:List (S40),y_=(([]:List (S40))):=⟨_,rfl⟩
 replace H:(if y324.length+l1.length<5864062014805 then((some (y324 ++ l1:List (S40))).bind fun y327=>((spec_shGood.f k l1).bind fun t330=>(if t330=true then((spec_l1Cur_pick.f s0_0 s0_1 s0_2 4).bind fun bt331=>(spec_l1Cur_changed.l0 k y327 bt331.1 s0_0 bt331.2.1 bt331.2.2)) else(some (y327,s0_1,s0_2))))) else(none))=some (r1,r2,r3):=by first|(rw[hy324];with_reducible exact H)|(have H2_:=(Option.bind_some _ _).symm.trans H;rw[hy324];with_reducible exact H2_)|(have H2_:=(Option.bind_some _ _).symm.trans H;with_reducible exact H2_) | with_reducible exact H|(rw[hy324];exact H)|exact H
 have Ny324:=am_ hy324
 clear hy324
 by_cases c3:y324.length+l1.length<5864062014805
 ·rw[if_pos c3]at H
  have LMc3:=am_ c3
  clear c3
  obtain⟨y327,hy327⟩:∃y_:List (S40),y_=(y324 ++ l1):=⟨_,rfl⟩
  replace H:((spec_shGood.f k l1).bind fun t330=>(if t330=true then((spec_l1Cur_pick.f s0_0 s0_1 s0_2 4).bind fun bt331=>(spec_l1Cur_changed.l0 k y327 bt331.1 s0_0 bt331.2.1 bt331.2.2)) else(some (y327,s0_1,s0_2))))=some (r1,r2,r3):=by first|(rw[hy327];with_reducible exact H)|(have H2_:=(Option.bind_some _ _).symm.trans H;rw[hy327];with_reducible exact H2_)|(have H2_:=(Option.bind_some _ _).symm.trans H;with_reducible exact H2_) | with_reducible exact H|(rw[hy327];exact H)|exact H
  have Ny327:=am_ hy327
  clear hy327
  obtain⟨t330,A4,H⟩:=bo_ H
  try dsimp only at H
  by_cases c5:t330=true
  ·subst c5
   replace H:((spec_l1Cur_pick.f s0_0 s0_1 s0_2 4).bind fun bt331=>(spec_l1Cur_changed.l0 k y327 bt331.1 s0_0 bt331.2.1 bt331.2.2))=some (r1,r2,r3):=by rw[if_pos rfl]at H;exact H
   obtain⟨⟨t331,t332,t333⟩,A6,H⟩:=bo_ H
   try dsimp only at H
   have H':=am_ H
   clear H
   go_enter Tryz.func44,Tryz.ntmps44
   go_wp2_with (first|((with_reducible refine gate_dst (N:=9) rfl ?_);refine Kd.R_lit k40 _ 40 ?hg (N:=9) ?hd (xs:=([]:List (S40))) (inner:=[]) (ok:=fun _=>True) (okp:=fun _=>True) ?hr ?hp (fun _ hk=>hk) trivial (Below.refl _ _) (Nat.le_refl _) (by simp) ?_;(case hd=>rfl);(case hg=>rfl);(case hr=>exact hr_);(case hp=>exact(Reps.none _ _));intro v325 w7 ho8 hb hg_ hnew_;clear hg_ hnew_;(first|rw[← Ny324.out]at ho8|(simp only[Int.reduceToNat]at ho8;rw[← Ny324.out]at ho8));have HO326:=am_ (Kd.R_lower ho8 (keep_size (w:=w) (g:=g) (row:=none) (a7_)));replace HK:=am_ (KeepBut.trans (a7_) (KeepBut.of_below hb g none) (.inl rfl));replace HB:=am_ (below_step ((a3_ HI0.out)) hb);replace HI0:=am_ (IsS69.below ((a2_ HI0.out)) hb);clear hb ho8)|((with_reducible refine gate_builtin (b:= .append) (xs:= #[.tmp 9, .tmp 10]) rfl ?_);at_builtin;refine Kd.R_append_rows k40 w.heap.size rfl (.tmp 9) (.tmp 10) 24 40 (.agg #[(.int .i64 0),(.int .i64 0),(.int .i64 0)]) 24 rfl Tryz.underlying24 info40 rfl (by decide) (by omega) v325 y324 l1 _ _ _ (fun _=>True) (fun _=>False) rfl rfl ?aO ?aR (fun _ _ h=>h) (fun _ h=>h.elim) ?aF (Below.refl _ _) ?aS ?aL ?_;(case aR=>exact Kd.C_foot_now HR1.out (a7_));(case aF=>exact(fun _ _=>trivial));(case aO=>exact((a0_ HO326.out)));(case aS=>exact(keep_size (w:=w) (g:=g) (row:=none) (a7_)));(case aL=>have:=LMc3.out;omega);intro v328 w9 ho hb hg hat;rw[← Ny327.out]at ho;have n0_:=am_ (IsS69.grown ((a2_ HI0.out)) hg (IsS69.own_ne HI0.out HO326.out (by decide)));have n1_:=am_ (below_weaken ((a3_ HI0.out)) HL.out hb);have n2_:=am_ (KeepBut.trans (a7_) (KeepBut.of_grown hg g) (Kd.R_base2 HO326.out));have n3_:=am_ (ho);clear HI0 HB HK HO326;have HI0:=n0_;have HB:=n1_;have HK:=n2_;have HO329:=n3_;clear n0_ n1_ n2_ n3_ ho hb hg hat)|((with_reducible refine gate_callee (f:=58) rfl ?_);refine goesL_ (some 13) rfl rfl Tryz.func58 (by kernel_rfl) rfl #[.slice A1 l1.length c1] rfl gd_ ?_;(with_reducible refine(spec_shGood.calls k _ _ l1 true _ ?side1 ?side2 A4.out).mono ?_);(case side1=>exact Kd.C_foot_now HR1.out (a7_));(case side2=>exact HC1.out);rintro e w10 ⟨rfl,hb⟩;refine⟨_,rfl,?_⟩;replace HO329:=am_ (Kd.R_below ((a0_ HO329.out)) hb);replace HK:=am_ (KeepBut.trans (a7_) (KeepBut.of_below hb g none) (.inl rfl));replace HB:=am_ (below_step ((a3_ HI0.out)) hb);replace HI0:=am_ (IsS69.below ((a2_ HI0.out)) hb);(try clear hb);(try clear hb2);(try clear hk);(try clear hi))|((with_reducible refine gate_callee (f:=55) rfl ?_);refine goesL_ (some 17) rfl rfl Tryz.func55 (by kernel_rfl) rfl #[.pointer (some ⟨g,0,none⟩), .int .i64 4] rfl gd_ ?_;(with_reducible refine(spec_l1Cur_pick.calls g s0_0 s0_1 s0_2 4 t331 t332 t333 w0 _ ?side1 ?side2 A6.out).mono ?_);(case side1=>exact(a2_ HI0.out));(case side2=>exact(a3_ HI0.out));rintro e w11 ⟨rfl,hi,hb,hk⟩;refine⟨_,rfl,?_⟩;replace HO329:=am_ (Kd.R_mono (Kd.R_keep (IsS69.apart (show IsS69 w0 _ g s0_0 s0_1 s0_2 from(a2_ HI0.out)) ((a0_ HO329.out)) (by decide)) hk (fun _ h=>h.2)) (fun _ h=>h.1));replace HK:=am_ (KeepBut.trans (a7_) hk (.inl rfl));replace HB:=am_ (hb);replace HI0:=am_ (hi);(try clear hb);(try clear hb2);(try clear hk);(try clear hi)))
   (try simp only[Act.put,List.setIfInBounds_toArray,List.set_cons_zero,List.set_cons_succ])
   go_loopg [5,6] k (fun kq v5 v6 w'=>∃(x5_1:List (S40)) (x6_1:Int) (x1001_1:Int) (x1002_1:Int),v6 = .int .i64 x6_1∧Aside0 (spec_l1Cur_changed.l0 kq x5_1 x6_1 s0_0 x1001_1 x1002_1=some (r1,r2,r3))∧Aside0 (kq≤k)∧Aside0 (Kd.R k40 40 w' w.heap.size (fun _=>True) v5 x5_1)∧Aside0 (IsS69 w0 w' g s0_0 x1001_1 x1002_1)∧Aside0 (KeepBut w w' g none)∧Aside0 (Below w0.heap.size w0 w'))
   case atStart=>exact⟨(y327),(t331),(t332),(t333),(by first | rfl|(simp;done)|(simp[*];done)),H',⟨Nat.le_refl _⟩,⟨(a0_ HO329.out)⟩,⟨(a2_ HI0.out)⟩,⟨a7_⟩,⟨(a3_ HI0.out)⟩⟩
   case round=>
    clear H'
    try clear c1
    try clear p2
    try clear c3
    try clear c4
    try clear c5
    obtain⟨x5_1,x6_1,x1001_1,x1002_1,rfl,HA,HK1,HO_5,HI0,HK,HB⟩:=hrel
    cases gk with
    | zero=>exact absurd HA.out (by simp[spec_l1Cur_changed.l0])
    | succ k1=>
     have H:=HA.out
     clear HA
     simp only[spec_l1Cur_changed.l0]at H
     by_cases c12:x6_1>0
     ·rw[if_pos c12]at H
      have c12b0:decide (0<x6_1)=true:=decide_eq_true c12
      clear c12
      have HC13:=am_ H
      clear H
      go_upto_region 7 with (fail)
      go_cut [28] (fun v28 wc=>∃(kq:Nat) (x28_12:Bool) (x1001_12:Int) (x1002_12:Int),v28 = .bool x28_12∧Aside0 (spec_l1Cur_changed.j1 kq x5_1 x6_1 x28_12 s0_0 x1001_12 x1002_12=some (r1,r2,r3))∧Aside0 (kq≤k1)∧Aside0 (Kd.R k40 40 wc w.heap.size (fun _=>True) u5 x5_1)∧Aside0 (IsS69 w0 wc g s0_0 x1001_12 x1002_12)∧Aside0 (KeepBut w wc g none)∧Aside0 (Below w0.heap.size w0 wc))
      case first=>
       have H:=HC13.out
       clear HC13
       by_cases c14:(x5_1.length:Int)>0
       ·rw[if_pos c14]at H
        have c14b0:decide (0<(x5_1.length:Int))=true:=decide_eq_true c14
        have c14b1:decide (0<x5_1.length)=true:=decide_eq_true (by omega)
        clear c14
        (first|rw[c14b0]|(simp only[i64_w,i32_w];rw[c14b0]) | skip)
        obtain⟨⟨t334,t335,t336⟩,A15,H⟩:=bo_ H
        try dsimp only at H
        have H':=am_ H
        clear H
        obtain⟨Ao16,co16,eo16⟩:=Kd.R_slice HO_5.out
        subst eo16
        go_wp2_with (first|(go_at_call 43;(with_reducible refine(spec_l1Cur_one.calls g s0_0 x1001_1 x1002_1 2 t334 t335 t336 w0 _ ?side1 ?side2 A15.out).mono ?_);(case side1=>exact(a2_ HI0.out));(case side2=>exact(a3_ HI0.out));rintro e w17 ⟨rfl,hi,hb,hk⟩;replace HO_5:=am_ (Kd.R_mono (Kd.R_keep (IsS69.apart (show IsS69 w0 _ g s0_0 x1001_1 x1002_1 from(a2_ HI0.out)) ((a0_ HO_5.out)) (by decide)) hk (fun _ h=>h.2)) (fun _ h=>h.1));replace HK:=am_ (KeepBut.trans (a7_) hk (.inl rfl));replace HB:=am_ (hb);replace HI0:=am_ (hi);(try clear hb);(try clear hb2);(try clear hk);(try clear hi)))
        go_meet
        case rel=>exact⟨_,(t334),(t335),(t336),(by first | rfl|(simp;done)|(simp[*];done)),H',⟨by have:=HK1.out;first | omega|exact Nat.le_refl _⟩,⟨(a0_ HO_5.out)⟩,⟨(a2_ HI0.out)⟩,⟨a7_⟩,⟨(a3_ HI0.out)⟩⟩
       ·rw[if_neg c14]at H
        have c14b0:decide (0<(x5_1.length:Int))=false:=decide_eq_false c14
        have c14b1:decide (0<x5_1.length)=false:=decide_eq_false (by omega)
        clear c14
        (first|rw[c14b0]|(simp only[i64_w,i32_w];rw[c14b0]) | skip)
        have H':=am_ H
        clear H
        obtain⟨Ao18,co18,eo18⟩:=Kd.R_slice HO_5.out
        subst eo18
        go_wp2
        go_meet
        case rel=>exact⟨_,(false),(x1001_1),(x1002_1),(by first | rfl|(simp;done)|(simp[*];done)),H',⟨by have:=HK1.out;first | omega|exact Nat.le_refl _⟩,⟨(a0_ HO_5.out)⟩,⟨(a2_ HI0.out)⟩,⟨a7_⟩,⟨(a3_ HI0.out)⟩⟩
      case rest=>
       clear HC13
       try clear c1
       try clear p2
       try clear c3
       try clear c4
       try clear c5
       try clear c12
       try clear c12b0
       try clear c14
       try clear c14b0
       try clear c14b1
       try clear p2
       obtain⟨kq,x28_12,x1001_12,x1002_12,rfl,HA,HJ12,HO_5,HI0,HK,HB⟩:=hcut
       cases kq with
       | zero=>exact absurd HA.out (by simp[spec_l1Cur_changed.j1])
       | succ kj12=>
        have H:=HA.out
        clear HA
        simp only[spec_l1Cur_changed.j1]at H
        have HC19:=am_ H
        clear H
        go_upto_if 28 with (fail)
        go_cut [5] (fun v5 wc=>∃(kq:Nat) (x5_18:List (S40)) (x1001_18:Int) (x1002_18:Int),Aside0 (spec_l1Cur_changed.j2 kq x5_18 x6_1 s0_0 x1001_18 x1002_18=some (r1,r2,r3))∧Aside0 (kq≤kj12)∧Aside0 (Kd.R k40 40 wc w.heap.size (fun _=>True) v5 x5_18)∧Aside0 (IsS69 w0 wc g s0_0 x1001_18 x1002_18)∧Aside0 (KeepBut w wc g none)∧Aside0 (Below w0.heap.size w0 wc))
        case first=>
         have H:=HC19.out
         clear HC19
         by_cases c20:x28_12=true
         ·subst c20
          replace H:((spec_l1Cur_pick.f s0_0 x1001_12 x1002_12 (x5_1.length:Int)).bind fun bt337=>((spec_shDrop.f x5_1 bt337.1).bind fun t340=>(spec_l1Cur_changed.j2 kj12 t340 x6_1 s0_0 bt337.2.1 bt337.2.2)))=some (r1,r2,r3):=by rw[if_pos rfl]at H;exact H
          obtain⟨⟨t337,t338,t339⟩,A21,H⟩:=bo_ H
          try dsimp only at H
          obtain⟨t340,A22,H⟩:=bo_ H
          try dsimp only at H
          have H':=am_ H
          clear H
          obtain⟨Ao23,co23,eo23⟩:=Kd.R_slice HO_5.out
          subst eo23
          go_wp2_with (first|((with_reducible refine gate_callee (f:=55) rfl ?_);refine goesL_ (some 33) rfl rfl Tryz.func55 (by kernel_rfl) rfl #[.pointer (some ⟨g,0,none⟩), .int .i64 (x5_1.length:Int)] rfl gd_ ?_;(with_reducible refine(spec_l1Cur_pick.calls g s0_0 x1001_12 x1002_12 (x5_1.length:Int) t337 t338 t339 w0 _ ?side1 ?side2 A21.out).mono ?_);(case side1=>exact(a2_ HI0.out));(case side2=>exact(a3_ HI0.out));rintro e w24 ⟨rfl,hi,hb,hk⟩;refine⟨_,rfl,?_⟩;replace HO_5:=am_ (Kd.R_mono (Kd.R_keep (IsS69.apart (show IsS69 w0 _ g s0_0 x1001_12 x1002_12 from(a2_ HI0.out)) ((a0_ HO_5.out)) (by decide)) hk (fun _ h=>h.2)) (fun _ h=>h.1));replace HK:=am_ (KeepBut.trans (a7_) hk (.inl rfl));replace HB:=am_ (hb);replace HI0:=am_ (hi);(try clear hb);(try clear hb2);(try clear hk);(try clear hi))|((with_reducible refine gate_callee (f:=85) rfl ?_);refine goesL_ (some 34) rfl rfl Tryz.func85 (by kernel_rfl) rfl #[.slice Ao23 x5_1.length co23, .int .i64 t337] rfl gd_ ?_;(with_reducible refine(spec_shDrop.calls _ _ x5_1 t337 t340 _ ?side1 ?side2 A22.out).mono ?_);(case side1=>exact(a8_ HO_5.out));(case side2=>exact(Kd.R_reads' HO_5.out).2.1);rintro e w25 ⟨v341,rfl,ho0,hb⟩;refine⟨_,rfl,?_⟩;have HO342:=am_ (Kd.R_lower (Kd.R_new' ho0 (Kd.R_lt ((a0_ HO_5.out)))) (keep_size (w:=w) (g:=g) (row:=none) (a7_)));replace HO_5:=am_ (Kd.R_elder' ((a0_ HO_5.out)) (Kd.R_base ho0) hb);replace HK:=am_ (KeepBut.trans (a7_) (KeepBut.of_below hb g none) (.inl rfl));replace HB:=am_ (below_step ((a3_ HI0.out)) hb);replace HI0:=am_ (IsS69.below ((a2_ HI0.out)) hb);(try clear hb);(try clear hb2);(try clear hk);(try clear hi);(try clear ho0)))
          go_meet
          case rel=>exact⟨_,(t340),(t338),(t339),H',⟨by have:=HK1.out;have:=HJ12.out;first | omega|exact Nat.le_refl _⟩,⟨(a25_ HO342.out)⟩,⟨(a2_ HI0.out)⟩,⟨a7_⟩,⟨(a3_ HI0.out)⟩⟩
         ·replace c20:=Bool.eq_false_iff.mpr c20
          subst c20
          replace H:(spec_l1Cur_changed.j2 kj12 x5_1 x6_1 s0_0 x1001_12 x1002_12)=some (r1,r2,r3):=by rw[if_neg (show ¬(false=true) by decide)]at H;exact H
          have H':=am_ H
          clear H
          go_wp2
          go_meet
          case rel=>exact⟨_,(x5_1),(x1001_12),(x1002_12),H',⟨by have:=HK1.out;have:=HJ12.out;first | omega|exact Nat.le_refl _⟩,⟨(a0_ HO_5.out)⟩,⟨(a2_ HI0.out)⟩,⟨a7_⟩,⟨(a3_ HI0.out)⟩⟩
        case rest=>
         clear HC19
         try clear c1
         try clear c2
         try clear p2
         try clear c3
         try clear c4
         try clear c5
         try clear c8
         try clear c12
         try clear c12b0
         try clear c14
         try clear c14b0
         try clear c14b1
         try clear c20
         try clear p2
         obtain⟨kq,x5_18,x1001_18,x1002_18,HA,HJ18,HO_5,HI0,HK,HB⟩:=hcut
         cases kq with
         | zero=>exact absurd HA.out (by simp[spec_l1Cur_changed.j2])
         | succ kj18=>
          have H:=HA.out
          clear HA
          simp only[spec_l1Cur_changed.j2]at H
          obtain⟨⟨t343,t344,t345,t346,t347⟩,A26,H⟩:=bo_ H
          try dsimp only at H
          obtain⟨⟨t348,t351⟩,A27,H⟩:=bo_ H
          try dsimp only at H
          by_cases c28:t351=true
          ·subst c28
           replace H:(spec_l1Cur_changed.l0 kj18 t348 (wrap64 (x6_1-1)) s0_0 t346 t347)=some (r1,r2,r3):=by rw[if_pos rfl]at H;exact H
           have H':=am_ H
           clear H
           go_wp2_with (first|((with_reducible refine gate_callee (f:=87) rfl ?_);refine goesL_ (some 38) rfl rfl Tryz.func87 (by kernel_rfl) rfl #[.pointer (some ⟨g,0,none⟩)] rfl gd_ ?_;(with_reducible refine(spec_l1Cur_hole.calls g s0_0 x1001_18 x1002_18 t343 t344 t345 t346 t347 w0 _ ?side1 ?side2 A26.out).mono ?_);(case side1=>exact(a2_ HI0.out));(case side2=>exact(a3_ HI0.out));rintro e w29 ⟨rfl,hi,hb,hk⟩;refine⟨_,rfl,?_⟩;replace HO_5:=am_ (Kd.R_mono (Kd.R_keep (IsS69.apart (show IsS69 w0 _ g s0_0 x1001_18 x1002_18 from(a2_ HI0.out)) ((a0_ HO_5.out)) (by decide)) hk (fun _ h=>h.2)) (fun _ h=>h.1));replace HK:=am_ (KeepBut.trans (a7_) hk (.inl rfl));replace HB:=am_ (hb);replace HI0:=am_ (hi);(try clear hb);(try clear hb2);(try clear hk);(try clear hi);obtain⟨Ao30,co30,eo30⟩:=Kd.R_slice HO_5.out;subst eo30)|((with_reducible refine gate_callee (f:=86) rfl ?_);refine goesL_ (some 39) rfl rfl Tryz.func86 (by kernel_rfl) rfl #[.slice Ao30 x5_18.length co30, .agg #[.int .i64 t343, .int .i64 t344, .int .i64 t345]] rfl gd_ ?_;(with_reducible refine(spec_shWith.calls kj18 _ _ x5_18 t343 t344 t345 t348 true _ ?side1 ?side2 A27.out).mono ?_);(case side1=>exact(a8_ HO_5.out));(case side2=>exact(Kd.R_reads' HO_5.out).2.1);rintro e w31 ⟨v349,rfl,ho0,hb⟩;refine⟨_,rfl,?_⟩;have HO350:=am_ (Kd.R_lower (Kd.R_new' ho0 (Kd.R_lt ((a0_ HO_5.out)))) (keep_size (w:=w) (g:=g) (row:=none) (a7_)));replace HO_5:=am_ (Kd.R_elder' ((a0_ HO_5.out)) (Kd.R_base ho0) hb);replace HK:=am_ (KeepBut.trans (a7_) (KeepBut.of_below hb g none) (.inl rfl));replace HB:=am_ (below_step ((a3_ HI0.out)) hb);replace HI0:=am_ (IsS69.below ((a2_ HI0.out)) hb);(try clear hb);(try clear hb2);(try clear hk);(try clear hi);(try clear ho0)))
           go_roundg kj18
           case measure=>have:=HK1.out;have:=HJ12.out;have:=HJ18.out;omega
           case rel=>exact⟨(t348),(wrap64 (x6_1-1)),(t346),(t347),(by first | rfl|(simp;done)|(simp[*];done)),H',⟨by have:=HK1.out;have:=HJ12.out;have:=HJ18.out;omega⟩,⟨(a25_ HO350.out)⟩,⟨(a2_ HI0.out)⟩,⟨a7_⟩,⟨(a3_ HI0.out)⟩⟩
          ·replace c28:=Bool.eq_false_iff.mpr c28
           subst c28
           replace H:(spec_l1Cur_changed.l0 kj18 x5_18 (wrap64 (x6_1-1)) s0_0 t346 t347)=some (r1,r2,r3):=by rw[if_neg (show ¬(false=true) by decide)]at H;exact H
           have H':=am_ H
           clear H
           go_wp2_with (first|((with_reducible refine gate_callee (f:=87) rfl ?_);refine goesL_ (some 38) rfl rfl Tryz.func87 (by kernel_rfl) rfl #[.pointer (some ⟨g,0,none⟩)] rfl gd_ ?_;(with_reducible refine(spec_l1Cur_hole.calls g s0_0 x1001_18 x1002_18 t343 t344 t345 t346 t347 w0 _ ?side1 ?side2 A26.out).mono ?_);(case side1=>exact(a2_ HI0.out));(case side2=>exact(a3_ HI0.out));rintro e w32 ⟨rfl,hi,hb,hk⟩;refine⟨_,rfl,?_⟩;replace HO_5:=am_ (Kd.R_mono (Kd.R_keep (IsS69.apart (show IsS69 w0 _ g s0_0 x1001_18 x1002_18 from(a2_ HI0.out)) ((a0_ HO_5.out)) (by decide)) hk (fun _ h=>h.2)) (fun _ h=>h.1));replace HK:=am_ (KeepBut.trans (a7_) hk (.inl rfl));replace HB:=am_ (hb);replace HI0:=am_ (hi);(try clear hb);(try clear hb2);(try clear hk);(try clear hi);obtain⟨Ao33,co33,eo33⟩:=Kd.R_slice HO_5.out;subst eo33)|((with_reducible refine gate_callee (f:=86) rfl ?_);refine goesL_ (some 39) rfl rfl Tryz.func86 (by kernel_rfl) rfl #[.slice Ao33 x5_18.length co33, .agg #[.int .i64 t343, .int .i64 t344, .int .i64 t345]] rfl gd_ ?_;(with_reducible refine(spec_shWith.calls kj18 _ _ x5_18 t343 t344 t345 t348 false _ ?side1 ?side2 A27.out).mono ?_);(case side1=>exact(a8_ HO_5.out));(case side2=>exact(Kd.R_reads' HO_5.out).2.1);rintro e w34 ⟨v349,rfl,ho0,hb⟩;refine⟨_,rfl,?_⟩;have HO350:=am_ (Kd.R_lower (Kd.R_new' ho0 (Kd.R_lt ((a0_ HO_5.out)))) (keep_size (w:=w) (g:=g) (row:=none) (a7_)));replace HO_5:=am_ (Kd.R_elder' ((a0_ HO_5.out)) (Kd.R_base ho0) hb);replace HK:=am_ (KeepBut.trans (a7_) (KeepBut.of_below hb g none) (.inl rfl));replace HB:=am_ (below_step ((a3_ HI0.out)) hb);replace HI0:=am_ (IsS69.below ((a2_ HI0.out)) hb);(try clear hb);(try clear hb2);(try clear hk);(try clear hi);(try clear ho0)))
           go_roundg kj18
           case measure=>have:=HK1.out;have:=HJ12.out;have:=HJ18.out;omega
           case rel=>exact⟨(x5_18),(wrap64 (x6_1-1)),(t346),(t347),(by first | rfl|(simp;done)|(simp[*];done)),H',⟨by have:=HK1.out;have:=HJ12.out;have:=HJ18.out;omega⟩,⟨(a25_ HO_5.out)⟩,⟨(a2_ HI0.out)⟩,⟨a7_⟩,⟨(a3_ HI0.out)⟩⟩
     ·rw[if_neg c12]at H
      have c12b0:decide (0<x6_1)=false:=decide_eq_false c12
      clear c12
      simp only[Option.some.injEq,Prod.mk.injEq]at H
      obtain⟨rfl,rfl,rfl⟩:=H
      go_wp2
      go_ret
      exact⟨_,a10_,(a0_ HO_5.out),(a2_ HI0.out),(a3_ HI0.out),a7_⟩
  ·replace c5:=Bool.eq_false_iff.mpr c5
   subst c5
   replace H:(some (y327,s0_1,s0_2))=some (r1,r2,r3):=by rw[if_neg (show ¬(false=true) by decide)]at H;exact H
   simp only[Option.some.injEq,Prod.mk.injEq]at H
   obtain⟨rfl,rfl,rfl⟩:=H
   go_enter Tryz.func44,Tryz.ntmps44
   go_wp2_with (first|((with_reducible refine gate_dst (N:=9) rfl ?_);refine Kd.R_lit k40 _ 40 ?hg (N:=9) ?hd (xs:=([]:List (S40))) (inner:=[]) (ok:=fun _=>True) (okp:=fun _=>True) ?hr ?hp (fun _ hk=>hk) trivial (Below.refl _ _) (Nat.le_refl _) (by simp) ?_;(case hd=>rfl);(case hg=>rfl);(case hr=>exact hr_);(case hp=>exact(Reps.none _ _));intro v325 w35 ho36 hb hg_ hnew_;clear hg_ hnew_;(first|rw[← Ny324.out]at ho36|(simp only[Int.reduceToNat]at ho36;rw[← Ny324.out]at ho36));have HO326:=am_ (Kd.R_lower ho36 (keep_size (w:=w) (g:=g) (row:=none) (a7_)));replace HK:=am_ (KeepBut.trans (a7_) (KeepBut.of_below hb g none) (.inl rfl));replace HB:=am_ (below_step ((a3_ HI0.out)) hb);replace HI0:=am_ (IsS69.below ((a2_ HI0.out)) hb);clear hb ho36)|((with_reducible refine gate_builtin (b:= .append) (xs:= #[.tmp 9, .tmp 10]) rfl ?_);at_builtin;refine Kd.R_append_rows k40 w.heap.size rfl (.tmp 9) (.tmp 10) 24 40 (.agg #[(.int .i64 0),(.int .i64 0),(.int .i64 0)]) 24 rfl Tryz.underlying24 info40 rfl (by decide) (by omega) v325 y324 l1 _ _ _ (fun _=>True) (fun _=>False) rfl rfl ?aO ?aR (fun _ _ h=>h) (fun _ h=>h.elim) ?aF (Below.refl _ _) ?aS ?aL ?_;(case aR=>exact Kd.C_foot_now HR1.out (a7_));(case aF=>exact(fun _ _=>trivial));(case aO=>exact((a0_ HO326.out)));(case aS=>exact(keep_size (w:=w) (g:=g) (row:=none) (a7_)));(case aL=>have:=LMc3.out;omega);intro v328 w37 ho hb hg hat;rw[← Ny327.out]at ho;have n0_:=am_ (IsS69.grown ((a2_ HI0.out)) hg (IsS69.own_ne HI0.out HO326.out (by decide)));have n1_:=am_ (below_weaken ((a3_ HI0.out)) HL.out hb);have n2_:=am_ (KeepBut.trans (a7_) (KeepBut.of_grown hg g) (Kd.R_base2 HO326.out));have n3_:=am_ (ho);clear HI0 HB HK HO326;have HI0:=n0_;have HB:=n1_;have HK:=n2_;have HO329:=n3_;clear n0_ n1_ n2_ n3_ ho hb hg hat)|((with_reducible refine gate_callee (f:=58) rfl ?_);refine goesL_ (some 13) rfl rfl Tryz.func58 (by kernel_rfl) rfl #[.slice A1 l1.length c1] rfl gd_ ?_;(with_reducible refine(spec_shGood.calls k _ _ l1 false _ ?side1 ?side2 A4.out).mono ?_);(case side1=>exact Kd.C_foot_now HR1.out (a7_));(case side2=>exact HC1.out);rintro e w38 ⟨rfl,hb⟩;refine⟨_,rfl,?_⟩;replace HO329:=am_ (Kd.R_below ((a0_ HO329.out)) hb);replace HK:=am_ (KeepBut.trans (a7_) (KeepBut.of_below hb g none) (.inl rfl));replace HB:=am_ (below_step ((a3_ HI0.out)) hb);replace HI0:=am_ (IsS69.below ((a2_ HI0.out)) hb);(try clear hb);(try clear hb2);(try clear hk);(try clear hi)))
   go_ret
   exact⟨_,a10_,(a0_ HO329.out),(a2_ HI0.out),(a3_ HI0.out),a7_⟩
 ·rw[if_neg c3]at H
  exact absurd H (by simp)

/-! ### spec_DrawDifferenceOf: function 6 -/
def spec_DrawDifferenceOf.f (k:Nat) (l0:List Int):Option ((List (S40))×(List (S40))):=(spec_l1Cur_anySheet.f k l0 0 0).bind fun bt353=>((spec_l1Cur_one.f l0 bt353.2.1 bt353.2.2 6).bind fun bt358=>(if bt358.1=true then((spec_l1Cur_anySheet.f k l0 bt358.2.1 bt358.2.2).bind fun bt361=>(some (bt353.1,bt361.1))) else((spec_l1Cur_changed.f k l0 bt358.2.1 bt358.2.2 bt353.1).bind fun bt366=>(some (bt353.1,bt366.1)))))
theorem spec_DrawDifferenceOf.mono:∀a0 k,LeO (spec_DrawDifferenceOf.f k a0) (spec_DrawDifferenceOf.f (k+1) a0):=by
 intro a0 k
 unfold spec_DrawDifferenceOf.f
 repeat' first
  |(with_reducible exact spec_l1Cur_anySheet.mono _ _ _ _)
  |(with_reducible exact spec_l1Cur_changed.mono _ _ _ _ _)
  |(with_reducible exact LeO.refl _)
  |(with_reducible exact LeO.none _)
  |(with_reducible refine LeO.ite ?_ ?_)
  |(with_reducible refine LeO.bind ?_ (fun _=>?_))
  |exact spec_l1Cur_anySheet.mono _ _ _ _
  |exact spec_l1Cur_changed.mono _ _ _ _ _
  |exact LeO.none _
   | refine LeO.ite ?_ ?_
   | refine LeO.bind ?_ (fun _=>?_)
set_option maxHeartbeats 8000000 in
set_option maxRecDepth 100000 in
theorem spec_DrawDifferenceOf.calls (k:Nat) (A0:Option Addr) (c0:Nat) (l0:List Int) (r1:List (S40)) (r2:List (S40)) (w:World) (hr0:Kd.C (Kd.int .u8) w A0 l0.length l0) (hc0:l0.length≤c0) (h:spec_DrawDifferenceOf.f k l0=some (r1,r2)) :
 Calls Tryz.prog 6 #[.slice A0 l0.length c0] w fun e w'=>∃v0_ v1_:Value,e = .returned (.tuple #[v0_,v1_])∧Kd.R k40 40 w' w.heap.size (fun k_=>some k_≠(v1_:Value).ownBlock) v0_ r1∧Kd.R k40 40 w' w.heap.size (fun k_=>some k_≠(v0_:Value).ownBlock) v1_ r2∧Below w.heap.size w w':=by
 have hu69:=Tryz.underlying69
 have HR0:=am_ hr0
 have HC0:=am_ hc0
 clear hr0 hc0
 have HB:=am_ (Below.refl w.heap.size w)
 have H:((spec_l1Cur_anySheet.f k l0 0 0).bind fun bt353=>((spec_l1Cur_one.f l0 bt353.2.1 bt353.2.2 6).bind fun bt358=>(if bt358.1=true then((spec_l1Cur_anySheet.f k l0 bt358.2.1 bt358.2.2).bind fun bt361=>(some (bt353.1,bt361.1))) else((spec_l1Cur_changed.f k l0 bt358.2.1 bt358.2.2 bt353.1).bind fun bt366=>(some (bt353.1,bt366.1))))))=some (r1,r2):=h
 clear h
 obtain⟨⟨t353,t356,t357⟩,A2,H⟩:=bo_ H
 try dsimp only at H
 obtain⟨⟨t358,t359,t360⟩,A3,H⟩:=bo_ H
 try dsimp only at H
 by_cases c4:t358=true
 ·subst c4
  replace H:((spec_l1Cur_anySheet.f k l0 t359 t360).bind fun bt361=>(some (t353,bt361.1)))=some (r1,r2):=by rw[if_pos rfl]at H;exact H
  obtain⟨⟨t361,t364,t365⟩,A5,H⟩:=bo_ H
  try dsimp only at H
  simp only[Option.some.injEq,Prod.mk.injEq]at H
  obtain⟨rfl,rfl⟩:=H
  go_enter Tryz.func6,Tryz.ntmps6
  go_wp2_with (first|((with_reducible refine gate_dst (N:=8) rfl ?_);refine box_event ?hg (N:=8) ?hd (cs:= #[.slice A0 l0.length c0, .int .i64 0, .int .u64 0]) (t:=69) ?hr ?_;(case hd=>rfl);(case hg=>rfl);(case hr=>exact hr_);intro g352 hg w6 hbox hb;have HI352:=am_ ((⟨_,_,hbox,by rw[hg];exact(below_size (a1_)),HR0.out⟩:IsS69 w w6 g352 l0 0 0));replace HB:=am_ (below_step (a1_) hb);clear hb hbox hg)|((with_reducible refine gate_callee (f:=42) rfl ?_);refine goesL_ (some 10) rfl rfl Tryz.func42 (by kernel_rfl) rfl #[.pointer (some ⟨g352,0,none⟩)] rfl gd_ ?_;(with_reducible refine(spec_l1Cur_anySheet.calls k g352 l0 0 0 t353 t356 t357 w _ ?side1 ?side2 A2.out).mono ?_);(case side1=>exact(a2_ HI352.out));(case side2=>exact(a3_ HI352.out));rintro e w7 ⟨v354,rfl,ho0,hi,hb,hk⟩;refine⟨_,rfl,?_⟩;have HO355:=am_ (Kd.R_lower ho0 (below_size ((a3_ HI352.out))));replace HB:=am_ (hb);replace HI352:=am_ (hi);(try clear hb);(try clear hb2);(try clear hk);(try clear hi);(try clear ho0))|((with_reducible refine gate_callee (f:=43) rfl ?_);refine goesL_ (some 12) rfl rfl Tryz.func43 (by kernel_rfl) rfl #[.pointer (some ⟨g352,0,none⟩), .int .i64 6] rfl gd_ ?_;(with_reducible refine(spec_l1Cur_one.calls g352 l0 t356 t357 6 true t359 t360 w _ ?side1 ?side2 A3.out).mono ?_);(case side1=>exact(a2_ HI352.out));(case side2=>exact(a3_ HI352.out));rintro e w8 ⟨rfl,hi,hb,hk⟩;refine⟨_,rfl,?_⟩;replace HO355:=am_ (Kd.R_mono (Kd.R_keep (IsS69.apart (show IsS69 w _ g352 l0 t356 t357 from(a2_ HI352.out)) ((a0_ HO355.out)) (by decide)) hk (fun _ h=>h.2)) (fun _ h=>h.1));replace HB:=am_ (hb);replace HI352:=am_ (hi);(try clear hb);(try clear hb2);(try clear hk);(try clear hi))|((with_reducible refine gate_callee (f:=42) rfl ?_);refine goesL_ (some 15) rfl rfl Tryz.func42 (by kernel_rfl) rfl #[.pointer (some ⟨g352,0,none⟩)] rfl gd_ ?_;(with_reducible refine(spec_l1Cur_anySheet.calls k g352 l0 t359 t360 t361 t364 t365 w _ ?side1 ?side2 A5.out).mono ?_);(case side1=>exact(a2_ HI352.out));(case side2=>exact(a3_ HI352.out));rintro e w9 ⟨v362,rfl,ho0,hi,hb,hk⟩;refine⟨_,rfl,?_⟩;have HO363:=am_ (Kd.R_lower (Kd.R_new' ho0 (Kd.R_lt ((a0_ HO355.out)))) (below_size ((a3_ HI352.out))));replace HO355:=am_ (Kd.R_mono (Kd.R_told (Kd.R_oldK (IsS69.apart (show IsS69 w _ g352 l0 t359 t360 from(a2_ HI352.out)) ((a0_ HO355.out)) (by decide)) hk) (Kd.R_base ho0)) (fun _ h_=>h_.1));replace HB:=am_ (hb);replace HI352:=am_ (hi);(try clear hb);(try clear hb2);(try clear hk);(try clear hi);(try clear ho0)))
  go_ret2
  exact⟨_,_,a10_,(a31_ HO355.out),(a31_ HO363.out),(a3_ HI352.out)⟩
 ·replace c4:=Bool.eq_false_iff.mpr c4
  subst c4
  replace H:((spec_l1Cur_changed.f k l0 t359 t360 t353).bind fun bt366=>(some (t353,bt366.1)))=some (r1,r2):=by rw[if_neg (show ¬(false=true) by decide)]at H;exact H
  obtain⟨⟨t366,t369,t370⟩,A10,H⟩:=bo_ H
  try dsimp only at H
  simp only[Option.some.injEq,Prod.mk.injEq]at H
  obtain⟨rfl,rfl⟩:=H
  go_enter Tryz.func6,Tryz.ntmps6
  go_wp2_with (first|((with_reducible refine gate_dst (N:=8) rfl ?_);refine box_event ?hg (N:=8) ?hd (cs:= #[.slice A0 l0.length c0, .int .i64 0, .int .u64 0]) (t:=69) ?hr ?_;(case hd=>rfl);(case hg=>rfl);(case hr=>exact hr_);intro g352 hg w11 hbox hb;have HI352:=am_ ((⟨_,_,hbox,by rw[hg];exact(below_size (a1_)),HR0.out⟩:IsS69 w w11 g352 l0 0 0));replace HB:=am_ (below_step (a1_) hb);clear hb hbox hg)|((with_reducible refine gate_callee (f:=42) rfl ?_);refine goesL_ (some 10) rfl rfl Tryz.func42 (by kernel_rfl) rfl #[.pointer (some ⟨g352,0,none⟩)] rfl gd_ ?_;(with_reducible refine(spec_l1Cur_anySheet.calls k g352 l0 0 0 t353 t356 t357 w _ ?side1 ?side2 A2.out).mono ?_);(case side1=>exact(a2_ HI352.out));(case side2=>exact(a3_ HI352.out));rintro e w12 ⟨v354,rfl,ho0,hi,hb,hk⟩;refine⟨_,rfl,?_⟩;have HO355:=am_ (Kd.R_lower ho0 (below_size ((a3_ HI352.out))));replace HB:=am_ (hb);replace HI352:=am_ (hi);(try clear hb);(try clear hb2);(try clear hk);(try clear hi);(try clear ho0))|((with_reducible refine gate_callee (f:=43) rfl ?_);refine goesL_ (some 12) rfl rfl Tryz.func43 (by kernel_rfl) rfl #[.pointer (some ⟨g352,0,none⟩), .int .i64 6] rfl gd_ ?_;(with_reducible refine(spec_l1Cur_one.calls g352 l0 t356 t357 6 false t359 t360 w _ ?side1 ?side2 A3.out).mono ?_);(case side1=>exact(a2_ HI352.out));(case side2=>exact(a3_ HI352.out));rintro e w13 ⟨rfl,hi,hb,hk⟩;refine⟨_,rfl,?_⟩;replace HO355:=am_ (Kd.R_mono (Kd.R_keep (IsS69.apart (show IsS69 w _ g352 l0 t356 t357 from(a2_ HI352.out)) ((a0_ HO355.out)) (by decide)) hk (fun _ h=>h.2)) (fun _ h=>h.1));replace HB:=am_ (hb);replace HI352:=am_ (hi);(try clear hb);(try clear hb2);(try clear hk);(try clear hi);obtain⟨Ao14,co14,eo14⟩:=Kd.R_slice HO355.out;subst eo14)|((with_reducible refine gate_callee (f:=44) rfl ?_);refine goesL_ (some 19) rfl rfl Tryz.func44 (by kernel_rfl) rfl #[.pointer (some ⟨g352,0,none⟩), .slice Ao14 t353.length co14] rfl gd_ ?_;(with_reducible refine(spec_l1Cur_changed.calls k g352 l0 t359 t360 _ _ t353 t366 t369 t370 w _ ?side1 ?side2 ?side3 ?side4 A10.out).mono ?_);(case side1=>exact(a2_ HI352.out));(case side2=>exact(a3_ HI352.out));(case side3=>exact Kd.C_foot_own (IsS69.apart (show IsS69 w _ g352 l0 t359 t360 from(a2_ HI352.out)) ((a0_ HO355.out)) (by decide)) (fun _ h_=>h_.2));(case side4=>exact(Kd.R_reads' HO355.out).2.1);rintro e w15 ⟨v367,rfl,ho0,hi,hb,hk⟩;refine⟨_,rfl,?_⟩;have HO368:=am_ (Kd.R_lower (Kd.R_new' ho0 (Kd.R_lt ((a0_ HO355.out)))) (below_size ((a3_ HI352.out))));replace HO355:=am_ (Kd.R_mono (Kd.R_told (Kd.R_oldK (IsS69.apart (show IsS69 w _ g352 l0 t359 t360 from(a2_ HI352.out)) ((a0_ HO355.out)) (by decide)) hk) (Kd.R_base ho0)) (fun _ h_=>h_.1));replace HB:=am_ (hb);replace HI352:=am_ (hi);(try clear hb);(try clear hb2);(try clear hk);(try clear hi);(try clear ho0)))
  go_ret2
  exact⟨_,_,a10_,(a31_ HO355.out),(a31_ HO368.out),(a3_ HI352.out)⟩

/-! ### impl_isTrack: function 107 -/
def impl_isTrack.f (a0:Int):Option (Bool):=if a0≥0 then(some (decide (a0<20))) else(some false)
set_option maxHeartbeats 8000000 in
set_option maxRecDepth 100000 in
theorem impl_isTrack.calls (a0:Int) (r:Bool) (w:World) (h:impl_isTrack.f a0=some r) :
 Calls Tryz.prog 107 #[.int .i64 a0] w fun e w'=>e = .returned (.bool r)∧Drawn0 w w':=by
 have H:(if a0≥0 then(some (decide (a0<20))) else(some false))=some r:=h
 clear h
 by_cases c2:a0≥0
 ·rw[if_pos c2]at H
  have c2b0:decide (0≤a0)=true:=decide_eq_true c2
  clear c2
  obtain rfl:=Option.some.inj H
  go_enter Tryz.func107,Tryz.ntmps107
  go_wp2
  go_ret
  exact⟨by first | rfl|(simp;done)|(simp[*];done),a38_⟩
 ·rw[if_neg c2]at H
  have c2b0:decide (0≤a0)=false:=decide_eq_false c2
  clear c2
  obtain rfl:=Option.some.inj H
  go_enter Tryz.func107,Tryz.ntmps107
  go_wp2
  go_ret
  exact⟨by first | rfl|(simp;done)|(simp[*];done),a38_⟩

/-! ### impl_IsHole: function 88 -/
def impl_IsHole.f (a0_0:Int) (a0_1:Int) (a0_2:Int):Option (Bool):=(impl_isTrack.f a0_0).bind fun t372=>(if t372=true then(if a0_1≥0 then(if a0_1<a0_2 then(some (decide (a0_2≤2000))) else(some false)) else(some false)) else(some false))
set_option maxHeartbeats 8000000 in
set_option maxRecDepth 100000 in
theorem impl_IsHole.calls (a0_0:Int) (a0_1:Int) (a0_2:Int) (r:Bool) (w:World) (h:impl_IsHole.f a0_0 a0_1 a0_2=some r) :
 Calls Tryz.prog 88 #[.agg #[.int .i64 a0_0, .int .i64 a0_1, .int .i64 a0_2]] w fun e w'=>e = .returned (.bool r)∧Below w.heap.size w w':=by
 have hu40:=Tryz.underlying40
 have HB:=am_ (Below.refl w.heap.size w)
 have H:((impl_isTrack.f a0_0).bind fun t372=>(if t372=true then(if a0_1≥0 then(if a0_1<a0_2 then(some (decide (a0_2≤2000))) else(some false)) else(some false)) else(some false)))=some r:=h
 clear h
 obtain⟨t372,A2,H⟩:=bo_ H
 try dsimp only at H
 by_cases c3:t372=true
 ·subst c3
  replace H:(if a0_1≥0 then(if a0_1<a0_2 then(some (decide (a0_2≤2000))) else(some false)) else(some false))=some r:=by rw[if_pos rfl]at H;exact H
  by_cases c4:a0_1≥0
  ·rw[if_pos c4]at H
   have c4b0:decide (0≤a0_1)=true:=decide_eq_true c4
   clear c4
   by_cases c5:a0_1<a0_2
   ·rw[if_pos c5]at H
    have c5b0:decide (a0_1<a0_2)=true:=decide_eq_true c5
    clear c5
    obtain rfl:=Option.some.inj H
    go_enter Tryz.func88,Tryz.ntmps88
    go_wp2_with (first|((with_reducible refine gate_dst (N:=1) rfl ?_);refine box_event ?hg (N:=1) ?hd (cs:= #[.int .i64 a0_0, .int .i64 a0_1, .int .i64 a0_2]) (t:=40) ?hr ?_;(case hd=>rfl);(case hg=>rfl);(case hr=>exact hr_);intro gb371 hg w6 hbox hb;have BK371:=am_ (hbox);have GW371:=am_ ((by rw[hg];exact(below_size (a1_)):w.heap.size≤gb371));have GE371:=am_ ((by rw[hg];exact(below_size (a1_)):w.heap.size≤gb371));replace HB:=am_ (below_step (a1_) hb);clear hb hbox hg;have hcz7_0:w6.cell? ⟨gb371,0,none⟩=some (.int .i64 a0_0):=(blk_cell BK371.out 0).trans rfl;have hcz7_1:w6.cell? ⟨gb371,1,none⟩=some (.int .i64 a0_1):=(blk_cell BK371.out 1).trans rfl;have hcz7_2:w6.cell? ⟨gb371,2,none⟩=some (.int .i64 a0_2):=(blk_cell BK371.out 2).trans rfl;have hfz7_0:=blk_frozen BK371.out 0;have hfz7_1:=blk_frozen BK371.out 1;have hfz7_2:=blk_frozen BK371.out 2)|((with_reducible refine gate_callee (f:=107) rfl ?_);refine goesL_ (some 5) rfl rfl Tryz.func107 (by kernel_rfl) rfl #[.int .i64 a0_0] rfl gd_ ?_;(with_reducible refine(impl_isTrack.calls a0_0 true _ A2.out).mono ?_);rintro e w' ⟨rfl,⟨nd,rfl⟩⟩;refine⟨_,rfl,?_⟩))
    go_ret
    exact⟨a10_,(a4_ GE371.out)⟩
   ·rw[if_neg c5]at H
    have c5b0:decide (a0_1<a0_2)=false:=decide_eq_false c5
    clear c5
    obtain rfl:=Option.some.inj H
    go_enter Tryz.func88,Tryz.ntmps88
    go_wp2_with (first|((with_reducible refine gate_dst (N:=1) rfl ?_);refine box_event ?hg (N:=1) ?hd (cs:= #[.int .i64 a0_0, .int .i64 a0_1, .int .i64 a0_2]) (t:=40) ?hr ?_;(case hd=>rfl);(case hg=>rfl);(case hr=>exact hr_);intro gb371 hg w8 hbox hb;have BK371:=am_ (hbox);have GW371:=am_ ((by rw[hg];exact(below_size (a1_)):w.heap.size≤gb371));have GE371:=am_ ((by rw[hg];exact(below_size (a1_)):w.heap.size≤gb371));replace HB:=am_ (below_step (a1_) hb);clear hb hbox hg;have hcz9_0:w8.cell? ⟨gb371,0,none⟩=some (.int .i64 a0_0):=(blk_cell BK371.out 0).trans rfl;have hcz9_1:w8.cell? ⟨gb371,1,none⟩=some (.int .i64 a0_1):=(blk_cell BK371.out 1).trans rfl;have hcz9_2:w8.cell? ⟨gb371,2,none⟩=some (.int .i64 a0_2):=(blk_cell BK371.out 2).trans rfl;have hfz9_0:=blk_frozen BK371.out 0;have hfz9_1:=blk_frozen BK371.out 1;have hfz9_2:=blk_frozen BK371.out 2)|((with_reducible refine gate_callee (f:=107) rfl ?_);refine goesL_ (some 5) rfl rfl Tryz.func107 (by kernel_rfl) rfl #[.int .i64 a0_0] rfl gd_ ?_;(with_reducible refine(impl_isTrack.calls a0_0 true _ A2.out).mono ?_);rintro e w' ⟨rfl,⟨nd,rfl⟩⟩;refine⟨_,rfl,?_⟩))
    go_ret
    exact⟨a10_,(a4_ GE371.out)⟩
  ·rw[if_neg c4]at H
   have c4b0:decide (0≤a0_1)=false:=decide_eq_false c4
   clear c4
   obtain rfl:=Option.some.inj H
   go_enter Tryz.func88,Tryz.ntmps88
   go_wp2_with (first|((with_reducible refine gate_dst (N:=1) rfl ?_);refine box_event ?hg (N:=1) ?hd (cs:= #[.int .i64 a0_0, .int .i64 a0_1, .int .i64 a0_2]) (t:=40) ?hr ?_;(case hd=>rfl);(case hg=>rfl);(case hr=>exact hr_);intro gb371 hg w10 hbox hb;have BK371:=am_ (hbox);have GW371:=am_ ((by rw[hg];exact(below_size (a1_)):w.heap.size≤gb371));have GE371:=am_ ((by rw[hg];exact(below_size (a1_)):w.heap.size≤gb371));replace HB:=am_ (below_step (a1_) hb);clear hb hbox hg;have hcz11_0:w10.cell? ⟨gb371,0,none⟩=some (.int .i64 a0_0):=(blk_cell BK371.out 0).trans rfl;have hcz11_1:w10.cell? ⟨gb371,1,none⟩=some (.int .i64 a0_1):=(blk_cell BK371.out 1).trans rfl;have hcz11_2:w10.cell? ⟨gb371,2,none⟩=some (.int .i64 a0_2):=(blk_cell BK371.out 2).trans rfl;have hfz11_0:=blk_frozen BK371.out 0;have hfz11_1:=blk_frozen BK371.out 1;have hfz11_2:=blk_frozen BK371.out 2)|((with_reducible refine gate_callee (f:=107) rfl ?_);refine goesL_ (some 5) rfl rfl Tryz.func107 (by kernel_rfl) rfl #[.int .i64 a0_0] rfl gd_ ?_;(with_reducible refine(impl_isTrack.calls a0_0 true _ A2.out).mono ?_);rintro e w' ⟨rfl,⟨nd,rfl⟩⟩;refine⟨_,rfl,?_⟩))
   go_ret
   exact⟨a10_,(a4_ GE371.out)⟩
 ·replace c3:=Bool.eq_false_iff.mpr c3
  subst c3
  replace H:(some false)=some r:=by rw[if_neg (show ¬(false=true) by decide)]at H;exact H
  obtain rfl:=Option.some.inj H
  go_enter Tryz.func88,Tryz.ntmps88
  go_wp2_with (first|((with_reducible refine gate_dst (N:=1) rfl ?_);refine box_event ?hg (N:=1) ?hd (cs:= #[.int .i64 a0_0, .int .i64 a0_1, .int .i64 a0_2]) (t:=40) ?hr ?_;(case hd=>rfl);(case hg=>rfl);(case hr=>exact hr_);intro gb371 hg w12 hbox hb;have BK371:=am_ (hbox);have GW371:=am_ ((by rw[hg];exact(below_size (a1_)):w.heap.size≤gb371));have GE371:=am_ ((by rw[hg];exact(below_size (a1_)):w.heap.size≤gb371));replace HB:=am_ (below_step (a1_) hb);clear hb hbox hg;have hcz13_0:w12.cell? ⟨gb371,0,none⟩=some (.int .i64 a0_0):=(blk_cell BK371.out 0).trans rfl;have hcz13_1:w12.cell? ⟨gb371,1,none⟩=some (.int .i64 a0_1):=(blk_cell BK371.out 1).trans rfl;have hcz13_2:w12.cell? ⟨gb371,2,none⟩=some (.int .i64 a0_2):=(blk_cell BK371.out 2).trans rfl;have hfz13_0:=blk_frozen BK371.out 0;have hfz13_1:=blk_frozen BK371.out 1;have hfz13_2:=blk_frozen BK371.out 2)|((with_reducible refine gate_callee (f:=107) rfl ?_);refine goesL_ (some 5) rfl rfl Tryz.func107 (by kernel_rfl) rfl #[.int .i64 a0_0] rfl gd_ ?_;(with_reducible refine(impl_isTrack.calls a0_0 false _ A2.out).mono ?_);rintro e w' ⟨rfl,⟨nd,rfl⟩⟩;refine⟨_,rfl,?_⟩))
  go_ret
  exact⟨a10_,(a4_ GE371.out)⟩

/-! ### impl_holeLess: function 89 -/
def impl_holeLess.f (a0_0:Int) (a0_1:Int) (a0_2:Int) (a1_0:Int) (a1_1:Int) (a1_2:Int):Option (Bool):=if a0_1=a1_1 then(some (decide (a0_0<a1_0))) else(some (decide (a0_1<a1_1)))
set_option maxHeartbeats 8000000 in
set_option maxRecDepth 100000 in
theorem impl_holeLess.calls (a0_0:Int) (a0_1:Int) (a0_2:Int) (a1_0:Int) (a1_1:Int) (a1_2:Int) (r:Bool) (w:World) (h:impl_holeLess.f a0_0 a0_1 a0_2 a1_0 a1_1 a1_2=some r) :
 Calls Tryz.prog 89 #[.agg #[.int .i64 a0_0, .int .i64 a0_1, .int .i64 a0_2], .agg #[.int .i64 a1_0, .int .i64 a1_1, .int .i64 a1_2]] w fun e w'=>e = .returned (.bool r)∧Below w.heap.size w w':=by
 have hu40:=Tryz.underlying40
 have HB:=am_ (Below.refl w.heap.size w)
 have H:(if a0_1=a1_1 then(some (decide (a0_0<a1_0))) else(some (decide (a0_1<a1_1))))=some r:=h
 clear h
 by_cases c3:a0_1=a1_1
 ·rw[if_pos c3]at H
  have c3b0:(a0_1 == a1_1)=true:=beq_iff_eq.mpr c3
  have c3b1:(a0_1 != a1_1)=false:=bne_eq_false_iff_eq.mpr c3
  clear c3
  obtain rfl:=Option.some.inj H
  go_enter Tryz.func89,Tryz.ntmps89
  go_wp2_with (first|((with_reducible refine gate_dst (N:=2) rfl ?_);refine box_event ?hg (N:=2) ?hd (cs:= #[.int .i64 a0_0, .int .i64 a0_1, .int .i64 a0_2]) (t:=40) ?hr ?_;(case hd=>rfl);(case hg=>rfl);(case hr=>exact hr_);intro gb373 hg w4 hbox hb;have BK373:=am_ (hbox);have GW373:=am_ ((by rw[hg];exact(below_size (a1_)):w.heap.size≤gb373));have GE373:=am_ ((by rw[hg];exact(below_size (a1_)):w.heap.size≤gb373));replace HB:=am_ (below_step (a1_) hb);clear hb hbox hg)|((with_reducible refine gate_dst (N:=3) rfl ?_);refine box_event ?hg (N:=3) ?hd (cs:= #[.int .i64 a1_0, .int .i64 a1_1, .int .i64 a1_2]) (t:=40) ?hr ?_;(case hd=>rfl);(case hg=>rfl);(case hr=>exact hr_);intro gb374 hg w5 hbox hb;have BK374:=am_ (hbox);have GW374:=am_ ((by rw[hg];exact(below_size ((a4_ GE373.out))):w.heap.size≤gb374));have GE374:=am_ ((by rw[hg];exact(below_size ((a4_ GE373.out))):w.heap.size≤gb374));replace HB:=am_ (below_step ((a4_ GE373.out)) hb);have NB373_374:=am_ ((by rw[hg];exact Nat.ne_of_lt (blk_lt (g:=gb373) (o:= .cells #[.int .i64 a0_0, .int .i64 a0_1, .int .i64 a0_2] 40 (0,0)) ((a5_ BK373.out))):gb373≠gb374));have NB374_373:=am_ ((by rw[hg];exact Nat.ne_of_gt (blk_lt (g:=gb373) (o:= .cells #[.int .i64 a0_0, .int .i64 a0_1, .int .i64 a0_2] 40 (0,0)) ((a5_ BK373.out))):gb374≠gb373));replace BK373:=am_ (blk_below (g:=gb373) (o:= .cells #[.int .i64 a0_0, .int .i64 a0_1, .int .i64 a0_2] 40 (0,0)) ((a5_ BK373.out)) hb);clear hb hbox hg;have hnb6:=NB373_374.out;have hnc6:=NB374_373.out;have hcz7_0:w5.cell? ⟨gb373,0,none⟩=some (.int .i64 a0_0):=(blk_cell BK373.out 0).trans rfl;have hcz7_1:w5.cell? ⟨gb373,1,none⟩=some (.int .i64 a0_1):=(blk_cell BK373.out 1).trans rfl;have hcz7_2:w5.cell? ⟨gb373,2,none⟩=some (.int .i64 a0_2):=(blk_cell BK373.out 2).trans rfl;have hfz7_0:=blk_frozen BK373.out 0;have hfz7_1:=blk_frozen BK373.out 1;have hfz7_2:=blk_frozen BK373.out 2;have hcz8_0:w5.cell? ⟨gb374,0,none⟩=some (.int .i64 a1_0):=(blk_cell BK374.out 0).trans rfl;have hcz8_1:w5.cell? ⟨gb374,1,none⟩=some (.int .i64 a1_1):=(blk_cell BK374.out 1).trans rfl;have hcz8_2:w5.cell? ⟨gb374,2,none⟩=some (.int .i64 a1_2):=(blk_cell BK374.out 2).trans rfl;have hfz8_0:=blk_frozen BK374.out 0;have hfz8_1:=blk_frozen BK374.out 1;have hfz8_2:=blk_frozen BK374.out 2))
  go_ret
  exact⟨a10_,(a26_ GE373.out GE374.out)⟩
 ·rw[if_neg c3]at H
  have c3b0:(a0_1 == a1_1)=false:=beq_eq_false_iff_ne.mpr c3
  have c3b1:(a0_1 != a1_1)=true:=bne_iff_ne.mpr c3
  obtain rfl:=Option.some.inj H
  go_enter Tryz.func89,Tryz.ntmps89
  go_wp2_with (first|((with_reducible refine gate_dst (N:=2) rfl ?_);refine box_event ?hg (N:=2) ?hd (cs:= #[.int .i64 a0_0, .int .i64 a0_1, .int .i64 a0_2]) (t:=40) ?hr ?_;(case hd=>rfl);(case hg=>rfl);(case hr=>exact hr_);intro gb373 hg w9 hbox hb;have BK373:=am_ (hbox);have GW373:=am_ ((by rw[hg];exact(below_size (a1_)):w.heap.size≤gb373));have GE373:=am_ ((by rw[hg];exact(below_size (a1_)):w.heap.size≤gb373));replace HB:=am_ (below_step (a1_) hb);clear hb hbox hg)|((with_reducible refine gate_dst (N:=3) rfl ?_);refine box_event ?hg (N:=3) ?hd (cs:= #[.int .i64 a1_0, .int .i64 a1_1, .int .i64 a1_2]) (t:=40) ?hr ?_;(case hd=>rfl);(case hg=>rfl);(case hr=>exact hr_);intro gb374 hg w10 hbox hb;have BK374:=am_ (hbox);have GW374:=am_ ((by rw[hg];exact(below_size ((a4_ GE373.out))):w.heap.size≤gb374));have GE374:=am_ ((by rw[hg];exact(below_size ((a4_ GE373.out))):w.heap.size≤gb374));replace HB:=am_ (below_step ((a4_ GE373.out)) hb);have NB373_374:=am_ ((by rw[hg];exact Nat.ne_of_lt (blk_lt (g:=gb373) (o:= .cells #[.int .i64 a0_0, .int .i64 a0_1, .int .i64 a0_2] 40 (0,0)) ((a5_ BK373.out))):gb373≠gb374));have NB374_373:=am_ ((by rw[hg];exact Nat.ne_of_gt (blk_lt (g:=gb373) (o:= .cells #[.int .i64 a0_0, .int .i64 a0_1, .int .i64 a0_2] 40 (0,0)) ((a5_ BK373.out))):gb374≠gb373));replace BK373:=am_ (blk_below (g:=gb373) (o:= .cells #[.int .i64 a0_0, .int .i64 a0_1, .int .i64 a0_2] 40 (0,0)) ((a5_ BK373.out)) hb);clear hb hbox hg;have hnb11:=NB373_374.out;have hnc11:=NB374_373.out;have hcz12_0:w10.cell? ⟨gb373,0,none⟩=some (.int .i64 a0_0):=(blk_cell BK373.out 0).trans rfl;have hcz12_1:w10.cell? ⟨gb373,1,none⟩=some (.int .i64 a0_1):=(blk_cell BK373.out 1).trans rfl;have hcz12_2:w10.cell? ⟨gb373,2,none⟩=some (.int .i64 a0_2):=(blk_cell BK373.out 2).trans rfl;have hfz12_0:=blk_frozen BK373.out 0;have hfz12_1:=blk_frozen BK373.out 1;have hfz12_2:=blk_frozen BK373.out 2;have hcz13_0:w10.cell? ⟨gb374,0,none⟩=some (.int .i64 a1_0):=(blk_cell BK374.out 0).trans rfl;have hcz13_1:w10.cell? ⟨gb374,1,none⟩=some (.int .i64 a1_1):=(blk_cell BK374.out 1).trans rfl;have hcz13_2:w10.cell? ⟨gb374,2,none⟩=some (.int .i64 a1_2):=(blk_cell BK374.out 2).trans rfl;have hfz13_0:=blk_frozen BK374.out 0;have hfz13_1:=blk_frozen BK374.out 1;have hfz13_2:=blk_frozen BK374.out 2))
  go_ret
  exact⟨a10_,(a26_ GE373.out GE374.out)⟩

end Go.Proofs.YtplpjmhmochcfaaGreat.QFnDifferences
