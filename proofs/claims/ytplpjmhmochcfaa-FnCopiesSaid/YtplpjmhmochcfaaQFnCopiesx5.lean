/- Written by a program of this session (the kit's printer, with leaf contracts proved by hand put in): what each Go function computes, and that the call computes it. No condition but those that each theorem names. -/
import Derived.Test.YtplpjmhmochcfaaQFnCopiesx0
import Derived.Test.YtplpjmhmochcfaaQFnCopiesx2
import Derived.Test.YtplpjmhmochcfaaQFnCopiesx4
namespace Go.Proofs.Ytplpjmhmochcfaa.QFnCopies
open Go.RowKit Go.Proofs.YtplpjmhmochcfaaW.PrintWords Go.Proofs.YtplpjmhmochcfaaW.PrintLast Go.Proofs.YtplpjmhmochcfaaW.PrintMore
attribute [local go_sem] max2_int min2_int max_two min_two max_three min_three max_four min_four   -- for this text's walks alone
set_option linter.unusedVariables false
set_option linter.unusedSimpArgs false

/-! ### spec_shWith: function 88 -/
def spec_shWith.f (k:Nat) (l0:List (S42)) (a1_0:Int) (a1_1:Int) (a1_2:Int):Option ((List (S42))×Bool):=(some (([]:List (S42)):List (S42))).bind fun y240=>(if y240.length+l0.length<5864062014805 then((some (y240 ++ l0:List (S42))).bind fun y243=>((some (([(⟨a1_0,a1_1,a1_2⟩:S42)]:List (S42)):List (S42))).bind fun y246=>(if y243.length+y246.length<5864062014805 then((spec_shSorted.f k (y243 ++ y246)).bind fun bt252=>(some (bt252.1,bt252.2))) else(none)))) else(none))
theorem spec_shWith.mono:∀a0 a1 a2 a3 k,LeO (spec_shWith.f k a0 a1 a2 a3) (spec_shWith.f (k+1) a0 a1 a2 a3):=by
 intro a0 a1 a2 a3 k
 unfold spec_shWith.f
 repeat' first
  |(with_reducible exact spec_shSorted.mono _ _)
  |(with_reducible exact LeO.refl _)
  |(with_reducible exact LeO.none _)
  |(with_reducible refine LeO.ite ?_ ?_)
  |(with_reducible refine LeO.bind ?_ (fun _=>?_))
  |exact spec_shSorted.mono _ _
  |exact LeO.none _
   | refine LeO.ite ?_ ?_
   | refine LeO.bind ?_ (fun _=>?_)
def spec_shWith.T1:Bool×List (List Nat×List Nat):=(true, [([], []),([], []),([0,1], [0,1]),([], []),([3], [3]),([2,4,2], [2,4]),([5,5], [5]),([6], [6]),([6], [6]),([7,6,0,1,2,3,4,5,6,7,8], [7]),([8,9,0,1,2,3,4,5,6,7,8,9], [8])])
def spec_shWith.B1:List Nat:=[0,0,3,0,8,31,63,127,127,511,1023]
theorem spec_shWith.tab1:rtab .any (opsOf Try.f88 1)=spec_shWith.T1:=by kernel_rfl
theorem spec_shWith.bits1:waitsOk spec_shWith.T1.2 spec_shWith.B1=true:=by kernel_rfl
set_option maxHeartbeats 8000000 in
set_option maxRecDepth 100000 in
theorem spec_shWith.calls (k:Nat) (A0:Option Addr) (c0:Nat) (l0:List (S42)) (a1_0:Int) (a1_1:Int) (a1_2:Int) (r1:List (S42)) (r2:Bool) (w:World) (hr0:Kd.C k42 w A0 l0.length l0) (hc0:l0.length≤c0) (h:spec_shWith.f k l0 a1_0 a1_1 a1_2=some (r1,r2)) :
 Calls Try.prog 88 #[.slice A0 l0.length c0, .agg #[.int .i64 a1_0, .int .i64 a1_1, .int .i64 a1_2]] w fun e w'=>∃v0_:Value,e = .returned (.tuple #[v0_, .bool r2])∧Kd.R k42 42 w' w.heap.size (fun _=>True) v0_ r1∧Below w.heap.size w w':=by
 have hu42:=Try.underlying42
 have HR0:=am_ hr0
 have HC0:=am_ hc0
 clear hr0 hc0
 have HB:=am_ (Below.refl w.heap.size w)
 have H:((some (([]:List (S42)):List (S42))).bind fun y240=>(if y240.length+l0.length<5864062014805 then((some (y240 ++ l0:List (S42))).bind fun y243=>((some (([(⟨a1_0,a1_1,a1_2⟩:S42)]:List (S42)):List (S42))).bind fun y246=>(if y243.length+y246.length<5864062014805 then((spec_shSorted.f k (y243 ++ y246)).bind fun bt252=>(some (bt252.1,bt252.2))) else(none)))) else(none)))=some (r1,r2):=h
 clear h
 obtain⟨y240,hy240⟩:∃y_:List (S42),y_=(([]:List (S42))):=⟨_,rfl⟩
 replace H:(if y240.length+l0.length<5864062014805 then((some (y240 ++ l0:List (S42))).bind fun y243=>((some (([(⟨a1_0,a1_1,a1_2⟩:S42)]:List (S42)):List (S42))).bind fun y246=>(if y243.length+y246.length<5864062014805 then((spec_shSorted.f k (y243 ++ y246)).bind fun bt252=>(some (bt252.1,bt252.2))) else(none)))) else(none))=some (r1,r2):=by first|(rw[hy240];with_reducible exact H)|(have H2_:=(Option.bind_some _ _).symm.trans H;rw[hy240];with_reducible exact H2_)|(have H2_:=(Option.bind_some _ _).symm.trans H;with_reducible exact H2_) | with_reducible exact H|(rw[hy240];exact H)|exact H
 have Ny240:=am_ hy240
 clear hy240
 by_cases c3:y240.length+l0.length<5864062014805
 ·rw[if_pos c3]at H
  have LMc3:=am_ c3
  clear c3
  obtain⟨y243,hy243⟩:∃y_:List (S42),y_=(y240 ++ l0):=⟨_,rfl⟩
  replace H:((some (([(⟨a1_0,a1_1,a1_2⟩:S42)]:List (S42)):List (S42))).bind fun y246=>(if y243.length+y246.length<5864062014805 then((spec_shSorted.f k (y243 ++ y246)).bind fun bt252=>(some (bt252.1,bt252.2))) else(none)))=some (r1,r2):=by first|(rw[hy243];with_reducible exact H)|(have H2_:=(Option.bind_some _ _).symm.trans H;rw[hy243];with_reducible exact H2_)|(have H2_:=(Option.bind_some _ _).symm.trans H;with_reducible exact H2_) | with_reducible exact H|(rw[hy243];exact H)|exact H
  have Ny243:=am_ hy243
  clear hy243
  obtain⟨y246,hy246⟩:∃y_:List (S42),y_=(([(⟨a1_0,a1_1,a1_2⟩:S42)]:List (S42))):=⟨_,rfl⟩
  replace H:(if y243.length+y246.length<5864062014805 then((spec_shSorted.f k (y243 ++ y246)).bind fun bt252=>(some (bt252.1,bt252.2))) else(none))=some (r1,r2):=by first|(rw[hy246];with_reducible exact H)|(have H2_:=(Option.bind_some _ _).symm.trans H;rw[hy246];with_reducible exact H2_)|(have H2_:=(Option.bind_some _ _).symm.trans H;with_reducible exact H2_) | with_reducible exact H|(rw[hy246];exact H)|exact H
  have Ny246:=am_ hy246
  clear hy246
  by_cases c4:y243.length+y246.length<5864062014805
  ·rw[if_pos c4]at H
   have LMc4:=am_ c4
   clear c4
   obtain⟨y249,hy249⟩:∃y_:List (S42),y_=(y243 ++ y246):=⟨_,rfl⟩
   replace H:((spec_shSorted.f k y249).bind fun bt252=>(some (bt252.1,bt252.2)))=some (r1,r2):=by first|(rw[hy249];with_reducible exact H)|(have H2_:=(Option.bind_some _ _).symm.trans H;rw[hy249];with_reducible exact H2_)|(have H2_:=(Option.bind_some _ _).symm.trans H;with_reducible exact H2_) | with_reducible exact H|(rw[hy249];exact H)|exact H
   have Ny249:=am_ hy249
   clear hy249
   obtain⟨⟨t252,t253⟩,A5,H⟩:=bo_ H
   try dsimp only at H
   simp only[Option.some.injEq,Prod.mk.injEq]at H
   obtain⟨rfl,rfl⟩:=H
   go_enter Try.func88,Try.ntmps88
   try go_wp2_with (first|((with_reducible refine gate_dst (N:=3) rfl ?_);refine box_event ?hg (N:=3) ?hd (cs:= #[.int .i64 a1_0, .int .i64 a1_1, .int .i64 a1_2]) (t:=42) ?hr ?_;(case hd=>rfl);(case hg=>rfl);(case hr=>exact hr_);intro gb239 hg w6 hbox hb;have BK239:=am_ (hbox);have GW239:=am_ ((by rw[hg];exact(below_size (a0_)):w.heap.size≤gb239));have GE239:=am_ ((by rw[hg];exact(below_size (a0_)):w.heap.size≤gb239));replace HB:=am_ (below_step (a0_) hb);clear hb hbox hg))
   replace BK239:=am_ (blk_drew BK239.out)
   replace HB:=am_ (below_drew1 HB.out)
   refine start_ (n:=11) (S:=fun w'=>w'.cell? ⟨gb239,0,none⟩=some (.int .i64 a1_0)∧w'.cell? ⟨gb239,1,none⟩=some (.int .i64 a1_1)∧w'.cell? ⟨gb239,2,none⟩=some (.int .i64 a1_2)) (ds:=[]) #[false,false,false,false,false,false,false,false,false,false,false] (by kernel_rfl) rfl rfl ⟨(blk_cell BK239.out 0).trans rfl,(blk_cell BK239.out 1).trans rfl,(blk_cell BK239.out 2).trans rfl⟩ (fun hHeld=>?_);refine with_tabW spec_shWith.tab1 spec_shWith.bits1 (fun HT_ HW_=>?_)
   generalize w6.drew=w7 at BK239 HB hHeld ⊢
   refine pure_ (i:=1) (N:=some 7) (v:=?_) (a':=?_) #[false,true,false,false,false,false,false,false,false,false,false] rfl rfl (any_of HT_.out (by kernel_rfl)) (fun _ _ _ h=>h) (Or.inl ⟨by rfl,?_⟩) ?_ ?_
   rotate_left
   ·intro w'
    go_simp
    with_reducible rfl
   rotate_left
   ·simp only[Act.put,pu_]
    rfl
   refine take_ (i:=3) (N:=some 9) (v:=?_) (a':=?_) #[false,true,false,true,false,false,false,false,false,false,false] rfl rfl (take_ofW HT_.out HW_.out (by kernel_rfl)) (fun _ _ _ h=>h) (Or.inl ⟨by rfl,?_⟩) hHeld ?_ ?_
   rotate_left
   ·rintro w' ⟨s0,s1,s2⟩
    go_simp
    with_reducible rfl
   rotate_left
   ·simp only[Act.put,pu_]
    rfl
   refine join_ (σ:=Value×Value×Value) 6 #[true,true,true,true,true,false,false,false,false,false,false] (fun s_=> [(6,s_.1),(8,s_.2.1),(10,s_.2.2)]) (fun s_ w'=>(w'.cell? ⟨gb239,0,none⟩=some (.int .i64 a1_0)∧w'.cell? ⟨gb239,1,none⟩=some (.int .i64 a1_1)∧w'.cell? ⟨gb239,2,none⟩=some (.int .i64 a1_2))∧(Kd.R k42 42 w' w.heap.size (fun k_=>some k_≠(s_.2.2:Value).ownBlock∧k_≠gb239) s_.2.1 y243)∧(Kd.R k42 42 w' w.heap.size (fun k_=>some k_≠(s_.2.1:Value).ownBlock∧k_≠gb239) s_.2.2 y246)∧(w'.heap[gb239]? = some (.cells #[.int .i64 a1_0, .int .i64 a1_1, .int .i64 a1_2] 42 (0,0)))∧(Below w.heap.size w w')) ?_ ?_
   rotate_left
   ·intro hCont
    refine two_ (i:=0) (j:=4) (Ni:=some 6) (Nj:=some 10) #[true,true,false,true,false,false,false,false,false,false,false] #[false,true,false,true,true,false,false,false,false,false,false] rfl rfl rfl rfl (two_of HT_.out (by kernel_rfl)) (by decide) (by decide) (fun K hK=>?_) (fun K hK=>?_)
    ·skip
     refine Kd.R_lit_step k42 _ 42 ?hg (N:=6) ?hd (xs:=([]:List (S42))) (inner:=[]) (ok:=fun _=>True) (okp:=fun _=>True) ?hr ?hp (fun _ hk=>hk) trivial (Below.refl _ _) (Nat.le_refl _) (by simp) ?_;(case hd=>rfl);(case hg=>rfl);(case hr=>exact hr_);(case hp=>exact(Reps.none _ _))
     intro v241 w8 ho9 hb hg_ hnew_
     clear hg_ hnew_
     (first|rw[← Ny240.out]at ho9|(simp only[Int.reduceToNat]at ho9;rw[← Ny240.out]at ho9))
     have HO242:=am_ (Kd.R_lower (Kd.R_newB ho9 (g:=gb239) (o:= .cells #[.int .i64 a1_0, .int .i64 a1_1, .int .i64 a1_2] 42 (0,0)) ((a5_ BK239.out))) (below_size ((a2_ GE239.out))))
     replace BK239:=am_ (blk_below (g:=gb239) (o:= .cells #[.int .i64 a1_0, .int .i64 a1_1, .int .i64 a1_2] 42 (0,0)) ((a5_ BK239.out)) hb)
     replace HB:=am_ (below_step ((a2_ GE239.out)) hb)
     clear hb ho9
     refine hK.out _ _ ⟨(blk_cell BK239.out 0).trans rfl,(blk_cell BK239.out 1).trans rfl,(blk_cell BK239.out 2).trans rfl⟩ (fun hHeld=>?_)
     clear hK K
     refine norm_ (a':=?_) ?_ ?_
     rotate_left
     ·show Act.put _ (some 6) _=_
      simp only[Act.put,pu_]
      rfl
     refine two_ (i:=2) (j:=4) (Ni:=some 8) (Nj:=some 10) #[true,true,true,true,false,false,false,false,false,false,false] #[true,true,false,true,true,false,false,false,false,false,false] rfl rfl rfl rfl (two_of HT_.out (by kernel_rfl)) (by decide) (by decide) (fun K hK=>?_) (fun K hK=>?_)
     ·skip
      refine Kd.R_append_rows_step k42 (w0:=w) w.heap.size (by rfl) (.tmp 6) (.tmp 7) 32 42 (.agg #[(.int .i64 0),(.int .i64 0),(.int .i64 0)]) 24 rfl Try.underlying32 info42 rfl (by decide) (by omega) v241 y240 l0 _ _ _ (fun k_=>k_≠gb239) (fun _=>False) rfl rfl ?aO ?aR (fun _ _ h=>h) (fun _ h=>h.elim) ?aF ?aB ?aS ?aL ?_
      (case aR=>exact(a13_ HR0.out))
      (case aB=>exact((a2_ GE239.out)))
      (case aF=>exact(fun k_ hk=>Kd.freshB (g:=gb239) (o:= .cells #[.int .i64 a1_0, .int .i64 a1_1, .int .i64 a1_2] 42 (0,0)) ((a5_ BK239.out)) k_ hk))
      (case aO=>exact((a35_ HO242.out)))
      (case aS=>exact(below_size ((a2_ GE239.out))))
      (case aL=>have:=LMc3.out;omega)
      intro v244 w10 ho hb hg hat
      rw[← Ny243.out]at ho
      have n0_:=am_ (blk_grown (g:=gb239) (o:= .cells #[.int .i64 a1_0, .int .i64 a1_1, .int .i64 a1_2] 42 (0,0)) ((a5_ BK239.out)) hg (Kd.R_away HO242.out (fun _ hk=>hk.2)))
      have n1_:=am_ (hb)
      have n2_:=am_ (ho)
      clear BK239 HB HO242
      have BK239:=n0_
      have HB:=n1_
      have HO245:=n2_
      clear n0_ n1_ n2_ ho hb hg hat
      refine hK.out _ _ ⟨(blk_cell BK239.out 0).trans rfl,(blk_cell BK239.out 1).trans rfl,(blk_cell BK239.out 2).trans rfl⟩ (fun hHeld=>?_)
      clear hK K
      refine norm_ (a':=?_) ?_ ?_
      rotate_left
      ·show Act.put _ (some 8) _=_
       simp only[Act.put,pu_]
       rfl
      refine one_ (i:=4) (N:=some 10) #[true,true,true,true,true,false,false,false,false,false,false] rfl rfl (one_of HT_.out (by kernel_rfl)) (by decide) (fun K hK=>?_)
      refine Kd.R_lit_step k42 _ 42 ?hg (N:=10) ?hd (xs:=([(⟨a1_0,a1_1,a1_2⟩:S42)]:List (S42))) (inner:=[.int .i64 a1_0, .int .i64 a1_1, .int .i64 a1_2]) (ok:=fun _=>True) (okp:=fun _=>True) ?hr ?hp (fun _ hk=>hk) trivial (Below.refl _ _) (Nat.le_refl _) (by simp) ?_;(case hd=>rfl);(case hg=>rfl);(case hr=>exact hr_);(case hp=>exact(Reps.c3 (show Kd.M k42 _ _ _ (⟨a1_0,a1_1,a1_2⟩:S42) [.int .i64 a1_0, .int .i64 a1_1, .int .i64 a1_2] from(k42_mkM _ _ _ (⟨a1_0,a1_1,a1_2⟩:S42) )) (Reps.none _ _)))
      intro v247 w11 ho12 hb hg_ hnew_
      clear hg_ hnew_
      (first|rw[← Ny246.out]at ho12|(simp only[Int.reduceToNat]at ho12;rw[← Ny246.out]at ho12))
      have HO248:=am_ (Kd.R_lower (Kd.R_newB (Kd.R_new' ho12 (Kd.R_lt ((a1_ HO245.out)))) (g:=gb239) (o:= .cells #[.int .i64 a1_0, .int .i64 a1_1, .int .i64 a1_2] 42 (0,0)) ((a5_ BK239.out))) (below_size ((a2_ GE239.out))))
      replace HO245:=am_ (Kd.R_elder' ((a1_ HO245.out)) (Kd.R_base ho12) hb)
      replace BK239:=am_ (blk_below (g:=gb239) (o:= .cells #[.int .i64 a1_0, .int .i64 a1_1, .int .i64 a1_2] 42 (0,0)) ((a5_ BK239.out)) hb)
      replace HB:=am_ (below_step ((a2_ GE239.out)) hb)
      clear hb ho12
      refine hK.out _ _ ⟨(blk_cell BK239.out 0).trans rfl,(blk_cell BK239.out 1).trans rfl,(blk_cell BK239.out 2).trans rfl⟩ (fun hHeld=>?_)
      clear hK K
      refine norm_ (a':=?_) ?_ ?_
      rotate_left
      ·show Act.put _ (some 10) _=_
       simp only[Act.put,pu_]
       rfl
      exact norm_ (by simp only[putAll,Act.put,List.setIfInBounds_toArray,List.set_cons_zero,List.set_cons_succ]) (hCont (v241,v244,v247) _ ⟨hHeld,((a43_ HO245.out)),((a42_ HO248.out)),((a5_ BK239.out)),((a2_ GE239.out))⟩)
     ·skip
      refine Kd.R_lit_step k42 _ 42 ?hg (N:=10) ?hd (xs:=([(⟨a1_0,a1_1,a1_2⟩:S42)]:List (S42))) (inner:=[.int .i64 a1_0, .int .i64 a1_1, .int .i64 a1_2]) (ok:=fun _=>True) (okp:=fun _=>True) ?hr ?hp (fun _ hk=>hk) trivial (Below.refl _ _) (Nat.le_refl _) (by simp) ?_;(case hd=>rfl);(case hg=>rfl);(case hr=>exact hr_);(case hp=>exact(Reps.c3 (show Kd.M k42 _ _ _ (⟨a1_0,a1_1,a1_2⟩:S42) [.int .i64 a1_0, .int .i64 a1_1, .int .i64 a1_2] from(k42_mkM _ _ _ (⟨a1_0,a1_1,a1_2⟩:S42) )) (Reps.none _ _)))
      intro v247 w10 ho11 hb hg_ hnew_
      clear hg_ hnew_
      (first|rw[← Ny246.out]at ho11|(simp only[Int.reduceToNat]at ho11;rw[← Ny246.out]at ho11))
      have HO248:=am_ (Kd.R_lower (Kd.R_newB (Kd.R_new' ho11 (Kd.R_lt ((a1_ HO242.out)))) (g:=gb239) (o:= .cells #[.int .i64 a1_0, .int .i64 a1_1, .int .i64 a1_2] 42 (0,0)) ((a5_ BK239.out))) (below_size ((a2_ GE239.out))))
      replace HO242:=am_ (Kd.R_elder' ((a1_ HO242.out)) (Kd.R_base ho11) hb)
      replace BK239:=am_ (blk_below (g:=gb239) (o:= .cells #[.int .i64 a1_0, .int .i64 a1_1, .int .i64 a1_2] 42 (0,0)) ((a5_ BK239.out)) hb)
      replace HB:=am_ (below_step ((a2_ GE239.out)) hb)
      clear hb ho11
      refine hK.out _ _ ⟨(blk_cell BK239.out 0).trans rfl,(blk_cell BK239.out 1).trans rfl,(blk_cell BK239.out 2).trans rfl⟩ (fun hHeld=>?_)
      clear hK K
      refine norm_ (a':=?_) ?_ ?_
      rotate_left
      ·show Act.put _ (some 10) _=_
       simp only[Act.put,pu_]
       rfl
      refine one_ (i:=2) (N:=some 8) #[true,true,true,true,true,false,false,false,false,false,false] rfl rfl (one_of HT_.out (by kernel_rfl)) (by decide) (fun K hK=>?_)
      refine Kd.R_append_rows_step k42 (w0:=w) w.heap.size (by rfl) (.tmp 6) (.tmp 7) 32 42 (.agg #[(.int .i64 0),(.int .i64 0),(.int .i64 0)]) 24 rfl Try.underlying32 info42 rfl (by decide) (by omega) v241 y240 l0 _ _ _ (fun k_=>some k_≠(v247:Value).ownBlock∧k_≠gb239) (fun _=>False) rfl rfl ?aO ?aR (fun _ _ h=>h) (fun _ h=>h.elim) ?aF ?aB ?aS ?aL ?_
      (case aR=>exact(a13_ HR0.out))
      (case aB=>exact((a2_ GE239.out)))
      (case aF=>exact(fun k_ hk=>⟨Kd.fresh' (Kd.R_lt ((a1_ HO248.out))) k_ hk,Kd.freshB (g:=gb239) (o:= .cells #[.int .i64 a1_0, .int .i64 a1_1, .int .i64 a1_2] 42 (0,0)) ((a5_ BK239.out)) k_ hk⟩))
      (case aO=>exact(by(with_reducible repeat (first|apply Kd.R_alloc|apply Kd.R_drewN|apply Kd.R_drew));exact Kd.R_mono HO242.out (fun _ hk=>⟨hk.2,hk.1.2⟩)))
      (case aS=>exact(below_size ((a2_ GE239.out))))
      (case aL=>have:=LMc3.out;omega)
      intro v244 w12 ho hb hg hat
      rw[← Ny243.out]at ho
      have n0_:=am_ (blk_grown (g:=gb239) (o:= .cells #[.int .i64 a1_0, .int .i64 a1_1, .int .i64 a1_2] 42 (0,0)) ((a5_ BK239.out)) hg (Kd.R_away HO242.out (fun _ hk=>hk.1.2)))
      have n1_:=am_ (Kd.R_after (ok:=(fun k_=>k_≠gb239)) (by(with_reducible repeat (first|apply Kd.R_alloc|apply Kd.R_drewN|apply Kd.R_drew));exact Kd.R_mono HO248.out (fun _ hk=>⟨hk.2,hk.1.2⟩)) hg hat)
      have n2_:=am_ (hb)
      have n3_:=am_ (ho)
      clear BK239 HO248 HB HO242
      have BK239:=n0_
      have HO248:=n1_
      have HB:=n2_
      have HO245:=n3_
      clear n0_ n1_ n2_ n3_ ho hb hg hat
      refine hK.out _ _ ⟨(blk_cell BK239.out 0).trans rfl,(blk_cell BK239.out 1).trans rfl,(blk_cell BK239.out 2).trans rfl⟩ (fun hHeld=>?_)
      clear hK K
      refine norm_ (a':=?_) ?_ ?_
      rotate_left
      ·show Act.put _ (some 8) _=_
       simp only[Act.put,pu_]
       rfl
      exact norm_ (by simp only[putAll,Act.put,List.setIfInBounds_toArray,List.set_cons_zero,List.set_cons_succ]) (hCont (v241,v244,v247) _ ⟨hHeld,((a1_ HO245.out)),((a43_ HO248.out)),((a5_ BK239.out)),((a2_ GE239.out))⟩)
    ·skip
     refine Kd.R_lit_step k42 _ 42 ?hg (N:=10) ?hd (xs:=([(⟨a1_0,a1_1,a1_2⟩:S42)]:List (S42))) (inner:=[.int .i64 a1_0, .int .i64 a1_1, .int .i64 a1_2]) (ok:=fun _=>True) (okp:=fun _=>True) ?hr ?hp (fun _ hk=>hk) trivial (Below.refl _ _) (Nat.le_refl _) (by simp) ?_;(case hd=>rfl);(case hg=>rfl);(case hr=>exact hr_);(case hp=>exact(Reps.c3 (show Kd.M k42 _ _ _ (⟨a1_0,a1_1,a1_2⟩:S42) [.int .i64 a1_0, .int .i64 a1_1, .int .i64 a1_2] from(k42_mkM _ _ _ (⟨a1_0,a1_1,a1_2⟩:S42) )) (Reps.none _ _)))
     intro v247 w8 ho9 hb hg_ hnew_
     clear hg_ hnew_
     (first|rw[← Ny246.out]at ho9|(simp only[Int.reduceToNat]at ho9;rw[← Ny246.out]at ho9))
     have HO248:=am_ (Kd.R_lower (Kd.R_newB ho9 (g:=gb239) (o:= .cells #[.int .i64 a1_0, .int .i64 a1_1, .int .i64 a1_2] 42 (0,0)) ((a5_ BK239.out))) (below_size ((a2_ GE239.out))))
     replace BK239:=am_ (blk_below (g:=gb239) (o:= .cells #[.int .i64 a1_0, .int .i64 a1_1, .int .i64 a1_2] 42 (0,0)) ((a5_ BK239.out)) hb)
     replace HB:=am_ (below_step ((a2_ GE239.out)) hb)
     clear hb ho9
     refine hK.out _ _ ⟨(blk_cell BK239.out 0).trans rfl,(blk_cell BK239.out 1).trans rfl,(blk_cell BK239.out 2).trans rfl⟩ (fun hHeld=>?_)
     clear hK K
     refine norm_ (a':=?_) ?_ ?_
     rotate_left
     ·show Act.put _ (some 10) _=_
      simp only[Act.put,pu_]
      rfl
     refine one_ (i:=0) (N:=some 6) #[true,true,false,true,true,false,false,false,false,false,false] rfl rfl (one_of HT_.out (by kernel_rfl)) (by decide) (fun K hK=>?_)
     refine Kd.R_lit_step k42 _ 42 ?hg (N:=6) ?hd (xs:=([]:List (S42))) (inner:=[]) (ok:=fun _=>True) (okp:=fun _=>True) ?hr ?hp (fun _ hk=>hk) trivial (Below.refl _ _) (Nat.le_refl _) (by simp) ?_;(case hd=>rfl);(case hg=>rfl);(case hr=>exact hr_);(case hp=>exact(Reps.none _ _))
     intro v241 w10 ho11 hb hg_ hnew_
     clear hg_ hnew_
     (first|rw[← Ny240.out]at ho11|(simp only[Int.reduceToNat]at ho11;rw[← Ny240.out]at ho11))
     have HO242:=am_ (Kd.R_lower (Kd.R_newB (Kd.R_new' ho11 (Kd.R_lt ((a1_ HO248.out)))) (g:=gb239) (o:= .cells #[.int .i64 a1_0, .int .i64 a1_1, .int .i64 a1_2] 42 (0,0)) ((a5_ BK239.out))) (below_size ((a2_ GE239.out))))
     replace HO248:=am_ (Kd.R_elder' ((a1_ HO248.out)) (Kd.R_base ho11) hb)
     replace BK239:=am_ (blk_below (g:=gb239) (o:= .cells #[.int .i64 a1_0, .int .i64 a1_1, .int .i64 a1_2] 42 (0,0)) ((a5_ BK239.out)) hb)
     replace HB:=am_ (below_step ((a2_ GE239.out)) hb)
     clear hb ho11
     refine hK.out _ _ ⟨(blk_cell BK239.out 0).trans rfl,(blk_cell BK239.out 1).trans rfl,(blk_cell BK239.out 2).trans rfl⟩ (fun hHeld=>?_)
     clear hK K
     refine norm_ (a':=?_) ?_ ?_
     rotate_left
     ·show Act.put _ (some 6) _=_
      simp only[Act.put,pu_]
      rfl
     refine one_ (i:=2) (N:=some 8) #[true,true,true,true,true,false,false,false,false,false,false] rfl rfl (one_of HT_.out (by kernel_rfl)) (by decide) (fun K hK=>?_)
     refine Kd.R_append_rows_step k42 (w0:=w) w.heap.size (by rfl) (.tmp 6) (.tmp 7) 32 42 (.agg #[(.int .i64 0),(.int .i64 0),(.int .i64 0)]) 24 rfl Try.underlying32 info42 rfl (by decide) (by omega) v241 y240 l0 _ _ _ (fun k_=>some k_≠(v247:Value).ownBlock∧k_≠gb239) (fun _=>False) rfl rfl ?aO ?aR (fun _ _ h=>h) (fun _ h=>h.elim) ?aF ?aB ?aS ?aL ?_
     (case aR=>exact(a13_ HR0.out))
     (case aB=>exact((a2_ GE239.out)))
     (case aF=>exact(fun k_ hk=>⟨Kd.fresh' (Kd.R_lt ((a1_ HO248.out))) k_ hk,Kd.freshB (g:=gb239) (o:= .cells #[.int .i64 a1_0, .int .i64 a1_1, .int .i64 a1_2] 42 (0,0)) ((a5_ BK239.out)) k_ hk⟩))
     (case aO=>exact((a42_ HO242.out)))
     (case aS=>exact(below_size ((a2_ GE239.out))))
     (case aL=>have:=LMc3.out;omega)
     intro v244 w12 ho hb hg hat
     rw[← Ny243.out]at ho
     have n0_:=am_ (blk_grown (g:=gb239) (o:= .cells #[.int .i64 a1_0, .int .i64 a1_1, .int .i64 a1_2] 42 (0,0)) ((a5_ BK239.out)) hg (Kd.R_away HO242.out (fun _ hk=>hk.2)))
     have n1_:=am_ (Kd.R_after (ok:=(fun k_=>k_≠gb239)) ((a42_ HO248.out)) hg hat)
     have n2_:=am_ (hb)
     have n3_:=am_ (ho)
     clear BK239 HO248 HB HO242
     have BK239:=n0_
     have HO248:=n1_
     have HB:=n2_
     have HO245:=n3_
     clear n0_ n1_ n2_ n3_ ho hb hg hat
     refine hK.out _ _ ⟨(blk_cell BK239.out 0).trans rfl,(blk_cell BK239.out 1).trans rfl,(blk_cell BK239.out 2).trans rfl⟩ (fun hHeld=>?_)
     clear hK K
     refine norm_ (a':=?_) ?_ ?_
     rotate_left
     ·show Act.put _ (some 8) _=_
      simp only[Act.put,pu_]
      rfl
     exact norm_ (by simp only[putAll,Act.put,List.setIfInBounds_toArray,List.set_cons_zero,List.set_cons_succ]) (hCont (v241,v244,v247) _ ⟨hHeld,((a1_ HO245.out)),((a43_ HO248.out)),((a5_ BK239.out)),((a2_ GE239.out))⟩)
   rintro⟨v241,v244,v247⟩ w13 ⟨hS_,h0_,h1_,h2_,h3_⟩
   have n0_:Aside0 (Kd.R k42 42 w13 w.heap.size (fun k_=>some k_≠(v247:Value).ownBlock∧k_≠gb239) v244 y243):=⟨h0_⟩
   have n1_:Aside0 (Kd.R k42 42 w13 w.heap.size (fun k_=>some k_≠(v244:Value).ownBlock∧k_≠gb239) v247 y246):=⟨h1_⟩
   have n2_:Aside0 (w13.heap[gb239]? = some (.cells #[.int .i64 a1_0, .int .i64 a1_1, .int .i64 a1_2] 42 (0,0))):=⟨h2_⟩
   have n3_:Aside0 (Below w.heap.size w w13):=⟨h3_⟩
   clear BK239 HB h0_ h1_ h2_ h3_
   have HO245:=n0_
   have HO248:=n1_
   have BK239:=n2_
   have HB:=n3_
   clear n0_ n1_ n2_ n3_
   have hHeld:w13.cell? ⟨gb239,0,none⟩=some (.int .i64 a1_0)∧w13.cell? ⟨gb239,1,none⟩=some (.int .i64 a1_1)∧w13.cell? ⟨gb239,2,none⟩=some (.int .i64 a1_2):=hS_
   obtain⟨Ao15,co15,eo15⟩:=Kd.R_slice HO248.out
   (first|subst eo15|(injection eo15 with f1_ f2_ f3_;have f4_:=f1_.symm;have f5_:=f3_.symm;clear f1_ f2_ f3_;subst f4_;subst f5_))
   refine norm_ (a':=?_) ?_ ?_
   rotate_left
   ·simp only[putAll,Act.put,List.setIfInBounds_toArray,List.set_cons_zero,List.set_cons_succ]
    rfl
   refine one_ (i:=5) (N:=some 11) #[true,true,true,true,true,true,false,false,false,false,false] rfl rfl (one_of HT_.out (by kernel_rfl)) (by decide) (fun K hK=>?_)
   refine Kd.R_append_rows_step k42 (w0:=w) w.heap.size (by rfl) (.tmp 8) (.tmp 10) 32 42 (.agg #[(.int .i64 0),(.int .i64 0),(.int .i64 0)]) 24 rfl Try.underlying32 info42 rfl (by decide) (by omega) v244 y243 y246 _ _ _ (fun k_=>some k_≠(.slice Ao15 y246.length co15:Value).ownBlock∧k_≠gb239) (fun _=>False) rfl rfl ?aO ?aR (fun _ _ h=>h) (fun _ h=>h.elim) ?aF ?aB ?aS ?aL ?_
   (case aR=>exact(a11_ HO248.out))
   (case aB=>exact((a2_ GE239.out)))
   (case aF=>exact(fun k_ hk=>⟨Kd.fresh' (Kd.R_lt ((a1_ HO248.out))) k_ hk,Kd.freshB (g:=gb239) (o:= .cells #[.int .i64 a1_0, .int .i64 a1_1, .int .i64 a1_2] 42 (0,0)) ((a5_ BK239.out)) k_ hk⟩))
   (case aO=>exact((a1_ HO245.out)))
   (case aS=>exact(below_size ((a2_ GE239.out))))
   (case aL=>have:=LMc4.out;omega)
   intro v250 w14 ho hb hg hat
   rw[← Ny249.out]at ho
   have n0_:=am_ (blk_grown (g:=gb239) (o:= .cells #[.int .i64 a1_0, .int .i64 a1_1, .int .i64 a1_2] 42 (0,0)) ((a5_ BK239.out)) hg (Kd.R_away HO245.out (fun _ hk=>hk.2)))
   have n1_:=am_ (Kd.R_after (ok:=(fun k_=>k_≠gb239)) ((a43_ HO248.out)) hg hat)
   have n2_:=am_ (hb)
   have n3_:=am_ (ho)
   clear BK239 HO248 HB HO245
   have BK239:=n0_
   have HO248:=n1_
   have HB:=n2_
   have HO251:=n3_
   clear n0_ n1_ n2_ n3_ ho hb hg hat
   obtain⟨Ao16,co16,eo16⟩:=Kd.R_slice HO251.out
   (first|subst eo16|(injection eo16 with f1_ f2_ f3_;have f4_:=f1_.symm;have f5_:=f3_.symm;clear f1_ f2_ f3_;subst f4_;subst f5_))
   refine hK.out _ _ ⟨(blk_cell BK239.out 0).trans rfl,(blk_cell BK239.out 1).trans rfl,(blk_cell BK239.out 2).trans rfl⟩ (fun hHeld=>?_)
   clear hK K
   refine norm_ (a':=?_) ?_ ?_
   rotate_left
   ·show Act.put _ (some 11) _=_
    simp only[Act.put,pu_]
    rfl
   refine one_ (i:=6) (N:=some 12) #[true,true,true,true,true,true,true,false,false,false,false] rfl rfl (one_of HT_.out (by kernel_rfl)) (by decide) (fun K hK=>?_)
   refine goes_ Try.func80 (by kernel_rfl) rfl #[.slice Ao16 y249.length co16] (by rfl) rfl rfl gd_ ?_
   with_reducible refine(spec_shSorted.calls k _ _ y249 t252 t253 _ ?side1 ?side2 A5.out).mono ?_
   (case side1=>exact(a11_ HO251.out))
   (case side2=>exact(Kd.R_reads' HO251.out).2.1)
   rintro e w17 ⟨v254,rfl,ho0,hb⟩
   refine⟨_,rfl,?_⟩
   have HO255:=am_ (Kd.R_lower (Kd.R_newB (Kd.R_new' (Kd.R_new' ho0 (Kd.R_lt ((a1_ HO248.out)))) (Kd.R_lt ((a1_ HO251.out)))) (g:=gb239) (o:= .cells #[.int .i64 a1_0, .int .i64 a1_1, .int .i64 a1_2] 42 (0,0)) ((a5_ BK239.out))) (below_size ((a2_ GE239.out))))
   replace HO248:=am_ (Kd.R_elder' ((a1_ HO248.out)) (Kd.R_base ho0) hb)
   replace HO251:=am_ (Kd.R_elder' ((a1_ HO251.out)) (Kd.R_base ho0) hb)
   replace BK239:=am_ (blk_below (g:=gb239) (o:= .cells #[.int .i64 a1_0, .int .i64 a1_1, .int .i64 a1_2] 42 (0,0)) ((a5_ BK239.out)) hb)
   replace HB:=am_ (below_step ((a2_ GE239.out)) hb)
   (try clear hb)
   (try clear hb2)
   (try clear hk)
   (try clear hi)
   (try clear ho0)
   refine hK.out _ _ ⟨(blk_cell BK239.out 0).trans rfl,(blk_cell BK239.out 1).trans rfl,(blk_cell BK239.out 2).trans rfl⟩ (fun hHeld=>?_)
   clear hK K
   refine norm_ (a':=?_) ?_ ?_
   rotate_left
   ·show Act.put _ (some 12) _=_
    simp only[Act.put,pu_]
    rfl
   refine pure_ (i:=7) (N:=some 13) (v:=?_) (a':=?_) #[true,true,true,true,true,true,true,true,false,false,false] rfl rfl (any_of HT_.out (by kernel_rfl)) (fun _ _ _ h=>h) (Or.inl ⟨by rfl,?_⟩) ?_ ?_
   rotate_left
   ·intro w'
    go_simp
    with_reducible rfl
   rotate_left
   ·simp only[Act.put,pu_]
    rfl
   refine pure_ (i:=8) (N:=some 14) (v:=?_) (a':=?_) #[true,true,true,true,true,true,true,true,true,false,false] rfl rfl (any_of HT_.out (by kernel_rfl)) (fun _ _ _ h=>h) (Or.inl ⟨by rfl,?_⟩) ?_ ?_
   rotate_left
   ·intro w'
    go_simp
    with_reducible rfl
   rotate_left
   ·simp only[Act.put,pu_]
    rfl
   refine pure_ (i:=9) (N:=some 4) (v:=?_) (a':=?_) #[true,true,true,true,true,true,true,true,true,true,false] rfl rfl (any_of HT_.out (by kernel_rfl)) (fun _ _ _ h=>h) (Or.inl ⟨by rfl,?_⟩) ?_ ?_
   rotate_left
   ·intro w'
    go_simp
    with_reducible rfl
   rotate_left
   ·simp only[Act.put,pu_]
    rfl
   refine pure_ (i:=10) (N:=some 5) (v:=?_) (a':=?_) #[true,true,true,true,true,true,true,true,true,true,true] rfl rfl (any_of HT_.out (by kernel_rfl)) (fun _ _ _ h=>h) (Or.inl ⟨by rfl,?_⟩) ?_ ?_
   rotate_left
   ·intro w'
    go_simp
    with_reducible rfl
   rotate_left
   ·simp only[Act.put,pu_]
    rfl
   refine done_ (done_of HT_.out (by kernel_rfl)) ?_
   try go_wp2
   go_ret2
   exact⟨_,a9_,(a27_ HO255.out),(a2_ GE239.out)⟩
  ·rw[if_neg c4]at H
   exact absurd H (by simp)
 ·rw[if_neg c3]at H
  exact absurd H (by simp)

/-! ### spec_l1Cur_sheet: function 98 -/
mutual
def spec_l1Cur_sheet.l0:Nat→List (S42)→List Int→Int→Int→Option ((List (S42))×Int×Int)
 | 0,_,_,_,_=>none
 | k+1,x3,x1000,x1001,x1002=>if(x3.length:Int)<60 then((spec_l1Cur_pick.f x1000 x1001 x1002 5).bind fun bt259=>(if x3.length<5864062014805 then(spec_l1Cur_sheet.l0 k (x3 ++ [(⟨3*((x3.length:Int) % 5),wrap64 (6*(wrap64 ((x3.length:Int) / 5))),wrap64 ((wrap64 ((wrap64 (6*(wrap64 ((x3.length:Int) / 5))))+1))+bt259.1)⟩:S42)]) x1000 bt259.2.1 bt259.2.2) else(none))) else(some (x3,x1001,x1002))
def spec_l1Cur_sheet.l1:Nat→List (S42)→Int→Int→List Int→Int→Int→Option ((List (S42))×Int×Int)
 | 0,_,_,_,_,_,_=>none
 | k+1,x3,x5,x6,x1000,x1001,x1002=>if(x3.length:Int)<x5 then(spec_l1Cur_sheet.j2 k x3 x5 x6 (decide (x6<60)) x1000 x1001 x1002) else(spec_l1Cur_sheet.j2 k x3 x5 x6 false x1000 x1001 x1002)
def spec_l1Cur_sheet.j2:Nat→List (S42)→Int→Int→Bool→List Int→Int→Int→Option ((List (S42))×Int×Int)
 | 0,_,_,_,_,_,_,_=>none
 | k+1,x3,x5,x6,x42,x1000,x1001,x1002=>if x42=true then((spec_l1Cur_hole.f x1000 x1001 x1002).bind fun bt268=>((spec_shWith.f k x3 bt268.1 bt268.2.1 bt268.2.2.1).bind fun bt273=>(if bt273.2=true then(spec_l1Cur_sheet.l1 k bt273.1 x5 (wrap64 (x6+1)) x1000 bt268.2.2.2.1 bt268.2.2.2.2) else(spec_l1Cur_sheet.l1 k x3 x5 (wrap64 (x6+1)) x1000 bt268.2.2.2.1 bt268.2.2.2.2)))) else(some (x3,x1001,x1002))
end
def spec_l1Cur_sheet.f (k:Nat) (s0_0:List Int) (s0_1:Int) (s0_2:Int):Option ((List (S42))×Int×Int):=(spec_l1Cur_one.f s0_0 s0_1 s0_2 24).bind fun bt256=>(if bt256.1=true then(spec_l1Cur_sheet.l0 k ([]:List (S42)) s0_0 bt256.2.1 bt256.2.2) else((spec_l1Cur_pick.f s0_0 bt256.2.1 bt256.2.2 9).bind fun bt265=>(spec_l1Cur_sheet.l1 k ([]:List (S42)) bt265.1 0 s0_0 bt265.2.1 bt265.2.2)))
theorem spec_l1Cur_sheet.mono_l:∀k,(∀y0 y1 y2 y3,LeO (spec_l1Cur_sheet.l0 k y0 y1 y2 y3) (spec_l1Cur_sheet.l0 (k+1) y0 y1 y2 y3))∧(∀y0 y1 y2 y3 y4 y5,LeO (spec_l1Cur_sheet.l1 k y0 y1 y2 y3 y4 y5) (spec_l1Cur_sheet.l1 (k+1) y0 y1 y2 y3 y4 y5))∧(∀y0 y1 y2 y3 y4 y5 y6,LeO (spec_l1Cur_sheet.j2 k y0 y1 y2 y3 y4 y5 y6) (spec_l1Cur_sheet.j2 (k+1) y0 y1 y2 y3 y4 y5 y6))
 | 0=>⟨fun _ _ _ _ r h=>by simp[spec_l1Cur_sheet.l0]at h,fun _ _ _ _ _ _ r h=>by simp[spec_l1Cur_sheet.l1]at h,fun _ _ _ _ _ _ _ r h=>by simp[spec_l1Cur_sheet.j2]at h⟩
 | k+1=>by
  obtain⟨ih0,ih1,ih2⟩:=spec_l1Cur_sheet.mono_l k
  refine⟨?_,?_,?_⟩
  intros
  unfold spec_l1Cur_sheet.l0
  rotate_left
  intros
  unfold spec_l1Cur_sheet.l1
  rotate_left
  intros
  unfold spec_l1Cur_sheet.j2
  rotate_left
  all_goals repeat' first|(with_reducible first|exact ih0 _ _ _ _|exact ih1 _ _ _ _ _ _|exact ih2 _ _ _ _ _ _ _|exact spec_shWith.mono _ _ _ _ _|exact LeO.refl _|exact LeO.none _|refine LeO.ite ?_ ?_|refine LeO.bind ?_ (fun _=>?_))|exact ih0 _ _ _ _|exact ih1 _ _ _ _ _ _|exact ih2 _ _ _ _ _ _ _|exact spec_shWith.mono _ _ _ _ _|exact LeO.none _|refine LeO.ite ?_ ?_|refine LeO.bind ?_ (fun _=>?_)
theorem spec_l1Cur_sheet.mono:∀a0 a1 a2 k,LeO (spec_l1Cur_sheet.f k a0 a1 a2) (spec_l1Cur_sheet.f (k+1) a0 a1 a2):=by
 intro a0 a1 a2 k
 obtain⟨ih0,ih1,ih2⟩:=spec_l1Cur_sheet.mono_l k
 unfold spec_l1Cur_sheet.f
 repeat' first
  |(with_reducible exact ih0 _ _ _ _)
  |(with_reducible exact ih1 _ _ _ _ _ _)
  |(with_reducible exact ih2 _ _ _ _ _ _ _)
  |(with_reducible exact spec_shWith.mono _ _ _ _ _)
  |(with_reducible exact LeO.refl _)
  |(with_reducible exact LeO.none _)
  |(with_reducible refine LeO.ite ?_ ?_)
  |(with_reducible refine LeO.bind ?_ (fun _=>?_))
  |exact ih0 _ _ _ _
  |exact ih1 _ _ _ _ _ _
  |exact ih2 _ _ _ _ _ _ _
  |exact spec_shWith.mono _ _ _ _ _
  |exact LeO.none _
   | refine LeO.ite ?_ ?_
   | refine LeO.bind ?_ (fun _=>?_)
set_option maxHeartbeats 8000000 in
set_option maxRecDepth 100000 in
theorem spec_l1Cur_sheet.calls (k:Nat) (g:Nat) (s0_0:List Int) (s0_1:Int) (s0_2:Int) (r1:List (S42)) (r2:Int) (r3:Int) (w0 w:World) (hI:IsS76 w0 w g s0_0 s0_1 s0_2) (hB:Below w0.heap.size w0 w) (h:spec_l1Cur_sheet.f k s0_0 s0_1 s0_2=some (r1,r2,r3)) :
 Calls Try.prog 98 #[.pointer (some ⟨g,0,none⟩)] w fun e w'=>∃v0_:Value,e = .returned (v0_)∧Kd.R k42 42 w' w.heap.size (fun _=>True) v0_ r1∧IsS76 w0 w' g s0_0 r2 r3∧Below w0.heap.size w0 w'∧KeepBut w w' g none:=by
 have hu42:=Try.underlying42
 have HI0:=am_ hI
 have HK:=am_ (KeepBut.refl w g none)
 have HL:=am_ hB.size
 clear hI
 have HW0:=am_ hB.size
 have HB:=am_ hB
 clear hB
 have H:((spec_l1Cur_one.f s0_0 s0_1 s0_2 24).bind fun bt256=>(if bt256.1=true then(spec_l1Cur_sheet.l0 k ([]:List (S42)) s0_0 bt256.2.1 bt256.2.2) else((spec_l1Cur_pick.f s0_0 bt256.2.1 bt256.2.2 9).bind fun bt265=>(spec_l1Cur_sheet.l1 k ([]:List (S42)) bt265.1 0 s0_0 bt265.2.1 bt265.2.2))))=some (r1,r2,r3):=h
 clear h
 obtain⟨⟨t256,t257,t258⟩,A2,H⟩:=bo_ H
 try dsimp only at H
 by_cases c3:t256=true
 ·subst c3
  replace H:(spec_l1Cur_sheet.l0 k ([]:List (S42)) s0_0 t257 t258)=some (r1,r2,r3):=by rw[if_pos rfl]at H;exact H
  have H':=am_ H
  clear H
  go_enter Try.func98,Try.ntmps98
  go_wp2_with (first|((with_reducible refine gate_callee (f:=56) rfl ?_);refine goesL_ (some 10) rfl rfl Try.func56 (by kernel_rfl) rfl #[.pointer (some ⟨g,0,none⟩), .int .i64 24] rfl gd_ ?_;(with_reducible refine(spec_l1Cur_one.calls g s0_0 s0_1 s0_2 24 true t257 t258 w0 _ ?side1 ?side2 A2.out).mono ?_);(case side1=>exact(a3_ HI0.out));(case side2=>exact(a4_ HI0.out));rintro e w4 ⟨rfl,hi,hb,hk⟩;refine⟨_,rfl,?_⟩;replace HK:=am_ (KeepBut.trans (a6_) hk (.inl rfl));replace HB:=am_ (hb);replace HI0:=am_ (hi);(try clear hb);(try clear hb2);(try clear hk);(try clear hi)))
  (try simp only[Act.put,List.setIfInBounds_toArray,List.set_cons_zero,List.set_cons_succ])
  go_loopg [3] k (fun kq v3 w'=>∃(x3_1:List (S42)) (x1001_1:Int) (x1002_1:Int),Aside0 (spec_l1Cur_sheet.l0 kq x3_1 s0_0 x1001_1 x1002_1=some (r1,r2,r3))∧Aside0 (kq≤k)∧Aside0 (Kd.R k42 42 w' w.heap.size (fun _=>True) v3 x3_1)∧Aside0 (IsS76 w0 w' g s0_0 x1001_1 x1002_1)∧Aside0 (KeepBut w w' g none)∧Aside0 (Below w0.heap.size w0 w'))
  case atStart=>exact⟨(([]:List (S42))),(t257),(t258),H',⟨Nat.le_refl _⟩,⟨a28_⟩,⟨(a3_ HI0.out)⟩,⟨a6_⟩,⟨(a4_ HI0.out)⟩⟩
  case round=>
   clear H'
   try clear p2
   try clear c3
   obtain⟨x3_1,x1001_1,x1002_1,HA,HK1,HO_3,HI0,HK,HB⟩:=hrel
   cases gk with
   | zero=>exact absurd HA.out (by simp[spec_l1Cur_sheet.l0])
   | succ k1=>
    have H:=HA.out
    clear HA
    simp only[spec_l1Cur_sheet.l0]at H
    by_cases c5:(x3_1.length:Int)<60
    ·rw[if_pos c5]at H
     have c5b0:decide ((x3_1.length:Int)<60)=true:=decide_eq_true c5
     have c5b1:decide (x3_1.length<60)=true:=decide_eq_true (by omega)
     clear c5
     obtain⟨⟨t259,t260,t261⟩,A6,H⟩:=bo_ H
     try dsimp only at H
     by_cases c7:x3_1.length<5864062014805
     ·rw[if_pos c7]at H
      have LMc7:=am_ c7
      clear c7
      obtain⟨y262,hy262⟩:∃y_:List (S42),y_=(x3_1 ++ [(⟨3*((x3_1.length:Int) % 5),wrap64 (6*(wrap64 ((x3_1.length:Int) / 5))),wrap64 ((wrap64 ((wrap64 (6*(wrap64 ((x3_1.length:Int) / 5))))+1))+t259)⟩:S42)]):=⟨_,rfl⟩
      replace H:(spec_l1Cur_sheet.l0 k1 y262 s0_0 t260 t261)=some (r1,r2,r3):=by first|(rw[hy262];with_reducible exact H)|(have H2_:=(Option.bind_some _ _).symm.trans H;rw[hy262];with_reducible exact H2_)|(have H2_:=(Option.bind_some _ _).symm.trans H;with_reducible exact H2_) | with_reducible exact H|(rw[hy262];exact H)|exact H
      have Ny262:=am_ hy262
      clear hy262
      have H':=am_ H
      clear H
      obtain⟨Ao8,co8,eo8⟩:=Kd.R_slice HO_3.out
      subst eo8
      go_wp2_with (first|((with_reducible refine gate_callee (f:=55) rfl ?_);refine goesL_ (some 27) rfl rfl Try.func55 (by kernel_rfl) rfl #[.pointer (some ⟨g,0,none⟩), .int .i64 5] rfl gd_ ?_;(with_reducible refine(spec_l1Cur_pick.calls g s0_0 x1001_1 x1002_1 5 t259 t260 t261 w0 _ ?side1 ?side2 A6.out).mono ?_);(case side1=>exact(a3_ HI0.out));(case side2=>exact(a4_ HI0.out));rintro e w9 ⟨rfl,hi,hb,hk⟩;refine⟨_,rfl,?_⟩;replace HO_3:=am_ (Kd.R_mono (Kd.R_keep (IsS76.apart (show IsS76 w0 _ g s0_0 x1001_1 x1002_1 from(a3_ HI0.out)) ((a1_ HO_3.out)) (by decide)) hk (fun _ h=>h.2)) (fun _ h=>h.1));replace HK:=am_ (KeepBut.trans (a6_) hk (.inl rfl));replace HB:=am_ (hb);replace HI0:=am_ (hi);(try clear hb);(try clear hb2);(try clear hk);(try clear hi))|((with_reducible refine gate_builtin (b:= .append) (xs:= #[.tmp 18, .tmp 30]) rfl ?_);at_builtin;refine Kd.R_append k42 w.heap.size rfl (.tmp 18) (.tmp 30) 32 42 (.agg #[(.int .i64 0),(.int .i64 0),(.int .i64 0)]) 24 rfl Try.underlying32 info42 rfl (by decide) (by omega) (.slice Ao8 x3_1.length co8) x3_1 (⟨3*((x3_1.length:Int) % 5),wrap64 (6*(wrap64 ((x3_1.length:Int) / 5))),wrap64 ((wrap64 ((wrap64 (6*(wrap64 ((x3_1.length:Int) / 5))))+1))+t259)⟩:S42) [.int .i64 (3*((x3_1.length:Int) % 5)), .int .i64 (wrap64 (6*(wrap64 ((x3_1.length:Int) / 5)))), .int .i64 (wrap64 ((wrap64 ((wrap64 (6*(wrap64 ((x3_1.length:Int) / 5))))+1))+t259))] (fun _=>True) (fun _=>False) rfl rfl ?aP (fun _ hk=>hk.elim) ?aF ?aO (Below.refl _ _) ?aS ?aL ?_;(case aP=>exact k42_mkM _ _ _ (⟨3*((x3_1.length:Int) % 5),wrap64 (6*(wrap64 ((x3_1.length:Int) / 5))),wrap64 ((wrap64 ((wrap64 (6*(wrap64 ((x3_1.length:Int) / 5))))+1))+t259)⟩:S42));(case aF=>exact(fun _ _=>trivial));(case aO=>exact((a1_ HO_3.out)));(case aS=>exact(keep_size (w:=w) (g:=g) (row:=none) (a6_)));(case aL=>have:=LMc7.out;omega);intro v263 w10 ho hb hg hat;rw[← Ny262.out]at ho;have n0_:=am_ (IsS76.grown ((a3_ HI0.out)) hg (IsS76.own_ne HI0.out HO_3.out (by decide)));have n1_:=am_ (below_weaken ((a4_ HI0.out)) HL.out hb);have n2_:=am_ (KeepBut.trans (a6_) (KeepBut.of_grown hg g) (Kd.R_base2 HO_3.out));have n3_:=am_ (ho);clear HI0 HB HK HO_3;have HI0:=n0_;have HB:=n1_;have HK:=n2_;have HO264:=n3_;clear n0_ n1_ n2_ n3_ ho hb hg hat))
      go_roundg k1
      case measure=>have:=HK1.out;omega
      case rel=>exact⟨(y262),(t260),(t261),H',⟨by have:=HK1.out;omega⟩,⟨(a1_ HO264.out)⟩,⟨(a3_ HI0.out)⟩,⟨a6_⟩,⟨(a4_ HI0.out)⟩⟩
     ·rw[if_neg c7]at H
      exact absurd H (by simp)
    ·rw[if_neg c5]at H
     have c5b0:decide ((x3_1.length:Int)<60)=false:=decide_eq_false c5
     have c5b1:decide (x3_1.length<60)=false:=decide_eq_false (by omega)
     clear c5
     simp only[Option.some.injEq,Prod.mk.injEq]at H
     obtain⟨rfl,rfl,rfl⟩:=H
     obtain⟨Ao11,co11,eo11⟩:=Kd.R_slice HO_3.out
     subst eo11
     go_wp2
     go_ret
     exact⟨_,a9_,(a1_ HO_3.out),(a3_ HI0.out),(a4_ HI0.out),a6_⟩
 ·replace c3:=Bool.eq_false_iff.mpr c3
  subst c3
  replace H:((spec_l1Cur_pick.f s0_0 t257 t258 9).bind fun bt265=>(spec_l1Cur_sheet.l1 k ([]:List (S42)) bt265.1 0 s0_0 bt265.2.1 bt265.2.2))=some (r1,r2,r3):=by rw[if_neg (show ¬(false=true) by decide)]at H;exact H
  obtain⟨⟨t265,t266,t267⟩,A12,H⟩:=bo_ H
  try dsimp only at H
  have H':=am_ H
  clear H
  go_enter Try.func98,Try.ntmps98
  go_wp2_with (first|((with_reducible refine gate_callee (f:=56) rfl ?_);refine goesL_ (some 10) rfl rfl Try.func56 (by kernel_rfl) rfl #[.pointer (some ⟨g,0,none⟩), .int .i64 24] rfl gd_ ?_;(with_reducible refine(spec_l1Cur_one.calls g s0_0 s0_1 s0_2 24 false t257 t258 w0 _ ?side1 ?side2 A2.out).mono ?_);(case side1=>exact(a3_ HI0.out));(case side2=>exact(a4_ HI0.out));rintro e w13 ⟨rfl,hi,hb,hk⟩;refine⟨_,rfl,?_⟩;replace HK:=am_ (KeepBut.trans (a6_) hk (.inl rfl));replace HB:=am_ (hb);replace HI0:=am_ (hi);(try clear hb);(try clear hb2);(try clear hk);(try clear hi))|((with_reducible refine gate_callee (f:=55) rfl ?_);refine goesL_ (some 34) rfl rfl Try.func55 (by kernel_rfl) rfl #[.pointer (some ⟨g,0,none⟩), .int .i64 9] rfl gd_ ?_;(with_reducible refine(spec_l1Cur_pick.calls g s0_0 t257 t258 9 t265 t266 t267 w0 _ ?side1 ?side2 A12.out).mono ?_);(case side1=>exact(a3_ HI0.out));(case side2=>exact(a4_ HI0.out));rintro e w14 ⟨rfl,hi,hb,hk⟩;refine⟨_,rfl,?_⟩;replace HK:=am_ (KeepBut.trans (a6_) hk (.inl rfl));replace HB:=am_ (hb);replace HI0:=am_ (hi);(try clear hb);(try clear hb2);(try clear hk);(try clear hi)))
  (try simp only[Act.put,List.setIfInBounds_toArray,List.set_cons_zero,List.set_cons_succ])
  go_loopg [3,6] k (fun kq v3 v6 w'=>∃(x3_1:List (S42)) (x6_1:Int) (x1001_1:Int) (x1002_1:Int),v6 = .int .i64 x6_1∧Aside0 (spec_l1Cur_sheet.l1 kq x3_1 t265 x6_1 s0_0 x1001_1 x1002_1=some (r1,r2,r3))∧Aside0 (kq≤k)∧Aside0 (Kd.R k42 42 w' w.heap.size (fun _=>True) v3 x3_1)∧Aside0 (IsS76 w0 w' g s0_0 x1001_1 x1002_1)∧Aside0 (KeepBut w w' g none)∧Aside0 (Below w0.heap.size w0 w'))
  case atStart=>exact⟨(([]:List (S42))),(0),(t266),(t267),(by first | rfl|(simp;done)|(simp[*];done)),H',⟨Nat.le_refl _⟩,⟨a28_⟩,⟨(a3_ HI0.out)⟩,⟨a6_⟩,⟨(a4_ HI0.out)⟩⟩
  case round=>
   clear H'
   try clear p2
   try clear c3
   try clear c5
   try clear c5b0
   try clear c5b1
   try clear p6
   try clear c7
   try clear c9
   try clear p2
   obtain⟨x3_1,x6_1,x1001_1,x1002_1,rfl,HA,HK1,HO_3,HI0,HK,HB⟩:=hrel
   cases gk with
   | zero=>exact absurd HA.out (by simp[spec_l1Cur_sheet.l1])
   | succ k1=>
    have H:=HA.out
    clear HA
    simp only[spec_l1Cur_sheet.l1]at H
    have HC15:=am_ H
    clear H
    go_upto_region 9 with (fail)
    go_cut [42] (fun v42 wc=>∃(kq:Nat) (x42_14:Bool),v42 = .bool x42_14∧Aside0 (spec_l1Cur_sheet.j2 kq x3_1 t265 x6_1 x42_14 s0_0 x1001_1 x1002_1=some (r1,r2,r3))∧Aside0 (kq≤k1)∧Aside0 (Kd.R k42 42 wc w.heap.size (fun _=>True) u3 x3_1)∧Aside0 (IsS76 w0 wc g s0_0 x1001_1 x1002_1)∧Aside0 (KeepBut w wc g none)∧Aside0 (Below w0.heap.size w0 wc))
    case first=>
     have H:=HC15.out
     clear HC15
     by_cases c16:(x3_1.length:Int)<t265
     ·rw[if_pos c16]at H
      have c16b0:decide ((x3_1.length:Int)<t265)=true:=decide_eq_true c16
      clear c16
      (first|rw[c16b0]|(simp only[i64_w,i32_w];rw[c16b0]) | skip)
      have H':=am_ H
      clear H
      obtain⟨Ao17,co17,eo17⟩:=Kd.R_slice HO_3.out
      subst eo17
      go_wp2
      go_meet
      case rel=>exact⟨_,(decide (x6_1<60)),(by first | rfl|(simp;done)|(simp[*];done)),H',⟨by have:=HK1.out;first | omega|exact Nat.le_refl _⟩,⟨(a1_ HO_3.out)⟩,⟨(a3_ HI0.out)⟩,⟨a6_⟩,⟨(a4_ HI0.out)⟩⟩
     ·rw[if_neg c16]at H
      have c16b0:decide ((x3_1.length:Int)<t265)=false:=decide_eq_false c16
      clear c16
      (first|rw[c16b0]|(simp only[i64_w,i32_w];rw[c16b0]) | skip)
      have H':=am_ H
      clear H
      obtain⟨Ao18,co18,eo18⟩:=Kd.R_slice HO_3.out
      subst eo18
      go_wp2
      go_meet
      case rel=>exact⟨_,(false),(by first | rfl|(simp;done)|(simp[*];done)),H',⟨by have:=HK1.out;first | omega|exact Nat.le_refl _⟩,⟨(a1_ HO_3.out)⟩,⟨(a3_ HI0.out)⟩,⟨a6_⟩,⟨(a4_ HI0.out)⟩⟩
    case rest=>
     clear HC15
     try clear c1
     try clear p2
     try clear c3
     try clear c5
     try clear c5b0
     try clear c5b1
     try clear p6
     try clear c7
     try clear c9
     try clear c16
     try clear c16b0
     try clear p2
     try clear p6
     obtain⟨kq,x42_14,rfl,HA,HJ14,HO_3,HI0,HK,HB⟩:=hcut
     cases kq with
     | zero=>exact absurd HA.out (by simp[spec_l1Cur_sheet.j2])
     | succ kj14=>
      have H:=HA.out
      clear HA
      simp only[spec_l1Cur_sheet.j2]at H
      by_cases c19:x42_14=true
      ·subst c19
       replace H:((spec_l1Cur_hole.f s0_0 x1001_1 x1002_1).bind fun bt268=>((spec_shWith.f kj14 x3_1 bt268.1 bt268.2.1 bt268.2.2.1).bind fun bt273=>(if bt273.2=true then(spec_l1Cur_sheet.l1 kj14 bt273.1 t265 (wrap64 (x6_1+1)) s0_0 bt268.2.2.2.1 bt268.2.2.2.2) else(spec_l1Cur_sheet.l1 kj14 x3_1 t265 (wrap64 (x6_1+1)) s0_0 bt268.2.2.2.1 bt268.2.2.2.2))))=some (r1,r2,r3):=by rw[if_pos rfl]at H;exact H
       obtain⟨⟨t268,t269,t270,t271,t272⟩,A20,H⟩:=bo_ H
       try dsimp only at H
       obtain⟨⟨t273,t276⟩,A21,H⟩:=bo_ H
       try dsimp only at H
       by_cases c22:t276=true
       ·subst c22
        replace H:(spec_l1Cur_sheet.l1 kj14 t273 t265 (wrap64 (x6_1+1)) s0_0 t271 t272)=some (r1,r2,r3):=by rw[if_pos rfl]at H;exact H
        have H':=am_ H
        clear H
        go_wp2_with (first|((with_reducible refine gate_callee (f:=101) rfl ?_);refine goesL_ (some 48) rfl rfl Try.func101 (by kernel_rfl) rfl #[.pointer (some ⟨g,0,none⟩)] rfl gd_ ?_;(with_reducible refine(spec_l1Cur_hole.calls g s0_0 x1001_1 x1002_1 t268 t269 t270 t271 t272 w0 _ ?side1 ?side2 A20.out).mono ?_);(case side1=>exact(a3_ HI0.out));(case side2=>exact(a4_ HI0.out));rintro e w23 ⟨rfl,hi,hb,hk⟩;refine⟨_,rfl,?_⟩;replace HO_3:=am_ (Kd.R_mono (Kd.R_keep (IsS76.apart (show IsS76 w0 _ g s0_0 x1001_1 x1002_1 from(a3_ HI0.out)) ((a1_ HO_3.out)) (by decide)) hk (fun _ h=>h.2)) (fun _ h=>h.1));replace HK:=am_ (KeepBut.trans (a6_) hk (.inl rfl));replace HB:=am_ (hb);replace HI0:=am_ (hi);(try clear hb);(try clear hb2);(try clear hk);(try clear hi);obtain⟨Ao24,co24,eo24⟩:=Kd.R_slice HO_3.out;subst eo24)|((with_reducible refine gate_callee (f:=88) rfl ?_);refine goesL_ (some 49) rfl rfl Try.func88 (by kernel_rfl) rfl #[.slice Ao24 x3_1.length co24, .agg #[.int .i64 t268, .int .i64 t269, .int .i64 t270]] rfl gd_ ?_;(with_reducible refine(spec_shWith.calls kj14 _ _ x3_1 t268 t269 t270 t273 true _ ?side1 ?side2 A21.out).mono ?_);(case side1=>exact(a11_ HO_3.out));(case side2=>exact(Kd.R_reads' HO_3.out).2.1);rintro e w25 ⟨v274,rfl,ho0,hb⟩;refine⟨_,rfl,?_⟩;have HO275:=am_ (Kd.R_lower (Kd.R_new' ho0 (Kd.R_lt ((a1_ HO_3.out)))) (keep_size (w:=w) (g:=g) (row:=none) (a6_)));replace HO_3:=am_ (Kd.R_elder' ((a1_ HO_3.out)) (Kd.R_base ho0) hb);replace HK:=am_ (KeepBut.trans (a6_) (KeepBut.of_below hb g none) (.inl rfl));replace HB:=am_ (below_step ((a4_ HI0.out)) hb);replace HI0:=am_ (IsS76.below ((a3_ HI0.out)) hb);(try clear hb);(try clear hb2);(try clear hk);(try clear hi);(try clear ho0)))
        go_roundg kj14
        case measure=>have:=HK1.out;have:=HJ14.out;omega
        case rel=>exact⟨(t273),(wrap64 (x6_1+1)),(t271),(t272),(by first | rfl|(simp;done)|(simp[*];done)),H',⟨by have:=HK1.out;have:=HJ14.out;omega⟩,⟨(a27_ HO275.out)⟩,⟨(a3_ HI0.out)⟩,⟨a6_⟩,⟨(a4_ HI0.out)⟩⟩
       ·replace c22:=Bool.eq_false_iff.mpr c22
        subst c22
        replace H:(spec_l1Cur_sheet.l1 kj14 x3_1 t265 (wrap64 (x6_1+1)) s0_0 t271 t272)=some (r1,r2,r3):=by rw[if_neg (show ¬(false=true) by decide)]at H;exact H
        have H':=am_ H
        clear H
        go_wp2_with (first|((with_reducible refine gate_callee (f:=101) rfl ?_);refine goesL_ (some 48) rfl rfl Try.func101 (by kernel_rfl) rfl #[.pointer (some ⟨g,0,none⟩)] rfl gd_ ?_;(with_reducible refine(spec_l1Cur_hole.calls g s0_0 x1001_1 x1002_1 t268 t269 t270 t271 t272 w0 _ ?side1 ?side2 A20.out).mono ?_);(case side1=>exact(a3_ HI0.out));(case side2=>exact(a4_ HI0.out));rintro e w26 ⟨rfl,hi,hb,hk⟩;refine⟨_,rfl,?_⟩;replace HO_3:=am_ (Kd.R_mono (Kd.R_keep (IsS76.apart (show IsS76 w0 _ g s0_0 x1001_1 x1002_1 from(a3_ HI0.out)) ((a1_ HO_3.out)) (by decide)) hk (fun _ h=>h.2)) (fun _ h=>h.1));replace HK:=am_ (KeepBut.trans (a6_) hk (.inl rfl));replace HB:=am_ (hb);replace HI0:=am_ (hi);(try clear hb);(try clear hb2);(try clear hk);(try clear hi);obtain⟨Ao27,co27,eo27⟩:=Kd.R_slice HO_3.out;subst eo27)|((with_reducible refine gate_callee (f:=88) rfl ?_);refine goesL_ (some 49) rfl rfl Try.func88 (by kernel_rfl) rfl #[.slice Ao27 x3_1.length co27, .agg #[.int .i64 t268, .int .i64 t269, .int .i64 t270]] rfl gd_ ?_;(with_reducible refine(spec_shWith.calls kj14 _ _ x3_1 t268 t269 t270 t273 false _ ?side1 ?side2 A21.out).mono ?_);(case side1=>exact(a11_ HO_3.out));(case side2=>exact(Kd.R_reads' HO_3.out).2.1);rintro e w28 ⟨v274,rfl,ho0,hb⟩;refine⟨_,rfl,?_⟩;have HO275:=am_ (Kd.R_lower (Kd.R_new' ho0 (Kd.R_lt ((a1_ HO_3.out)))) (keep_size (w:=w) (g:=g) (row:=none) (a6_)));replace HO_3:=am_ (Kd.R_elder' ((a1_ HO_3.out)) (Kd.R_base ho0) hb);replace HK:=am_ (KeepBut.trans (a6_) (KeepBut.of_below hb g none) (.inl rfl));replace HB:=am_ (below_step ((a4_ HI0.out)) hb);replace HI0:=am_ (IsS76.below ((a3_ HI0.out)) hb);(try clear hb);(try clear hb2);(try clear hk);(try clear hi);(try clear ho0)))
        go_roundg kj14
        case measure=>have:=HK1.out;have:=HJ14.out;omega
        case rel=>exact⟨(x3_1),(wrap64 (x6_1+1)),(t271),(t272),(by first | rfl|(simp;done)|(simp[*];done)),H',⟨by have:=HK1.out;have:=HJ14.out;omega⟩,⟨(a27_ HO_3.out)⟩,⟨(a3_ HI0.out)⟩,⟨a6_⟩,⟨(a4_ HI0.out)⟩⟩
      ·replace c19:=Bool.eq_false_iff.mpr c19
       subst c19
       replace H:(some (x3_1,x1001_1,x1002_1))=some (r1,r2,r3):=by rw[if_neg (show ¬(false=true) by decide)]at H;exact H
       simp only[Option.some.injEq,Prod.mk.injEq]at H
       obtain⟨rfl,rfl,rfl⟩:=H
       go_wp2
       go_ret
       exact⟨_,a9_,(a1_ HO_3.out),(a3_ HI0.out),(a4_ HI0.out),a6_⟩

end Go.Proofs.Ytplpjmhmochcfaa.QFnCopies
