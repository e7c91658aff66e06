/- Written by a program of this session (the kit's printer, with leaf contracts proved by hand put in): what each Go function computes, and that the call computes it. No condition but those that each theorem names. -/
import Derived.Test.YtplpjmhmochcfaaQFnMergesx0
import Derived.Test.YtplpjmhmochcfaaQFnMergesx4
import Derived.Test.YtplpjmhmochcfaaQFnMergesx6
import Derived.Test.YtplpjmhmochcfaaQFnMergesx7
namespace Go.Proofs.Ytplpjmhmochcfaa.QFnMerges
open Go.RowKit Go.Proofs.YtplpjmhmochcfaaW.PrintWords Go.Proofs.YtplpjmhmochcfaaW.PrintLast Go.Proofs.YtplpjmhmochcfaaW.PrintMore
attribute [local go_sem] max2_int min2_int max_two min_two max_three min_three max_four min_four   -- for this text's walks alone
set_option linter.unusedVariables false
set_option linter.unusedSimpArgs false

/-! ### spec_shWith: function 88 -/
def spec_shWith.f (k:Nat) (l0:List (S42)) (a1_0:Int) (a1_1:Int) (a1_2:Int):Option ((List (S42))×Bool):=(some (([]:List (S42)):List (S42))).bind fun y267=>(if y267.length+l0.length<5864062014805 then((some (y267 ++ l0:List (S42))).bind fun y270=>((some (([(⟨a1_0,a1_1,a1_2⟩:S42)]:List (S42)):List (S42))).bind fun y273=>(if y270.length+y273.length<5864062014805 then((spec_shSorted.f k (y270 ++ y273)).bind fun bt279=>(some (bt279.1,bt279.2))) else(none)))) else(none))
theorem spec_shWith.mono:∀a0 a1 a2 a3 k,LeO (spec_shWith.f k a0 a1 a2 a3) (spec_shWith.f (k+1) a0 a1 a2 a3):=by
 intro a0 a1 a2 a3 k
 unfold spec_shWith.f
 repeat' first
  |(with_reducible exact spec_shSorted.mono _ _)
  |(with_reducible exact LeO.refl _)
  |(with_reducible exact LeO.none _)
  |(with_reducible refine LeO.ite ?_ ?_)
  |(with_reducible refine LeO.bind ?_ (fun _=>?_))
  |exact spec_shSorted.mono _ _
  |exact LeO.none _
   | refine LeO.ite ?_ ?_
   | refine LeO.bind ?_ (fun _=>?_)
def spec_shWith.T1:Bool×List (List Nat×List Nat):=(true, [([], []),([], []),([0,1], [0,1]),([], []),([3], [3]),([2,4,2], [2,4]),([5,5], [5]),([6], [6]),([6], [6]),([7,6,0,1,2,3,4,5,6,7,8], [7]),([8,9,0,1,2,3,4,5,6,7,8,9], [8])])
def spec_shWith.B1:List Nat:=[0,0,3,0,8,31,63,127,127,511,1023]
theorem spec_shWith.tab1:rtab .any (opsOf Try.f88 1)=spec_shWith.T1:=by kernel_rfl
theorem spec_shWith.bits1:waitsOk spec_shWith.T1.2 spec_shWith.B1=true:=by kernel_rfl
set_option maxHeartbeats 8000000 in
set_option maxRecDepth 100000 in
theorem spec_shWith.calls (k:Nat) (A0:Option Addr) (c0:Nat) (l0:List (S42)) (a1_0:Int) (a1_1:Int) (a1_2:Int) (r1:List (S42)) (r2:Bool) (w:World) (hr0:Kd.C k42 w A0 l0.length l0) (hc0:l0.length≤c0) (h:spec_shWith.f k l0 a1_0 a1_1 a1_2=some (r1,r2)) :
 Calls Try.prog 88 #[.slice A0 l0.length c0, .agg #[.int .i64 a1_0, .int .i64 a1_1, .int .i64 a1_2]] w fun e w'=>∃v0_:Value,e = .returned (.tuple #[v0_, .bool r2])∧Kd.R k42 42 w' w.heap.size (fun _=>True) v0_ r1∧Below w.heap.size w w':=by
 have hu42:=Try.underlying42
 have HR0:=am_ hr0
 have HC0:=am_ hc0
 clear hr0 hc0
 have HB:=am_ (Below.refl w.heap.size w)
 have H:((some (([]:List (S42)):List (S42))).bind fun y267=>(if y267.length+l0.length<5864062014805 then((some (y267 ++ l0:List (S42))).bind fun y270=>((some (([(⟨a1_0,a1_1,a1_2⟩:S42)]:List (S42)):List (S42))).bind fun y273=>(if y270.length+y273.length<5864062014805 then((spec_shSorted.f k (y270 ++ y273)).bind fun bt279=>(some (bt279.1,bt279.2))) else(none)))) else(none)))=some (r1,r2):=h
 clear h
 obtain⟨y267,hy267⟩:∃y_:List (S42),y_=(([]:List (S42))):=⟨_,rfl⟩
 replace H:(if y267.length+l0.length<5864062014805 then((some (y267 ++ l0:List (S42))).bind fun y270=>((some (([(⟨a1_0,a1_1,a1_2⟩:S42)]:List (S42)):List (S42))).bind fun y273=>(if y270.length+y273.length<5864062014805 then((spec_shSorted.f k (y270 ++ y273)).bind fun bt279=>(some (bt279.1,bt279.2))) else(none)))) else(none))=some (r1,r2):=by first|(rw[hy267];with_reducible exact H)|(have H2_:=(Option.bind_some _ _).symm.trans H;rw[hy267];with_reducible exact H2_)|(have H2_:=(Option.bind_some _ _).symm.trans H;with_reducible exact H2_) | with_reducible exact H|(rw[hy267];exact H)|exact H
 have Ny267:=am_ hy267
 clear hy267
 by_cases c3:y267.length+l0.length<5864062014805
 ·rw[if_pos c3]at H
  have LMc3:=am_ c3
  clear c3
  obtain⟨y270,hy270⟩:∃y_:List (S42),y_=(y267 ++ l0):=⟨_,rfl⟩
  replace H:((some (([(⟨a1_0,a1_1,a1_2⟩:S42)]:List (S42)):List (S42))).bind fun y273=>(if y270.length+y273.length<5864062014805 then((spec_shSorted.f k (y270 ++ y273)).bind fun bt279=>(some (bt279.1,bt279.2))) else(none)))=some (r1,r2):=by first|(rw[hy270];with_reducible exact H)|(have H2_:=(Option.bind_some _ _).symm.trans H;rw[hy270];with_reducible exact H2_)|(have H2_:=(Option.bind_some _ _).symm.trans H;with_reducible exact H2_) | with_reducible exact H|(rw[hy270];exact H)|exact H
  have Ny270:=am_ hy270
  clear hy270
  obtain⟨y273,hy273⟩:∃y_:List (S42),y_=(([(⟨a1_0,a1_1,a1_2⟩:S42)]:List (S42))):=⟨_,rfl⟩
  replace H:(if y270.length+y273.length<5864062014805 then((spec_shSorted.f k (y270 ++ y273)).bind fun bt279=>(some (bt279.1,bt279.2))) else(none))=some (r1,r2):=by first|(rw[hy273];with_reducible exact H)|(have H2_:=(Option.bind_some _ _).symm.trans H;rw[hy273];with_reducible exact H2_)|(have H2_:=(Option.bind_some _ _).symm.trans H;with_reducible exact H2_) | with_reducible exact H|(rw[hy273];exact H)|exact H
  have Ny273:=am_ hy273
  clear hy273
  by_cases c4:y270.length+y273.length<5864062014805
  ·rw[if_pos c4]at H
   have LMc4:=am_ c4
   clear c4
   obtain⟨y276,hy276⟩:∃y_:List (S42),y_=(y270 ++ y273):=⟨_,rfl⟩
   replace H:((spec_shSorted.f k y276).bind fun bt279=>(some (bt279.1,bt279.2)))=some (r1,r2):=by first|(rw[hy276];with_reducible exact H)|(have H2_:=(Option.bind_some _ _).symm.trans H;rw[hy276];with_reducible exact H2_)|(have H2_:=(Option.bind_some _ _).symm.trans H;with_reducible exact H2_) | with_reducible exact H|(rw[hy276];exact H)|exact H
   have Ny276:=am_ hy276
   clear hy276
   obtain⟨⟨t279,t280⟩,A5,H⟩:=bo_ H
   try dsimp only at H
   simp only[Option.some.injEq,Prod.mk.injEq]at H
   obtain⟨rfl,rfl⟩:=H
   go_enter Try.func88,Try.ntmps88
   try go_wp2_with (first|((with_reducible refine gate_dst (N:=3) rfl ?_);refine box_event ?hg (N:=3) ?hd (cs:= #[.int .i64 a1_0, .int .i64 a1_1, .int .i64 a1_2]) (t:=42) ?hr ?_;(case hd=>rfl);(case hg=>rfl);(case hr=>exact hr_);intro gb266 hg w6 hbox hb;have BK266:=am_ (hbox);have GW266:=am_ ((by rw[hg];exact(below_size (a1_)):w.heap.size≤gb266));have GE266:=am_ ((by rw[hg];exact(below_size (a1_)):w.heap.size≤gb266));replace HB:=am_ (below_step (a1_) hb);clear hb hbox hg))
   replace BK266:=am_ (blk_drew BK266.out)
   replace HB:=am_ (below_drew1 HB.out)
   refine start_ (n:=11) (S:=fun w'=>w'.cell? ⟨gb266,0,none⟩=some (.int .i64 a1_0)∧w'.cell? ⟨gb266,1,none⟩=some (.int .i64 a1_1)∧w'.cell? ⟨gb266,2,none⟩=some (.int .i64 a1_2)) (ds:=[]) #[false,false,false,false,false,false,false,false,false,false,false] (by kernel_rfl) rfl rfl ⟨(blk_cell BK266.out 0).trans rfl,(blk_cell BK266.out 1).trans rfl,(blk_cell BK266.out 2).trans rfl⟩ (fun hHeld=>?_);refine with_tabW spec_shWith.tab1 spec_shWith.bits1 (fun HT_ HW_=>?_)
   generalize w6.drew=w7 at BK266 HB hHeld ⊢
   refine pure_ (i:=1) (N:=some 7) (v:=?_) (a':=?_) #[false,true,false,false,false,false,false,false,false,false,false] rfl rfl (any_of HT_.out (by kernel_rfl)) (fun _ _ _ h=>h) (Or.inl ⟨by rfl,?_⟩) ?_ ?_
   rotate_left
   ·intro w'
    go_simp
    with_reducible rfl
   rotate_left
   ·simp only[Act.put,pu_]
    rfl
   refine take_ (i:=3) (N:=some 9) (v:=?_) (a':=?_) #[false,true,false,true,false,false,false,false,false,false,false] rfl rfl (take_ofW HT_.out HW_.out (by kernel_rfl)) (fun _ _ _ h=>h) (Or.inl ⟨by rfl,?_⟩) hHeld ?_ ?_
   rotate_left
   ·rintro w' ⟨s0,s1,s2⟩
    go_simp
    with_reducible rfl
   rotate_left
   ·simp only[Act.put,pu_]
    rfl
   refine join_ (σ:=Value×Value×Value) 6 #[true,true,true,true,true,false,false,false,false,false,false] (fun s_=> [(6,s_.1),(8,s_.2.1),(10,s_.2.2)]) (fun s_ w'=>(w'.cell? ⟨gb266,0,none⟩=some (.int .i64 a1_0)∧w'.cell? ⟨gb266,1,none⟩=some (.int .i64 a1_1)∧w'.cell? ⟨gb266,2,none⟩=some (.int .i64 a1_2))∧(Kd.R k42 42 w' w.heap.size (fun k_=>some k_≠(s_.2.2:Value).ownBlock∧k_≠gb266) s_.2.1 y270)∧(Kd.R k42 42 w' w.heap.size (fun k_=>some k_≠(s_.2.1:Value).ownBlock∧k_≠gb266) s_.2.2 y273)∧(w'.heap[gb266]? = some (.cells #[.int .i64 a1_0, .int .i64 a1_1, .int .i64 a1_2] 42 (0,0)))∧(Below w.heap.size w w')) ?_ ?_
   rotate_left
   ·intro hCont
    refine two_ (i:=0) (j:=4) (Ni:=some 6) (Nj:=some 10) #[true,true,false,true,false,false,false,false,false,false,false] #[false,true,false,true,true,false,false,false,false,false,false] rfl rfl rfl rfl (two_of HT_.out (by kernel_rfl)) (by decide) (by decide) (fun K hK=>?_) (fun K hK=>?_)
    ·skip
     refine Kd.R_lit_step k42 _ 42 ?hg (N:=6) ?hd (xs:=([]:List (S42))) (inner:=[]) (ok:=fun _=>True) (okp:=fun _=>True) ?hr ?hp (fun _ hk=>hk) trivial (Below.refl _ _) (Nat.le_refl _) (by simp) ?_;(case hd=>rfl);(case hg=>rfl);(case hr=>exact hr_);(case hp=>exact(Reps.none _ _))
     intro v268 w8 ho9 hb hg_ hnew_
     clear hg_ hnew_
     (first|rw[← Ny267.out]at ho9|(simp only[Int.reduceToNat]at ho9;rw[← Ny267.out]at ho9))
     have HO269:=am_ (Kd.R_lower (Kd.R_newB ho9 (g:=gb266) (o:= .cells #[.int .i64 a1_0, .int .i64 a1_1, .int .i64 a1_2] 42 (0,0)) ((a3_ BK266.out))) (below_size ((a2_ GE266.out))))
     replace BK266:=am_ (blk_below (g:=gb266) (o:= .cells #[.int .i64 a1_0, .int .i64 a1_1, .int .i64 a1_2] 42 (0,0)) ((a3_ BK266.out)) hb)
     replace HB:=am_ (below_step ((a2_ GE266.out)) hb)
     clear hb ho9
     refine hK.out _ _ ⟨(blk_cell BK266.out 0).trans rfl,(blk_cell BK266.out 1).trans rfl,(blk_cell BK266.out 2).trans rfl⟩ (fun hHeld=>?_)
     clear hK K
     refine norm_ (a':=?_) ?_ ?_
     rotate_left
     ·show Act.put _ (some 6) _=_
      simp only[Act.put,pu_]
      rfl
     refine two_ (i:=2) (j:=4) (Ni:=some 8) (Nj:=some 10) #[true,true,true,true,false,false,false,false,false,false,false] #[true,true,false,true,true,false,false,false,false,false,false] rfl rfl rfl rfl (two_of HT_.out (by kernel_rfl)) (by decide) (by decide) (fun K hK=>?_) (fun K hK=>?_)
     ·skip
      refine Kd.R_append_rows_step k42 (w0:=w) w.heap.size (by rfl) (.tmp 6) (.tmp 7) 32 42 (.agg #[(.int .i64 0),(.int .i64 0),(.int .i64 0)]) 24 rfl Try.underlying32 info42 rfl (by decide) (by omega) v268 y267 l0 _ _ _ (fun k_=>k_≠gb266) (fun _=>False) rfl rfl ?aO ?aR (fun _ _ h=>h) (fun _ h=>h.elim) ?aF ?aB ?aS ?aL ?_
      (case aR=>exact(a8_ HR0.out))
      (case aB=>exact((a2_ GE266.out)))
      (case aF=>exact(fun k_ hk=>Kd.freshB (g:=gb266) (o:= .cells #[.int .i64 a1_0, .int .i64 a1_1, .int .i64 a1_2] 42 (0,0)) ((a3_ BK266.out)) k_ hk))
      (case aO=>exact((a44_ HO269.out)))
      (case aS=>exact(below_size ((a2_ GE266.out))))
      (case aL=>have:=LMc3.out;omega)
      intro v271 w10 ho hb hg hat
      rw[← Ny270.out]at ho
      have n0_:=am_ (blk_grown (g:=gb266) (o:= .cells #[.int .i64 a1_0, .int .i64 a1_1, .int .i64 a1_2] 42 (0,0)) ((a3_ BK266.out)) hg (Kd.R_away HO269.out (fun _ hk=>hk.2)))
      have n1_:=am_ (hb)
      have n2_:=am_ (ho)
      clear BK266 HB HO269
      have BK266:=n0_
      have HB:=n1_
      have HO272:=n2_
      clear n0_ n1_ n2_ ho hb hg hat
      refine hK.out _ _ ⟨(blk_cell BK266.out 0).trans rfl,(blk_cell BK266.out 1).trans rfl,(blk_cell BK266.out 2).trans rfl⟩ (fun hHeld=>?_)
      clear hK K
      refine norm_ (a':=?_) ?_ ?_
      rotate_left
      ·show Act.put _ (some 8) _=_
       simp only[Act.put,pu_]
       rfl
      refine one_ (i:=4) (N:=some 10) #[true,true,true,true,true,false,false,false,false,false,false] rfl rfl (one_of HT_.out (by kernel_rfl)) (by decide) (fun K hK=>?_)
      refine Kd.R_lit_step k42 _ 42 ?hg (N:=10) ?hd (xs:=([(⟨a1_0,a1_1,a1_2⟩:S42)]:List (S42))) (inner:=[.int .i64 a1_0, .int .i64 a1_1, .int .i64 a1_2]) (ok:=fun _=>True) (okp:=fun _=>True) ?hr ?hp (fun _ hk=>hk) trivial (Below.refl _ _) (Nat.le_refl _) (by simp) ?_;(case hd=>rfl);(case hg=>rfl);(case hr=>exact hr_);(case hp=>exact(Reps.c3 (show Kd.M k42 _ _ _ (⟨a1_0,a1_1,a1_2⟩:S42) [.int .i64 a1_0, .int .i64 a1_1, .int .i64 a1_2] from(k42_mkM _ _ _ (⟨a1_0,a1_1,a1_2⟩:S42) )) (Reps.none _ _)))
      intro v274 w11 ho12 hb hg_ hnew_
      clear hg_ hnew_
      (first|rw[← Ny273.out]at ho12|(simp only[Int.reduceToNat]at ho12;rw[← Ny273.out]at ho12))
      have HO275:=am_ (Kd.R_lower (Kd.R_newB (Kd.R_new' ho12 (Kd.R_lt ((a0_ HO272.out)))) (g:=gb266) (o:= .cells #[.int .i64 a1_0, .int .i64 a1_1, .int .i64 a1_2] 42 (0,0)) ((a3_ BK266.out))) (below_size ((a2_ GE266.out))))
      replace HO272:=am_ (Kd.R_elder' ((a0_ HO272.out)) (Kd.R_base ho12) hb)
      replace BK266:=am_ (blk_below (g:=gb266) (o:= .cells #[.int .i64 a1_0, .int .i64 a1_1, .int .i64 a1_2] 42 (0,0)) ((a3_ BK266.out)) hb)
      replace HB:=am_ (below_step ((a2_ GE266.out)) hb)
      clear hb ho12
      refine hK.out _ _ ⟨(blk_cell BK266.out 0).trans rfl,(blk_cell BK266.out 1).trans rfl,(blk_cell BK266.out 2).trans rfl⟩ (fun hHeld=>?_)
      clear hK K
      refine norm_ (a':=?_) ?_ ?_
      rotate_left
      ·show Act.put _ (some 10) _=_
       simp only[Act.put,pu_]
       rfl
      exact norm_ (by simp only[putAll,Act.put,List.setIfInBounds_toArray,List.set_cons_zero,List.set_cons_succ]) (hCont (v268,v271,v274) _ ⟨hHeld,((a64_ HO272.out)),((a34_ HO275.out)),((a3_ BK266.out)),((a2_ GE266.out))⟩)
     ·skip
      refine Kd.R_lit_step k42 _ 42 ?hg (N:=10) ?hd (xs:=([(⟨a1_0,a1_1,a1_2⟩:S42)]:List (S42))) (inner:=[.int .i64 a1_0, .int .i64 a1_1, .int .i64 a1_2]) (ok:=fun _=>True) (okp:=fun _=>True) ?hr ?hp (fun _ hk=>hk) trivial (Below.refl _ _) (Nat.le_refl _) (by simp) ?_;(case hd=>rfl);(case hg=>rfl);(case hr=>exact hr_);(case hp=>exact(Reps.c3 (show Kd.M k42 _ _ _ (⟨a1_0,a1_1,a1_2⟩:S42) [.int .i64 a1_0, .int .i64 a1_1, .int .i64 a1_2] from(k42_mkM _ _ _ (⟨a1_0,a1_1,a1_2⟩:S42) )) (Reps.none _ _)))
      intro v274 w10 ho11 hb hg_ hnew_
      clear hg_ hnew_
      (first|rw[← Ny273.out]at ho11|(simp only[Int.reduceToNat]at ho11;rw[← Ny273.out]at ho11))
      have HO275:=am_ (Kd.R_lower (Kd.R_newB (Kd.R_new' ho11 (Kd.R_lt ((a0_ HO269.out)))) (g:=gb266) (o:= .cells #[.int .i64 a1_0, .int .i64 a1_1, .int .i64 a1_2] 42 (0,0)) ((a3_ BK266.out))) (below_size ((a2_ GE266.out))))
      replace HO269:=am_ (Kd.R_elder' ((a0_ HO269.out)) (Kd.R_base ho11) hb)
      replace BK266:=am_ (blk_below (g:=gb266) (o:= .cells #[.int .i64 a1_0, .int .i64 a1_1, .int .i64 a1_2] 42 (0,0)) ((a3_ BK266.out)) hb)
      replace HB:=am_ (below_step ((a2_ GE266.out)) hb)
      clear hb ho11
      refine hK.out _ _ ⟨(blk_cell BK266.out 0).trans rfl,(blk_cell BK266.out 1).trans rfl,(blk_cell BK266.out 2).trans rfl⟩ (fun hHeld=>?_)
      clear hK K
      refine norm_ (a':=?_) ?_ ?_
      rotate_left
      ·show Act.put _ (some 10) _=_
       simp only[Act.put,pu_]
       rfl
      refine one_ (i:=2) (N:=some 8) #[true,true,true,true,true,false,false,false,false,false,false] rfl rfl (one_of HT_.out (by kernel_rfl)) (by decide) (fun K hK=>?_)
      refine Kd.R_append_rows_step k42 (w0:=w) w.heap.size (by rfl) (.tmp 6) (.tmp 7) 32 42 (.agg #[(.int .i64 0),(.int .i64 0),(.int .i64 0)]) 24 rfl Try.underlying32 info42 rfl (by decide) (by omega) v268 y267 l0 _ _ _ (fun k_=>some k_≠(v274:Value).ownBlock∧k_≠gb266) (fun _=>False) rfl rfl ?aO ?aR (fun _ _ h=>h) (fun _ h=>h.elim) ?aF ?aB ?aS ?aL ?_
      (case aR=>exact(a8_ HR0.out))
      (case aB=>exact((a2_ GE266.out)))
      (case aF=>exact(fun k_ hk=>⟨Kd.fresh' (Kd.R_lt ((a0_ HO275.out))) k_ hk,Kd.freshB (g:=gb266) (o:= .cells #[.int .i64 a1_0, .int .i64 a1_1, .int .i64 a1_2] 42 (0,0)) ((a3_ BK266.out)) k_ hk⟩))
      (case aO=>exact((a55_ HO269.out)))
      (case aS=>exact(below_size ((a2_ GE266.out))))
      (case aL=>have:=LMc3.out;omega)
      intro v271 w12 ho hb hg hat
      rw[← Ny270.out]at ho
      have n0_:=am_ (blk_grown (g:=gb266) (o:= .cells #[.int .i64 a1_0, .int .i64 a1_1, .int .i64 a1_2] 42 (0,0)) ((a3_ BK266.out)) hg (Kd.R_away HO269.out (fun _ hk=>hk.1.2)))
      have n1_:=am_ (Kd.R_after (ok:=(fun k_=>k_≠gb266)) ((a55_ HO275.out)) hg hat)
      have n2_:=am_ (hb)
      have n3_:=am_ (ho)
      clear BK266 HO275 HB HO269
      have BK266:=n0_
      have HO275:=n1_
      have HB:=n2_
      have HO272:=n3_
      clear n0_ n1_ n2_ n3_ ho hb hg hat
      refine hK.out _ _ ⟨(blk_cell BK266.out 0).trans rfl,(blk_cell BK266.out 1).trans rfl,(blk_cell BK266.out 2).trans rfl⟩ (fun hHeld=>?_)
      clear hK K
      refine norm_ (a':=?_) ?_ ?_
      rotate_left
      ·show Act.put _ (some 8) _=_
       simp only[Act.put,pu_]
       rfl
      exact norm_ (by simp only[putAll,Act.put,List.setIfInBounds_toArray,List.set_cons_zero,List.set_cons_succ]) (hCont (v268,v271,v274) _ ⟨hHeld,((a0_ HO272.out)),((a64_ HO275.out)),((a3_ BK266.out)),((a2_ GE266.out))⟩)
    ·skip
     refine Kd.R_lit_step k42 _ 42 ?hg (N:=10) ?hd (xs:=([(⟨a1_0,a1_1,a1_2⟩:S42)]:List (S42))) (inner:=[.int .i64 a1_0, .int .i64 a1_1, .int .i64 a1_2]) (ok:=fun _=>True) (okp:=fun _=>True) ?hr ?hp (fun _ hk=>hk) trivial (Below.refl _ _) (Nat.le_refl _) (by simp) ?_;(case hd=>rfl);(case hg=>rfl);(case hr=>exact hr_);(case hp=>exact(Reps.c3 (show Kd.M k42 _ _ _ (⟨a1_0,a1_1,a1_2⟩:S42) [.int .i64 a1_0, .int .i64 a1_1, .int .i64 a1_2] from(k42_mkM _ _ _ (⟨a1_0,a1_1,a1_2⟩:S42) )) (Reps.none _ _)))
     intro v274 w8 ho9 hb hg_ hnew_
     clear hg_ hnew_
     (first|rw[← Ny273.out]at ho9|(simp only[Int.reduceToNat]at ho9;rw[← Ny273.out]at ho9))
     have HO275:=am_ (Kd.R_lower (Kd.R_newB ho9 (g:=gb266) (o:= .cells #[.int .i64 a1_0, .int .i64 a1_1, .int .i64 a1_2] 42 (0,0)) ((a3_ BK266.out))) (below_size ((a2_ GE266.out))))
     replace BK266:=am_ (blk_below (g:=gb266) (o:= .cells #[.int .i64 a1_0, .int .i64 a1_1, .int .i64 a1_2] 42 (0,0)) ((a3_ BK266.out)) hb)
     replace HB:=am_ (below_step ((a2_ GE266.out)) hb)
     clear hb ho9
     refine hK.out _ _ ⟨(blk_cell BK266.out 0).trans rfl,(blk_cell BK266.out 1).trans rfl,(blk_cell BK266.out 2).trans rfl⟩ (fun hHeld=>?_)
     clear hK K
     refine norm_ (a':=?_) ?_ ?_
     rotate_left
     ·show Act.put _ (some 10) _=_
      simp only[Act.put,pu_]
      rfl
     refine one_ (i:=0) (N:=some 6) #[true,true,false,true,true,false,false,false,false,false,false] rfl rfl (one_of HT_.out (by kernel_rfl)) (by decide) (fun K hK=>?_)
     refine Kd.R_lit_step k42 _ 42 ?hg (N:=6) ?hd (xs:=([]:List (S42))) (inner:=[]) (ok:=fun _=>True) (okp:=fun _=>True) ?hr ?hp (fun _ hk=>hk) trivial (Below.refl _ _) (Nat.le_refl _) (by simp) ?_;(case hd=>rfl);(case hg=>rfl);(case hr=>exact hr_);(case hp=>exact(Reps.none _ _))
     intro v268 w10 ho11 hb hg_ hnew_
     clear hg_ hnew_
     (first|rw[← Ny267.out]at ho11|(simp only[Int.reduceToNat]at ho11;rw[← Ny267.out]at ho11))
     have HO269:=am_ (Kd.R_lower (Kd.R_newB (Kd.R_new' ho11 (Kd.R_lt ((a0_ HO275.out)))) (g:=gb266) (o:= .cells #[.int .i64 a1_0, .int .i64 a1_1, .int .i64 a1_2] 42 (0,0)) ((a3_ BK266.out))) (below_size ((a2_ GE266.out))))
     replace HO275:=am_ (Kd.R_elder' ((a0_ HO275.out)) (Kd.R_base ho11) hb)
     replace BK266:=am_ (blk_below (g:=gb266) (o:= .cells #[.int .i64 a1_0, .int .i64 a1_1, .int .i64 a1_2] 42 (0,0)) ((a3_ BK266.out)) hb)
     replace HB:=am_ (below_step ((a2_ GE266.out)) hb)
     clear hb ho11
     refine hK.out _ _ ⟨(blk_cell BK266.out 0).trans rfl,(blk_cell BK266.out 1).trans rfl,(blk_cell BK266.out 2).trans rfl⟩ (fun hHeld=>?_)
     clear hK K
     refine norm_ (a':=?_) ?_ ?_
     rotate_left
     ·show Act.put _ (some 6) _=_
      simp only[Act.put,pu_]
      rfl
     refine one_ (i:=2) (N:=some 8) #[true,true,true,true,true,false,false,false,false,false,false] rfl rfl (one_of HT_.out (by kernel_rfl)) (by decide) (fun K hK=>?_)
     refine Kd.R_append_rows_step k42 (w0:=w) w.heap.size (by rfl) (.tmp 6) (.tmp 7) 32 42 (.agg #[(.int .i64 0),(.int .i64 0),(.int .i64 0)]) 24 rfl Try.underlying32 info42 rfl (by decide) (by omega) v268 y267 l0 _ _ _ (fun k_=>some k_≠(v274:Value).ownBlock∧k_≠gb266) (fun _=>False) rfl rfl ?aO ?aR (fun _ _ h=>h) (fun _ h=>h.elim) ?aF ?aB ?aS ?aL ?_
     (case aR=>exact(a8_ HR0.out))
     (case aB=>exact((a2_ GE266.out)))
     (case aF=>exact(fun k_ hk=>⟨Kd.fresh' (Kd.R_lt ((a0_ HO275.out))) k_ hk,Kd.freshB (g:=gb266) (o:= .cells #[.int .i64 a1_0, .int .i64 a1_1, .int .i64 a1_2] 42 (0,0)) ((a3_ BK266.out)) k_ hk⟩))
     (case aO=>exact((a34_ HO269.out)))
     (case aS=>exact(below_size ((a2_ GE266.out))))
     (case aL=>have:=LMc3.out;omega)
     intro v271 w12 ho hb hg hat
     rw[← Ny270.out]at ho
     have n0_:=am_ (blk_grown (g:=gb266) (o:= .cells #[.int .i64 a1_0, .int .i64 a1_1, .int .i64 a1_2] 42 (0,0)) ((a3_ BK266.out)) hg (Kd.R_away HO269.out (fun _ hk=>hk.2)))
     have n1_:=am_ (Kd.R_after (ok:=(fun k_=>k_≠gb266)) ((a34_ HO275.out)) hg hat)
     have n2_:=am_ (hb)
     have n3_:=am_ (ho)
     clear BK266 HO275 HB HO269
     have BK266:=n0_
     have HO275:=n1_
     have HB:=n2_
     have HO272:=n3_
     clear n0_ n1_ n2_ n3_ ho hb hg hat
     refine hK.out _ _ ⟨(blk_cell BK266.out 0).trans rfl,(blk_cell BK266.out 1).trans rfl,(blk_cell BK266.out 2).trans rfl⟩ (fun hHeld=>?_)
     clear hK K
     refine norm_ (a':=?_) ?_ ?_
     rotate_left
     ·show Act.put _ (some 8) _=_
      simp only[Act.put,pu_]
      rfl
     exact norm_ (by simp only[putAll,Act.put,List.setIfInBounds_toArray,List.set_cons_zero,List.set_cons_succ]) (hCont (v268,v271,v274) _ ⟨hHeld,((a0_ HO272.out)),((a64_ HO275.out)),((a3_ BK266.out)),((a2_ GE266.out))⟩)
   rintro⟨v268,v271,v274⟩ w13 ⟨hS_,h0_,h1_,h2_,h3_⟩
   have n0_:Aside0 (Kd.R k42 42 w13 w.heap.size (fun k_=>some k_≠(v274:Value).ownBlock∧k_≠gb266) v271 y270):=⟨h0_⟩
   have n1_:Aside0 (Kd.R k42 42 w13 w.heap.size (fun k_=>some k_≠(v271:Value).ownBlock∧k_≠gb266) v274 y273):=⟨h1_⟩
   have n2_:Aside0 (w13.heap[gb266]? = some (.cells #[.int .i64 a1_0, .int .i64 a1_1, .int .i64 a1_2] 42 (0,0))):=⟨h2_⟩
   have n3_:Aside0 (Below w.heap.size w w13):=⟨h3_⟩
   clear BK266 HB h0_ h1_ h2_ h3_
   have HO272:=n0_
   have HO275:=n1_
   have BK266:=n2_
   have HB:=n3_
   clear n0_ n1_ n2_ n3_
   have hHeld:w13.cell? ⟨gb266,0,none⟩=some (.int .i64 a1_0)∧w13.cell? ⟨gb266,1,none⟩=some (.int .i64 a1_1)∧w13.cell? ⟨gb266,2,none⟩=some (.int .i64 a1_2):=hS_
   obtain⟨Ao15,co15,eo15⟩:=Kd.R_slice HO275.out
   (first|subst eo15|(injection eo15 with f1_ f2_ f3_;have f4_:=f1_.symm;have f5_:=f3_.symm;clear f1_ f2_ f3_;subst f4_;subst f5_))
   refine norm_ (a':=?_) ?_ ?_
   rotate_left
   ·simp only[putAll,Act.put,List.setIfInBounds_toArray,List.set_cons_zero,List.set_cons_succ]
    rfl
   refine one_ (i:=5) (N:=some 11) #[true,true,true,true,true,true,false,false,false,false,false] rfl rfl (one_of HT_.out (by kernel_rfl)) (by decide) (fun K hK=>?_)
   refine Kd.R_append_rows_step k42 (w0:=w) w.heap.size (by rfl) (.tmp 8) (.tmp 10) 32 42 (.agg #[(.int .i64 0),(.int .i64 0),(.int .i64 0)]) 24 rfl Try.underlying32 info42 rfl (by decide) (by omega) v271 y270 y273 _ _ _ (fun k_=>some k_≠(.slice Ao15 y273.length co15:Value).ownBlock∧k_≠gb266) (fun _=>False) rfl rfl ?aO ?aR (fun _ _ h=>h) (fun _ h=>h.elim) ?aF ?aB ?aS ?aL ?_
   (case aR=>exact(a4_ HO275.out))
   (case aB=>exact((a2_ GE266.out)))
   (case aF=>exact(fun k_ hk=>⟨Kd.fresh' (Kd.R_lt ((a0_ HO275.out))) k_ hk,Kd.freshB (g:=gb266) (o:= .cells #[.int .i64 a1_0, .int .i64 a1_1, .int .i64 a1_2] 42 (0,0)) ((a3_ BK266.out)) k_ hk⟩))
   (case aO=>exact((a0_ HO272.out)))
   (case aS=>exact(below_size ((a2_ GE266.out))))
   (case aL=>have:=LMc4.out;omega)
   intro v277 w14 ho hb hg hat
   rw[← Ny276.out]at ho
   have n0_:=am_ (blk_grown (g:=gb266) (o:= .cells #[.int .i64 a1_0, .int .i64 a1_1, .int .i64 a1_2] 42 (0,0)) ((a3_ BK266.out)) hg (Kd.R_away HO272.out (fun _ hk=>hk.2)))
   have n1_:=am_ (Kd.R_after (ok:=(fun k_=>k_≠gb266)) ((a64_ HO275.out)) hg hat)
   have n2_:=am_ (hb)
   have n3_:=am_ (ho)
   clear BK266 HO275 HB HO272
   have BK266:=n0_
   have HO275:=n1_
   have HB:=n2_
   have HO278:=n3_
   clear n0_ n1_ n2_ n3_ ho hb hg hat
   obtain⟨Ao16,co16,eo16⟩:=Kd.R_slice HO278.out
   (first|subst eo16|(injection eo16 with f1_ f2_ f3_;have f4_:=f1_.symm;have f5_:=f3_.symm;clear f1_ f2_ f3_;subst f4_;subst f5_))
   refine hK.out _ _ ⟨(blk_cell BK266.out 0).trans rfl,(blk_cell BK266.out 1).trans rfl,(blk_cell BK266.out 2).trans rfl⟩ (fun hHeld=>?_)
   clear hK K
   refine norm_ (a':=?_) ?_ ?_
   rotate_left
   ·show Act.put _ (some 11) _=_
    simp only[Act.put,pu_]
    rfl
   refine one_ (i:=6) (N:=some 12) #[true,true,true,true,true,true,true,false,false,false,false] rfl rfl (one_of HT_.out (by kernel_rfl)) (by decide) (fun K hK=>?_)
   refine goes_ Try.func80 (by kernel_rfl) rfl #[.slice Ao16 y276.length co16] (by rfl) rfl rfl gd_ ?_
   with_reducible refine(spec_shSorted.calls k _ _ y276 t279 t280 _ ?side1 ?side2 A5.out).mono ?_
   (case side1=>exact(a4_ HO278.out))
   (case side2=>exact(Kd.R_reads' HO278.out).2.1)
   rintro e w17 ⟨v281,rfl,ho0,hb⟩
   refine⟨_,rfl,?_⟩
   have HO282:=am_ (Kd.R_lower (Kd.R_newB (Kd.R_new' (Kd.R_new' ho0 (Kd.R_lt ((a0_ HO275.out)))) (Kd.R_lt ((a0_ HO278.out)))) (g:=gb266) (o:= .cells #[.int .i64 a1_0, .int .i64 a1_1, .int .i64 a1_2] 42 (0,0)) ((a3_ BK266.out))) (below_size ((a2_ GE266.out))))
   replace HO275:=am_ (Kd.R_elder' ((a0_ HO275.out)) (Kd.R_base ho0) hb)
   replace HO278:=am_ (Kd.R_elder' ((a0_ HO278.out)) (Kd.R_base ho0) hb)
   replace BK266:=am_ (blk_below (g:=gb266) (o:= .cells #[.int .i64 a1_0, .int .i64 a1_1, .int .i64 a1_2] 42 (0,0)) ((a3_ BK266.out)) hb)
   replace HB:=am_ (below_step ((a2_ GE266.out)) hb)
   (try clear hb)
   (try clear hb2)
   (try clear hk)
   (try clear hi)
   (try clear ho0)
   refine hK.out _ _ ⟨(blk_cell BK266.out 0).trans rfl,(blk_cell BK266.out 1).trans rfl,(blk_cell BK266.out 2).trans rfl⟩ (fun hHeld=>?_)
   clear hK K
   refine norm_ (a':=?_) ?_ ?_
   rotate_left
   ·show Act.put _ (some 12) _=_
    simp only[Act.put,pu_]
    rfl
   refine pure_ (i:=7) (N:=some 13) (v:=?_) (a':=?_) #[true,true,true,true,true,true,true,true,false,false,false] rfl rfl (any_of HT_.out (by kernel_rfl)) (fun _ _ _ h=>h) (Or.inl ⟨by rfl,?_⟩) ?_ ?_
   rotate_left
   ·intro w'
    go_simp
    with_reducible rfl
   rotate_left
   ·simp only[Act.put,pu_]
    rfl
   refine pure_ (i:=8) (N:=some 14) (v:=?_) (a':=?_) #[true,true,true,true,true,true,true,true,true,false,false] rfl rfl (any_of HT_.out (by kernel_rfl)) (fun _ _ _ h=>h) (Or.inl ⟨by rfl,?_⟩) ?_ ?_
   rotate_left
   ·intro w'
    go_simp
    with_reducible rfl
   rotate_left
   ·simp only[Act.put,pu_]
    rfl
   refine pure_ (i:=9) (N:=some 4) (v:=?_) (a':=?_) #[true,true,true,true,true,true,true,true,true,true,false] rfl rfl (any_of HT_.out (by kernel_rfl)) (fun _ _ _ h=>h) (Or.inl ⟨by rfl,?_⟩) ?_ ?_
   rotate_left
   ·intro w'
    go_simp
    with_reducible rfl
   rotate_left
   ·simp only[Act.put,pu_]
    rfl
   refine pure_ (i:=10) (N:=some 5) (v:=?_) (a':=?_) #[true,true,true,true,true,true,true,true,true,true,true] rfl rfl (any_of HT_.out (by kernel_rfl)) (fun _ _ _ h=>h) (Or.inl ⟨by rfl,?_⟩) ?_ ?_
   rotate_left
   ·intro w'
    go_simp
    with_reducible rfl
   rotate_left
   ·simp only[Act.put,pu_]
    rfl
   refine done_ (done_of HT_.out (by kernel_rfl)) ?_
   try go_wp2
   go_ret2
   exact⟨_,a12_,(a28_ HO282.out),(a2_ GE266.out)⟩
  ·rw[if_neg c4]at H
   exact absurd H (by simp)
 ·rw[if_neg c3]at H
  exact absurd H (by simp)

/-! ### spec_MergeFirst: function 37 -/
def spec_MergeFirst.l0:Nat→List (S42)→Int→List (S42)→Int→Int→Option ((List (S42))×Int×Bool)
 | 0,_,_,_,_,_=>none
 | k+1,x9,x11,x37,x38,x39=>if x39<x38 then(if 0≤x39 then(if x39<(x37.length:Int) then((spec_shWith.f k x9 ((rd_T42 x37 x39).f0) ((rd_T42 x37 x39).f1) ((rd_T42 x37 x39).f2)).bind fun bt305=>(if bt305.2=true then(spec_MergeFirst.l0 k bt305.1 x11 x37 x38 (wrap64 (x39+1))) else(spec_MergeFirst.l0 k x9 (wrap64 (x11+1)) x37 x38 (wrap64 (x39+1))))) else(none)) else(none)) else(some (x9,x11,true))
def spec_MergeFirst.f (k:Nat) (l0:List (S42)) (l1:List (S42)) (l2:List (S42)):Option ((List (S42))×Int×Bool):=(spec_mgThree.f k l0 l1 l2).bind fun t283=>(if t283=true then((spec_mgKept.f k l0 l1 l2).bind fun t284=>((spec_mgLess.f k l1 l0).bind fun t287=>(if t284.length+t287.length<5864062014805 then((spec_shSorted.f k (t284 ++ t287)).bind fun bt293=>((spec_mgLess.f k l2 l0).bind fun t297=>((spec_mgLess.f k t297 l1).bind fun t300=>(spec_MergeFirst.l0 k bt293.1 0 t300 (t300.length:Int) 0)))) else(none)))) else(some (([]:List (S42)),0,false)))
theorem spec_MergeFirst.mono_l:∀k,(∀y0 y1 y2 y3 y4,LeO (spec_MergeFirst.l0 k y0 y1 y2 y3 y4) (spec_MergeFirst.l0 (k+1) y0 y1 y2 y3 y4))
 | 0=>fun _ _ _ _ _ r h=>by simp[spec_MergeFirst.l0]at h
 | k+1=>by
  have ih0:=spec_MergeFirst.mono_l k
  intros
  unfold spec_MergeFirst.l0
  rotate_left
  all_goals repeat' first|(with_reducible first|exact ih0 _ _ _ _ _|exact spec_mgKept.mono _ _ _ _|exact spec_mgLess.mono _ _ _|exact spec_mgThree.mono _ _ _ _|exact spec_shSorted.mono _ _|exact spec_shWith.mono _ _ _ _ _|exact LeO.refl _|exact LeO.none _|refine LeO.ite ?_ ?_|refine LeO.bind ?_ (fun _=>?_))|exact ih0 _ _ _ _ _|exact spec_mgKept.mono _ _ _ _|exact spec_mgLess.mono _ _ _|exact spec_mgThree.mono _ _ _ _|exact spec_shSorted.mono _ _|exact spec_shWith.mono _ _ _ _ _|exact LeO.none _|refine LeO.ite ?_ ?_|refine LeO.bind ?_ (fun _=>?_)
theorem spec_MergeFirst.mono:∀a0 a1 a2 k,LeO (spec_MergeFirst.f k a0 a1 a2) (spec_MergeFirst.f (k+1) a0 a1 a2):=by
 intro a0 a1 a2 k
 have ih0:=spec_MergeFirst.mono_l k
 unfold spec_MergeFirst.f
 repeat' first
  |(with_reducible exact ih0 _ _ _ _ _)
  |(with_reducible exact spec_mgKept.mono _ _ _ _)
  |(with_reducible exact spec_mgLess.mono _ _ _)
  |(with_reducible exact spec_mgThree.mono _ _ _ _)
  |(with_reducible exact spec_shSorted.mono _ _)
  |(with_reducible exact spec_shWith.mono _ _ _ _ _)
  |(with_reducible exact LeO.refl _)
  |(with_reducible exact LeO.none _)
  |(with_reducible refine LeO.ite ?_ ?_)
  |(with_reducible refine LeO.bind ?_ (fun _=>?_))
  |exact ih0 _ _ _ _ _
  |exact spec_mgKept.mono _ _ _ _
  |exact spec_mgLess.mono _ _ _
  |exact spec_mgThree.mono _ _ _ _
  |exact spec_shSorted.mono _ _
  |exact spec_shWith.mono _ _ _ _ _
  |exact LeO.none _
   | refine LeO.ite ?_ ?_
   | refine LeO.bind ?_ (fun _=>?_)
set_option maxHeartbeats 8000000 in
set_option maxRecDepth 100000 in
theorem spec_MergeFirst.calls (k:Nat) (A0:Option Addr) (c0:Nat) (l0:List (S42)) (A1:Option Addr) (c1:Nat) (l1:List (S42)) (A2:Option Addr) (c2:Nat) (l2:List (S42)) (r1:List (S42)) (r2:Int) (r3:Bool) (w:World) (hr0:Kd.C k42 w A0 l0.length l0) (hc0:l0.length≤c0) (hr1:Kd.C k42 w A1 l1.length l1) (hc1:l1.length≤c1) (hr2:Kd.C k42 w A2 l2.length l2) (hc2:l2.length≤c2) (h:spec_MergeFirst.f k l0 l1 l2=some (r1,r2,r3)) :
 Calls Try.prog 37 #[.slice A0 l0.length c0, .slice A1 l1.length c1, .slice A2 l2.length c2] w fun e w'=>∃v0_:Value,e = .returned (.tuple #[v0_, .int .i64 r2, .bool r3])∧Kd.R k42 42 w' w.heap.size (fun _=>True) v0_ r1∧Below w.heap.size w w':=by
 have hu42:=Try.underlying42
 have HR0:=am_ hr0
 have HC0:=am_ hc0
 clear hr0 hc0
 have HR1:=am_ hr1
 have HC1:=am_ hc1
 clear hr1 hc1
 have HR2:=am_ hr2
 have HC2:=am_ hc2
 clear hr2 hc2
 have HB:=am_ (Below.refl w.heap.size w)
 have H:((spec_mgThree.f k l0 l1 l2).bind fun t283=>(if t283=true then((spec_mgKept.f k l0 l1 l2).bind fun t284=>((spec_mgLess.f k l1 l0).bind fun t287=>(if t284.length+t287.length<5864062014805 then((spec_shSorted.f k (t284 ++ t287)).bind fun bt293=>((spec_mgLess.f k l2 l0).bind fun t297=>((spec_mgLess.f k t297 l1).bind fun t300=>(spec_MergeFirst.l0 k bt293.1 0 t300 (t300.length:Int) 0)))) else(none)))) else(some (([]:List (S42)),0,false))))=some (r1,r2,r3):=h
 clear h
 obtain⟨t283,A4,H⟩:=bo_ H
 try dsimp only at H
 by_cases c5:t283=true
 ·subst c5
  replace H:((spec_mgKept.f k l0 l1 l2).bind fun t284=>((spec_mgLess.f k l1 l0).bind fun t287=>(if t284.length+t287.length<5864062014805 then((spec_shSorted.f k (t284 ++ t287)).bind fun bt293=>((spec_mgLess.f k l2 l0).bind fun t297=>((spec_mgLess.f k t297 l1).bind fun t300=>(spec_MergeFirst.l0 k bt293.1 0 t300 (t300.length:Int) 0)))) else(none))))=some (r1,r2,r3):=by rw[if_pos rfl]at H;exact H
  obtain⟨t284,A6,H⟩:=bo_ H
  try dsimp only at H
  obtain⟨t287,A7,H⟩:=bo_ H
  try dsimp only at H
  by_cases c8:t284.length+t287.length<5864062014805
  ·rw[if_pos c8]at H
   have LMc8:=am_ c8
   clear c8
   obtain⟨y290,hy290⟩:∃y_:List (S42),y_=(t284 ++ t287):=⟨_,rfl⟩
   replace H:((spec_shSorted.f k y290).bind fun bt293=>((spec_mgLess.f k l2 l0).bind fun t297=>((spec_mgLess.f k t297 l1).bind fun t300=>(spec_MergeFirst.l0 k bt293.1 0 t300 (t300.length:Int) 0))))=some (r1,r2,r3):=by first|(rw[hy290];with_reducible exact H)|(have H2_:=(Option.bind_some _ _).symm.trans H;rw[hy290];with_reducible exact H2_)|(have H2_:=(Option.bind_some _ _).symm.trans H;with_reducible exact H2_) | with_reducible exact H|(rw[hy290];exact H)|exact H
   have Ny290:=am_ hy290
   clear hy290
   obtain⟨⟨t293,t294⟩,A9,H⟩:=bo_ H
   try dsimp only at H
   obtain⟨t297,A10,H⟩:=bo_ H
   try dsimp only at H
   obtain⟨t300,A11,H⟩:=bo_ H
   try dsimp only at H
   have H':=am_ H
   clear H
   go_enter Try.func37,Try.ntmps37
   go_wp2_with (first|((with_reducible refine gate_callee (f:=85) rfl ?_);refine goesL_ (some 19) rfl rfl Try.func85 (by kernel_rfl) rfl #[.slice A0 l0.length c0, .slice A1 l1.length c1, .slice A2 l2.length c2] rfl gd_ ?_;(with_reducible refine(spec_mgThree.calls k _ _ l0 _ _ l1 _ _ l2 true _ ?side1 ?side2 ?side3 ?side4 ?side5 ?side6 A4.out).mono ?_);(case side1=>exact(a16_ HR0.out));(case side2=>exact HC0.out);(case side3=>exact(a16_ HR1.out));(case side4=>exact HC1.out);(case side5=>exact(a16_ HR2.out));(case side6=>exact HC2.out);rintro e w12 ⟨rfl,hb⟩;refine⟨_,rfl,?_⟩;replace HB:=am_ (below_step (a1_) hb);(try clear hb);(try clear hb2);(try clear hk);(try clear hi))|((with_reducible refine gate_callee (f:=86) rfl ?_);refine goesL_ (some 25) rfl rfl Try.func86 (by kernel_rfl) rfl #[.slice A0 l0.length c0, .slice A1 l1.length c1, .slice A2 l2.length c2] rfl gd_ ?_;(with_reducible refine(spec_mgKept.calls k _ _ l0 _ _ l1 _ _ l2 t284 _ ?side1 ?side2 ?side3 ?side4 ?side5 ?side6 A6.out).mono ?_);(case side1=>exact(a8_ HR0.out));(case side2=>exact HC0.out);(case side3=>exact(a8_ HR1.out));(case side4=>exact HC1.out);(case side5=>exact(a8_ HR2.out));(case side6=>exact HC2.out);rintro e w13 ⟨v285,rfl,ho0,hb⟩;refine⟨_,rfl,?_⟩;have HO286:=am_ (Kd.R_lower ho0 (below_size (a1_)));replace HB:=am_ (below_step (a1_) hb);(try clear hb);(try clear hb2);(try clear hk);(try clear hi);(try clear ho0))|((with_reducible refine gate_callee (f:=78) rfl ?_);refine goesL_ (some 28) rfl rfl Try.func78 (by kernel_rfl) rfl #[.slice A1 l1.length c1, .slice A0 l0.length c0] rfl gd_ ?_;(with_reducible refine(spec_mgLess.calls k _ _ l1 _ _ l0 t287 _ ?side1 ?side2 ?side3 ?side4 A7.out).mono ?_);(case side1=>exact(a8_ HR1.out));(case side2=>exact HC1.out);(case side3=>exact(a8_ HR0.out));(case side4=>exact HC0.out);rintro e w14 ⟨v288,rfl,ho0,hb⟩;refine⟨_,rfl,?_⟩;have HO289:=am_ (Kd.R_lower (Kd.R_new' ho0 (Kd.R_lt ((a0_ HO286.out)))) (below_size (a1_)));replace HO286:=am_ (Kd.R_elder' ((a0_ HO286.out)) (Kd.R_base ho0) hb);replace HB:=am_ (below_step (a1_) hb);(try clear hb);(try clear hb2);(try clear hk);(try clear hi);(try clear ho0);obtain⟨Ao16,co16,eo16⟩:=Kd.R_slice HO289.out;subst eo16)|((with_reducible refine gate_builtin (b:= .append) (xs:= #[.tmp 25, .tmp 28]) rfl ?_);at_builtin;refine Kd.R_append_rows k42 (w0:=w) w.heap.size rfl (.tmp 25) (.tmp 28) 32 42 (.agg #[(.int .i64 0),(.int .i64 0),(.int .i64 0)]) 24 rfl Try.underlying32 info42 rfl (by decide) (by omega) v285 t284 t287 _ _ _ (fun k_=>some k_≠(.slice Ao16 t287.length co16:Value).ownBlock) (fun _=>False) rfl rfl ?aO ?aR (fun _ _ h=>h) (fun _ h=>h.elim) ?aF ?aB ?aS ?aL ?_;(case aR=>exact(a4_ HO289.out));(case aB=>exact(a1_));(case aF=>exact(fun k_ hk=>Kd.fresh' (Kd.R_lt ((a0_ HO289.out))) k_ hk));(case aO=>exact((a44_ HO286.out)));(case aS=>exact(below_size (a1_)));(case aL=>have:=LMc8.out;omega);intro v291 w15 ho hb hg hat;rw[← Ny290.out]at ho;have n0_:=am_ (Kd.R_after (ok:=(fun _=>True)) ((a0_ HO289.out)) hg hat);have n1_:=am_ (hb);have n2_:=am_ (ho);clear HO289 HB HO286;have HO289:=n0_;have HB:=n1_;have HO292:=n2_;clear n0_ n1_ n2_ ho hb hg hat;obtain⟨Ao17,co17,eo17⟩:=Kd.R_slice HO292.out;subst eo17)|((with_reducible refine gate_callee (f:=80) rfl ?_);refine goesL_ (some 30) rfl rfl Try.func80 (by kernel_rfl) rfl #[.slice Ao17 y290.length co17] rfl gd_ ?_;(with_reducible refine(spec_shSorted.calls k _ _ y290 t293 t294 _ ?side1 ?side2 A9.out).mono ?_);(case side1=>exact(a4_ HO292.out));(case side2=>exact(Kd.R_reads' HO292.out).2.1);rintro e w18 ⟨v295,rfl,ho0,hb⟩;refine⟨_,rfl,?_⟩;have HO296:=am_ (Kd.R_lower (Kd.R_new' (Kd.R_new' ho0 (Kd.R_lt ((a0_ HO289.out)))) (Kd.R_lt ((a0_ HO292.out)))) (below_size (a1_)));replace HO289:=am_ (Kd.R_elder' ((a0_ HO289.out)) (Kd.R_base ho0) hb);replace HO292:=am_ (Kd.R_elder' ((a0_ HO292.out)) (Kd.R_base ho0) hb);replace HB:=am_ (below_step (a1_) hb);(try clear hb);(try clear hb2);(try clear hk);(try clear hi);(try clear ho0))|((with_reducible refine gate_callee (f:=78) rfl ?_);refine goesL_ (some 35) rfl rfl Try.func78 (by kernel_rfl) rfl #[.slice A2 l2.length c2, .slice A0 l0.length c0] rfl gd_ ?_;(with_reducible refine(spec_mgLess.calls k _ _ l2 _ _ l0 t297 _ ?side1 ?side2 ?side3 ?side4 A10.out).mono ?_);(case side1=>exact(a8_ HR2.out));(case side2=>exact HC2.out);(case side3=>exact(a8_ HR0.out));(case side4=>exact HC0.out);rintro e w19 ⟨v298,rfl,ho0,hb⟩;refine⟨_,rfl,?_⟩;have HO299:=am_ (Kd.R_lower (Kd.R_new' (Kd.R_new' (Kd.R_new' ho0 (Kd.R_lt ((a0_ HO289.out)))) (Kd.R_lt ((a0_ HO292.out)))) (Kd.R_lt ((a0_ HO296.out)))) (below_size (a1_)));replace HO289:=am_ (Kd.R_elder' ((a0_ HO289.out)) (Kd.R_base ho0) hb);replace HO292:=am_ (Kd.R_elder' ((a0_ HO292.out)) (Kd.R_base ho0) hb);replace HO296:=am_ (Kd.R_elder' ((a0_ HO296.out)) (Kd.R_base ho0) hb);replace HB:=am_ (below_step (a1_) hb);(try clear hb);(try clear hb2);(try clear hk);(try clear hi);(try clear ho0);obtain⟨Ao20,co20,eo20⟩:=Kd.R_slice HO299.out;subst eo20)|((with_reducible refine gate_callee (f:=78) rfl ?_);refine goesL_ (some 37) rfl rfl Try.func78 (by kernel_rfl) rfl #[.slice Ao20 t297.length co20, .slice A1 l1.length c1] rfl gd_ ?_;(with_reducible refine(spec_mgLess.calls k _ _ t297 _ _ l1 t300 _ ?side1 ?side2 ?side3 ?side4 A11.out).mono ?_);(case side1=>exact(a4_ HO299.out));(case side2=>exact(Kd.R_reads' HO299.out).2.1);(case side3=>exact(a8_ HR1.out));(case side4=>exact HC1.out);rintro e w21 ⟨v301,rfl,ho0,hb⟩;refine⟨_,rfl,?_⟩;have HO302:=am_ (Kd.R_lower (Kd.R_new' (Kd.R_new' (Kd.R_new' (Kd.R_new' ho0 (Kd.R_lt ((a0_ HO289.out)))) (Kd.R_lt ((a0_ HO292.out)))) (Kd.R_lt ((a0_ HO296.out)))) (Kd.R_lt ((a0_ HO299.out)))) (below_size (a1_)));replace HO289:=am_ (Kd.R_elder' ((a0_ HO289.out)) (Kd.R_base ho0) hb);replace HO292:=am_ (Kd.R_elder' ((a0_ HO292.out)) (Kd.R_base ho0) hb);replace HO296:=am_ (Kd.R_elder' ((a0_ HO296.out)) (Kd.R_base ho0) hb);replace HO299:=am_ (Kd.R_elder' ((a0_ HO299.out)) (Kd.R_base ho0) hb);replace HB:=am_ (below_step (a1_) hb);(try clear hb);(try clear hb2);(try clear hk);(try clear hi);(try clear ho0);obtain⟨Ao22,co22,eo22⟩:=Kd.R_slice HO302.out;subst eo22))
   go_loopg [9,11,39] k (fun kq v9 v11 v39 w'=>∃(x9_1:List (S42)) (x11_1:Int) (x39_1:Int),v11 = .int .i64 x11_1∧v39 = .int .i64 x39_1∧Aside0 (spec_MergeFirst.l0 kq x9_1 x11_1 t300 (t300.length:Int) x39_1=some (r1,r2,r3))∧Aside0 (kq≤k)∧Aside0 (Kd.R k42 42 w' w.heap.size (fun k_=>some k_≠((.slice Ao22 t300.length co22):Value).ownBlock) v9 x9_1)∧Aside0 (Kd.R k42 42 w' w.heap.size (fun k_=>some k_≠(v9:Value).ownBlock) (.slice Ao22 t300.length co22) t300)∧Aside0 (Below w.heap.size w w'))
   case atStart=>exact⟨(t293),(0),(0),(by first | rfl|(simp;done)|(simp[*];done)),(by first | rfl|(simp;done)|(simp[*];done)),H',⟨Nat.le_refl _⟩,⟨(a44_ HO296.out)⟩,⟨(a68_ HO302.out)⟩,⟨a1_⟩⟩
   case round=>
    clear H'
    try clear c1
    try clear c2
    try clear p2
    try clear c3
    try clear c5
    try clear c7
    try clear c8
    obtain⟨x9_1,x11_1,x39_1,rfl,rfl,HA,HK1,HO_9,HO_37,HB⟩:=hrel
    cases gk with
    | zero=>exact absurd HA.out (by simp[spec_MergeFirst.l0])
    | succ k1=>
     have H:=HA.out
     clear HA
     simp only[spec_MergeFirst.l0]at H
     by_cases c23:x39_1<(t300.length:Int)
     ·rw[if_pos c23]at H
      have c23b0:decide (x39_1<(t300.length:Int))=true:=decide_eq_true c23
      clear c23
      by_cases c24:0≤x39_1
      ·rw[if_pos c24]at H
       have c24b0:decide (0≤x39_1)=true:=decide_eq_true c24
       clear c24
       by_cases c25:x39_1<(t300.length:Int)
       ·rw[if_pos c25]at H
        have c25b0:decide (x39_1<(t300.length:Int))=true:=decide_eq_true c25
        clear c25
        obtain⟨⟨t305,t308⟩,A26,H⟩:=bo_ H
        try dsimp only at H
        by_cases c27:t308=true
        ·subst c27
         replace H:(spec_MergeFirst.l0 k1 t305 x11_1 t300 (t300.length:Int) (wrap64 (x39_1+1)))=some (r1,r2,r3):=by rw[if_pos rfl]at H;exact H
         have H':=am_ H
         clear H
         have p303:0≤(x39_1:Int):=of_decide_eq_true (a13_)
         have q303:x39_1<(t300.length:Int):=of_decide_eq_true (a13_)
         obtain⟨ad303,e303,hx303_0,hx303_1,hx303_2⟩:=at_T42 (Kd.R_reads' HO_37.out).2.2 x39_1 p303 q303
         cases e303
         replace p303:=eq_true p303
         replace q303:=eq_true q303
         go_wp2_with (first|((with_reducible refine gate_dst (N:=13) rfl ?_);refine box_event ?hg (N:=13) ?hd (cs:= #[.int .i64 0, .int .i64 0, .int .i64 0]) (t:=42) ?hr ?_;(case hd=>rfl);(case hg=>rfl);(case hr=>exact hr_);intro gb304 hg w28 hbox hb;replace HO_9:=am_ (Kd.R_below (Kd.R_elderB ((a0_ HO_9.out)) gb304 (Nat.le_of_eq hg.symm)) hb);replace HO_37:=am_ (Kd.R_below (Kd.R_elderB ((a0_ HO_37.out)) gb304 (Nat.le_of_eq hg.symm)) hb);have BK304:=am_ (hbox);have GW304:=am_ ((by rw[hg];exact(below_size (a1_)):w.heap.size≤gb304));have GE304:=am_ ((by rw[hg];exact(below_size (a1_)):w.heap.size≤gb304));replace HB:=am_ (below_step (a1_) hb);clear hb hbox hg;have hcz29_0:w28.cell? ⟨gb304,0,none⟩=some (.int .i64 0):=(blk_cell BK304.out 0).trans rfl;have hcz29_1:w28.cell? ⟨gb304,1,none⟩=some (.int .i64 0):=(blk_cell BK304.out 1).trans rfl;have hcz29_2:w28.cell? ⟨gb304,2,none⟩=some (.int .i64 0):=(blk_cell BK304.out 2).trans rfl;have hfz29_0:=blk_frozen BK304.out 0;have hfz29_1:=blk_frozen BK304.out 1;have hfz29_2:=blk_frozen BK304.out 2;obtain⟨Ao30,co30,eo30⟩:=Kd.R_slice HO_9.out;subst eo30)|((with_reducible refine gate_callee (f:=88) rfl ?_);refine goesL_ (some 46) rfl rfl Try.func88 (by kernel_rfl) rfl #[.slice Ao30 x9_1.length co30, .agg #[.int .i64 ((rd_T42 t300 x39_1).f0), .int .i64 ((rd_T42 t300 x39_1).f1), .int .i64 ((rd_T42 t300 x39_1).f2)]] rfl gd_ ?_;(with_reducible refine(spec_shWith.calls k1 _ _ x9_1 ((rd_T42 t300 x39_1).f0) ((rd_T42 t300 x39_1).f1) ((rd_T42 t300 x39_1).f2) t305 true _ ?side1 ?side2 A26.out).mono ?_);(case side1=>refine(Kd.R_reads' (e:=42) (base:=w.heap.size) (ok:=fun k_=>(some k_≠(.slice (some ad303) t300.length co22:Value).ownBlock∧k_≠gb304)) (n:=x9_1.length) (c:=co30) ?_).2.2;exact((a18_ HO_9.out)));(case side2=>exact(Kd.R_reads' HO_9.out).2.1);rintro e w31 ⟨v306,rfl,ho0,hb⟩;refine⟨_,rfl,?_⟩;have HO307:=am_ (Kd.R_lower (Kd.R_newB (Kd.R_new' (Kd.R_new' ho0 (Kd.R_lt ((a18_ HO_9.out)))) (Kd.R_lt ((a18_ HO_37.out)))) (g:=gb304) (o:= .cells #[.int .i64 ((rd_T42 t300 x39_1).f0), .int .i64 ((rd_T42 t300 x39_1).f1), .int .i64 ((rd_T42 t300 x39_1).f2)] 42 (0,0)) ((a25_ BK304.out))) (below_size ((a2_ GE304.out))));replace HO_9:=am_ (Kd.R_elder' ((a18_ HO_9.out)) (Kd.R_base ho0) hb);replace HO_37:=am_ (Kd.R_elder' ((a18_ HO_37.out)) (Kd.R_base ho0) hb);replace BK304:=am_ (blk_below (g:=gb304) (o:= .cells #[.int .i64 ((rd_T42 t300 x39_1).f0), .int .i64 ((rd_T42 t300 x39_1).f1), .int .i64 ((rd_T42 t300 x39_1).f2)] 42 (0,0)) ((a25_ BK304.out)) hb);replace HB:=am_ (below_step ((a2_ GE304.out)) hb);(try clear hb);(try clear hb2);(try clear hk);(try clear hi);(try clear ho0)))
         go_roundg k1
         case measure=>have:=HK1.out;omega
         case rel=>exact⟨(t305),(x11_1),(wrap64 (x39_1+1)),(by first | rfl|(simp;done)|(simp[*];done)),(by first | rfl|(simp;done)|(simp[*];done)),H',⟨by have:=HK1.out;omega⟩,⟨(a68_ HO307.out)⟩,⟨(a44_ HO_37.out)⟩,⟨(a2_ GE304.out)⟩⟩
        ·replace c27:=Bool.eq_false_iff.mpr c27
         subst c27
         replace H:(spec_MergeFirst.l0 k1 x9_1 (wrap64 (x11_1+1)) t300 (t300.length:Int) (wrap64 (x39_1+1)))=some (r1,r2,r3):=by rw[if_neg (show ¬(false=true) by decide)]at H;exact H
         have H':=am_ H
         clear H
         have p303:0≤(x39_1:Int):=of_decide_eq_true (a13_)
         have q303:x39_1<(t300.length:Int):=of_decide_eq_true (a13_)
         obtain⟨ad303,e303,hx303_0,hx303_1,hx303_2⟩:=at_T42 (Kd.R_reads' HO_37.out).2.2 x39_1 p303 q303
         cases e303
         replace p303:=eq_true p303
         replace q303:=eq_true q303
         go_wp2_with (first|((with_reducible refine gate_dst (N:=13) rfl ?_);refine box_event ?hg (N:=13) ?hd (cs:= #[.int .i64 0, .int .i64 0, .int .i64 0]) (t:=42) ?hr ?_;(case hd=>rfl);(case hg=>rfl);(case hr=>exact hr_);intro gb304 hg w32 hbox hb;replace HO_9:=am_ (Kd.R_below (Kd.R_elderB ((a0_ HO_9.out)) gb304 (Nat.le_of_eq hg.symm)) hb);replace HO_37:=am_ (Kd.R_below (Kd.R_elderB ((a0_ HO_37.out)) gb304 (Nat.le_of_eq hg.symm)) hb);have BK304:=am_ (hbox);have GW304:=am_ ((by rw[hg];exact(below_size (a1_)):w.heap.size≤gb304));have GE304:=am_ ((by rw[hg];exact(below_size (a1_)):w.heap.size≤gb304));replace HB:=am_ (below_step (a1_) hb);clear hb hbox hg;have hcz33_0:w32.cell? ⟨gb304,0,none⟩=some (.int .i64 0):=(blk_cell BK304.out 0).trans rfl;have hcz33_1:w32.cell? ⟨gb304,1,none⟩=some (.int .i64 0):=(blk_cell BK304.out 1).trans rfl;have hcz33_2:w32.cell? ⟨gb304,2,none⟩=some (.int .i64 0):=(blk_cell BK304.out 2).trans rfl;have hfz33_0:=blk_frozen BK304.out 0;have hfz33_1:=blk_frozen BK304.out 1;have hfz33_2:=blk_frozen BK304.out 2;obtain⟨Ao34,co34,eo34⟩:=Kd.R_slice HO_9.out;subst eo34)|((with_reducible refine gate_callee (f:=88) rfl ?_);refine goesL_ (some 46) rfl rfl Try.func88 (by kernel_rfl) rfl #[.slice Ao34 x9_1.length co34, .agg #[.int .i64 ((rd_T42 t300 x39_1).f0), .int .i64 ((rd_T42 t300 x39_1).f1), .int .i64 ((rd_T42 t300 x39_1).f2)]] rfl gd_ ?_;(with_reducible refine(spec_shWith.calls k1 _ _ x9_1 ((rd_T42 t300 x39_1).f0) ((rd_T42 t300 x39_1).f1) ((rd_T42 t300 x39_1).f2) t305 false _ ?side1 ?side2 A26.out).mono ?_);(case side1=>refine(Kd.R_reads' (e:=42) (base:=w.heap.size) (ok:=fun k_=>(some k_≠(.slice (some ad303) t300.length co22:Value).ownBlock∧k_≠gb304)) (n:=x9_1.length) (c:=co34) ?_).2.2;exact((a18_ HO_9.out)));(case side2=>exact(Kd.R_reads' HO_9.out).2.1);rintro e w35 ⟨v306,rfl,ho0,hb⟩;refine⟨_,rfl,?_⟩;have HO307:=am_ (Kd.R_lower (Kd.R_newB (Kd.R_new' (Kd.R_new' ho0 (Kd.R_lt ((a18_ HO_9.out)))) (Kd.R_lt ((a18_ HO_37.out)))) (g:=gb304) (o:= .cells #[.int .i64 ((rd_T42 t300 x39_1).f0), .int .i64 ((rd_T42 t300 x39_1).f1), .int .i64 ((rd_T42 t300 x39_1).f2)] 42 (0,0)) ((a25_ BK304.out))) (below_size ((a2_ GE304.out))));replace HO_9:=am_ (Kd.R_elder' ((a18_ HO_9.out)) (Kd.R_base ho0) hb);replace HO_37:=am_ (Kd.R_elder' ((a18_ HO_37.out)) (Kd.R_base ho0) hb);replace BK304:=am_ (blk_below (g:=gb304) (o:= .cells #[.int .i64 ((rd_T42 t300 x39_1).f0), .int .i64 ((rd_T42 t300 x39_1).f1), .int .i64 ((rd_T42 t300 x39_1).f2)] 42 (0,0)) ((a25_ BK304.out)) hb);replace HB:=am_ (below_step ((a2_ GE304.out)) hb);(try clear hb);(try clear hb2);(try clear hk);(try clear hi);(try clear ho0)))
         go_roundg k1
         case measure=>have:=HK1.out;omega
         case rel=>exact⟨(x9_1),(wrap64 (x11_1+1)),(wrap64 (x39_1+1)),(by first | rfl|(simp;done)|(simp[*];done)),(by first | rfl|(simp;done)|(simp[*];done)),H',⟨by have:=HK1.out;omega⟩,⟨by(with_reducible repeat (first|apply Kd.R_alloc|apply Kd.R_drewN|apply Kd.R_drew));exact Kd.R_mono HO_9.out (fun _ hk=>hk.1.1)⟩,⟨by(with_reducible repeat (first|apply Kd.R_alloc|apply Kd.R_drewN|apply Kd.R_drew));exact Kd.R_mono HO_37.out (fun _ hk=>hk.1.1)⟩,⟨(a2_ GE304.out)⟩⟩
       ·rw[if_neg c25]at H
        exact absurd H (by simp)
      ·rw[if_neg c24]at H
       exact absurd H (by simp)
     ·rw[if_neg c23]at H
      have c23b0:decide (x39_1<(t300.length:Int))=false:=decide_eq_false c23
      clear c23
      simp only[Option.some.injEq,Prod.mk.injEq]at H
      obtain⟨rfl,rfl,rfl⟩:=H
      go_wp2
      go_ret3
      exact⟨_,a12_,(a28_ HO_9.out),a1_⟩
  ·rw[if_neg c8]at H
   exact absurd H (by simp)
 ·replace c5:=Bool.eq_false_iff.mpr c5
  subst c5
  replace H:(some (([]:List (S42)),0,false))=some (r1,r2,r3):=by rw[if_neg (show ¬(false=true) by decide)]at H;exact H
  simp only[Option.some.injEq,Prod.mk.injEq]at H
  obtain⟨rfl,rfl,rfl⟩:=H
  go_enter Try.func37,Try.ntmps37
  go_wp2_with (first|((with_reducible refine gate_callee (f:=85) rfl ?_);refine goesL_ (some 19) rfl rfl Try.func85 (by kernel_rfl) rfl #[.slice A0 l0.length c0, .slice A1 l1.length c1, .slice A2 l2.length c2] rfl gd_ ?_;(with_reducible refine(spec_mgThree.calls k _ _ l0 _ _ l1 _ _ l2 false _ ?side1 ?side2 ?side3 ?side4 ?side5 ?side6 A4.out).mono ?_);(case side1=>exact(a16_ HR0.out));(case side2=>exact HC0.out);(case side3=>exact(a16_ HR1.out));(case side4=>exact HC1.out);(case side5=>exact(a16_ HR2.out));(case side6=>exact HC2.out);rintro e w36 ⟨rfl,hb⟩;refine⟨_,rfl,?_⟩;replace HB:=am_ (below_step (a1_) hb);(try clear hb);(try clear hb2);(try clear hk);(try clear hi)))
  go_ret3
  exact⟨_,a12_,a35_,a1_⟩

end Go.Proofs.Ytplpjmhmochcfaa.QFnMerges
