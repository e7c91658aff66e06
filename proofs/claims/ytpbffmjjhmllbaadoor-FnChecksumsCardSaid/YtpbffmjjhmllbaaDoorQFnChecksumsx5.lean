/- Written by a program of this session (the kit's printer, with leaf contracts proved by hand put in): what each Go function computes, and that the call computes it. No condition but those that each theorem names. -/
import Derived.Test.YtpbffmjjhmllbaaDoorQFnChecksumsx0
import Derived.Test.YtpbffmjjhmllbaaDoorQFnChecksumsx2
import Derived.Test.YtpbffmjjhmllbaaDoorQFnChecksumsx4
namespace Go.Proofs.YtpbffmjjhmllbaaDoor.QFnChecksums
open Go.RowKit Go.Proofs.YtpbffmjjhmllbaaDoorW.PrintWords Go.Proofs.YtpbffmjjhmllbaaDoorW.PrintLast Go.Proofs.YtpbffmjjhmllbaaDoorW.PrintMore
attribute [local go_sem] max2_int min2_int max_two min_two max_three min_three max_four min_four   -- for this text's walks alone
set_option linter.unusedVariables false
set_option linter.unusedSimpArgs false

/-! ### spec_shWith: function 80 -/
def spec_shWith.f (k:Nat) (l0:List (S33)) (a1_0:Int) (a1_1:Int) (a1_2:Int):Option ((List (S33))×Bool):=(some (([]:List (S33)):List (S33))).bind fun y212=>(if y212.length+l0.length<5864062014805 then((some (y212 ++ l0:List (S33))).bind fun y215=>((some (([(⟨a1_0,a1_1,a1_2⟩:S33)]:List (S33)):List (S33))).bind fun y218=>(if y215.length+y218.length<5864062014805 then((spec_shSorted.f k (y215 ++ y218)).bind fun bt224=>(some (bt224.1,bt224.2))) else(none)))) else(none))
theorem spec_shWith.mono:∀a0 a1 a2 a3 k,LeO (spec_shWith.f k a0 a1 a2 a3) (spec_shWith.f (k+1) a0 a1 a2 a3):=by
 intro a0 a1 a2 a3 k
 unfold spec_shWith.f
 repeat' first
  |(with_reducible exact spec_shSorted.mono _ _)
  |(with_reducible exact LeO.refl _)
  |(with_reducible exact LeO.none _)
  |(with_reducible refine LeO.ite ?_ ?_)
  |(with_reducible refine LeO.bind ?_ (fun _=>?_))
  |exact spec_shSorted.mono _ _
  |exact LeO.none _
   | refine LeO.ite ?_ ?_
   | refine LeO.bind ?_ (fun _=>?_)
def spec_shWith.T1:Bool×List (List Nat×List Nat):=(true, [([], []),([], []),([0,1], [0,1]),([], []),([3], [3]),([2,4,2], [2,4]),([5,5], [5]),([6], [6]),([6], [6]),([7,6,0,1,2,3,4,5,6,7,8], [7]),([8,9,0,1,2,3,4,5,6,7,8,9], [8])])
def spec_shWith.B1:List Nat:=[0,0,3,0,8,31,63,127,127,511,1023]
theorem spec_shWith.tab1:rtab .any (opsOf Tryd.f80 1)=spec_shWith.T1:=by kernel_rfl
theorem spec_shWith.bits1:waitsOk spec_shWith.T1.2 spec_shWith.B1=true:=by kernel_rfl
set_option maxHeartbeats 8000000 in
set_option maxRecDepth 100000 in
theorem spec_shWith.calls (k:Nat) (A0:Option Addr) (c0:Nat) (l0:List (S33)) (a1_0:Int) (a1_1:Int) (a1_2:Int) (r1:List (S33)) (r2:Bool) (w:World) (hr0:Kd.C k33 w A0 l0.length l0) (hc0:l0.length≤c0) (h:spec_shWith.f k l0 a1_0 a1_1 a1_2=some (r1,r2)) :
 Calls Tryd.prog 80 #[.slice A0 l0.length c0, .agg #[.int .i64 a1_0, .int .i64 a1_1, .int .i64 a1_2]] w fun e w'=>∃v0_:Value,e = .returned (.tuple #[v0_, .bool r2])∧Kd.R k33 33 w' w.heap.size (fun _=>True) v0_ r1∧Below w.heap.size w w':=by
 have hu33:=Tryd.underlying33
 have HR0:=am_ hr0
 have HC0:=am_ hc0
 clear hr0 hc0
 have HB:=am_ (Below.refl w.heap.size w)
 have H:((some (([]:List (S33)):List (S33))).bind fun y212=>(if y212.length+l0.length<5864062014805 then((some (y212 ++ l0:List (S33))).bind fun y215=>((some (([(⟨a1_0,a1_1,a1_2⟩:S33)]:List (S33)):List (S33))).bind fun y218=>(if y215.length+y218.length<5864062014805 then((spec_shSorted.f k (y215 ++ y218)).bind fun bt224=>(some (bt224.1,bt224.2))) else(none)))) else(none)))=some (r1,r2):=h
 clear h
 obtain⟨y212,hy212⟩:∃y_:List (S33),y_=(([]:List (S33))):=⟨_,rfl⟩
 replace H:(if y212.length+l0.length<5864062014805 then((some (y212 ++ l0:List (S33))).bind fun y215=>((some (([(⟨a1_0,a1_1,a1_2⟩:S33)]:List (S33)):List (S33))).bind fun y218=>(if y215.length+y218.length<5864062014805 then((spec_shSorted.f k (y215 ++ y218)).bind fun bt224=>(some (bt224.1,bt224.2))) else(none)))) else(none))=some (r1,r2):=by first|(rw[hy212];with_reducible exact H)|(have H2_:=(Option.bind_some _ _).symm.trans H;rw[hy212];with_reducible exact H2_)|(have H2_:=(Option.bind_some _ _).symm.trans H;with_reducible exact H2_) | with_reducible exact H|(rw[hy212];exact H)|exact H
 have Ny212:=am_ hy212
 clear hy212
 by_cases c3:y212.length+l0.length<5864062014805
 ·rw[if_pos c3]at H
  have LMc3:=am_ c3
  clear c3
  obtain⟨y215,hy215⟩:∃y_:List (S33),y_=(y212 ++ l0):=⟨_,rfl⟩
  replace H:((some (([(⟨a1_0,a1_1,a1_2⟩:S33)]:List (S33)):List (S33))).bind fun y218=>(if y215.length+y218.length<5864062014805 then((spec_shSorted.f k (y215 ++ y218)).bind fun bt224=>(some (bt224.1,bt224.2))) else(none)))=some (r1,r2):=by first|(rw[hy215];with_reducible exact H)|(have H2_:=(Option.bind_some _ _).symm.trans H;rw[hy215];with_reducible exact H2_)|(have H2_:=(Option.bind_some _ _).symm.trans H;with_reducible exact H2_) | with_reducible exact H|(rw[hy215];exact H)|exact H
  have Ny215:=am_ hy215
  clear hy215
  obtain⟨y218,hy218⟩:∃y_:List (S33),y_=(([(⟨a1_0,a1_1,a1_2⟩:S33)]:List (S33))):=⟨_,rfl⟩
  replace H:(if y215.length+y218.length<5864062014805 then((spec_shSorted.f k (y215 ++ y218)).bind fun bt224=>(some (bt224.1,bt224.2))) else(none))=some (r1,r2):=by first|(rw[hy218];with_reducible exact H)|(have H2_:=(Option.bind_some _ _).symm.trans H;rw[hy218];with_reducible exact H2_)|(have H2_:=(Option.bind_some _ _).symm.trans H;with_reducible exact H2_) | with_reducible exact H|(rw[hy218];exact H)|exact H
  have Ny218:=am_ hy218
  clear hy218
  by_cases c4:y215.length+y218.length<5864062014805
  ·rw[if_pos c4]at H
   have LMc4:=am_ c4
   clear c4
   obtain⟨y221,hy221⟩:∃y_:List (S33),y_=(y215 ++ y218):=⟨_,rfl⟩
   replace H:((spec_shSorted.f k y221).bind fun bt224=>(some (bt224.1,bt224.2)))=some (r1,r2):=by first|(rw[hy221];with_reducible exact H)|(have H2_:=(Option.bind_some _ _).symm.trans H;rw[hy221];with_reducible exact H2_)|(have H2_:=(Option.bind_some _ _).symm.trans H;with_reducible exact H2_) | with_reducible exact H|(rw[hy221];exact H)|exact H
   have Ny221:=am_ hy221
   clear hy221
   obtain⟨⟨t224,t225⟩,A5,H⟩:=bo_ H
   try dsimp only at H
   simp only[Option.some.injEq,Prod.mk.injEq]at H
   obtain⟨rfl,rfl⟩:=H
   go_enter Tryd.func80,Tryd.ntmps80
   try go_wp2_with (first|((with_reducible refine gate_dst (N:=3) rfl ?_);refine box_event ?hg (N:=3) ?hd (cs:= #[.int .i64 a1_0, .int .i64 a1_1, .int .i64 a1_2]) (t:=33) ?hr ?_;(case hd=>rfl);(case hg=>rfl);(case hr=>exact hr_);intro gb211 hg w6 hbox hb;have BK211:=am_ (hbox);have GW211:=am_ ((by rw[hg];exact(below_size (a0_)):w.heap.size≤gb211));have GE211:=am_ ((by rw[hg];exact(below_size (a0_)):w.heap.size≤gb211));replace HB:=am_ (below_step (a0_) hb);clear hb hbox hg))
   replace BK211:=am_ (blk_drew BK211.out)
   replace HB:=am_ (below_drew1 HB.out)
   refine start_ (n:=11) (S:=fun w'=>w'.cell? ⟨gb211,0,none⟩=some (.int .i64 a1_0)∧w'.cell? ⟨gb211,1,none⟩=some (.int .i64 a1_1)∧w'.cell? ⟨gb211,2,none⟩=some (.int .i64 a1_2)) (ds:=[]) #[false,false,false,false,false,false,false,false,false,false,false] (by kernel_rfl) rfl rfl ⟨(blk_cell BK211.out 0).trans rfl,(blk_cell BK211.out 1).trans rfl,(blk_cell BK211.out 2).trans rfl⟩ (fun hHeld=>?_);refine with_tabW spec_shWith.tab1 spec_shWith.bits1 (fun HT_ HW_=>?_)
   generalize w6.drew=w7 at BK211 HB hHeld ⊢
   refine pure_ (i:=1) (N:=some 7) (v:=?_) (a':=?_) #[false,true,false,false,false,false,false,false,false,false,false] rfl rfl (any_of HT_.out (by kernel_rfl)) (fun _ _ _ h=>h) (Or.inl ⟨by rfl,?_⟩) ?_ ?_
   rotate_left
   ·intro w'
    go_simp
    with_reducible rfl
   rotate_left
   ·simp only[Act.put,pu_]
    rfl
   refine take_ (i:=3) (N:=some 9) (v:=?_) (a':=?_) #[false,true,false,true,false,false,false,false,false,false,false] rfl rfl (take_ofW HT_.out HW_.out (by kernel_rfl)) (fun _ _ _ h=>h) (Or.inl ⟨by rfl,?_⟩) hHeld ?_ ?_
   rotate_left
   ·rintro w' ⟨s0,s1,s2⟩
    go_simp
    with_reducible rfl
   rotate_left
   ·simp only[Act.put,pu_]
    rfl
   refine join_ (σ:=Value×Value×Value) 6 #[true,true,true,true,true,false,false,false,false,false,false] (fun s_=> [(6,s_.1),(8,s_.2.1),(10,s_.2.2)]) (fun s_ w'=>(w'.cell? ⟨gb211,0,none⟩=some (.int .i64 a1_0)∧w'.cell? ⟨gb211,1,none⟩=some (.int .i64 a1_1)∧w'.cell? ⟨gb211,2,none⟩=some (.int .i64 a1_2))∧(Kd.R k33 33 w' w.heap.size (fun k_=>some k_≠(s_.2.2:Value).ownBlock∧k_≠gb211) s_.2.1 y215)∧(Kd.R k33 33 w' w.heap.size (fun k_=>some k_≠(s_.2.1:Value).ownBlock∧k_≠gb211) s_.2.2 y218)∧(w'.heap[gb211]? = some (.cells #[.int .i64 a1_0, .int .i64 a1_1, .int .i64 a1_2] 33 (0,0)))∧(Below w.heap.size w w')) ?_ ?_
   rotate_left
   ·intro hCont
    refine two_ (i:=0) (j:=4) (Ni:=some 6) (Nj:=some 10) #[true,true,false,true,false,false,false,false,false,false,false] #[false,true,false,true,true,false,false,false,false,false,false] rfl rfl rfl rfl (two_of HT_.out (by kernel_rfl)) (by decide) (by decide) (fun K hK=>?_) (fun K hK=>?_)
    ·skip
     refine Kd.R_lit_step k33 _ 33 ?hg (N:=6) ?hd (xs:=([]:List (S33))) (inner:=[]) (ok:=fun _=>True) (okp:=fun _=>True) ?hr ?hp (fun _ hk=>hk) trivial (Below.refl _ _) (Nat.le_refl _) (by simp) ?_;(case hd=>rfl);(case hg=>rfl);(case hr=>exact hr_);(case hp=>exact(Reps.none _ _))
     intro v213 w8 ho9 hb hg_ hnew_
     clear hg_ hnew_
     (first|rw[← Ny212.out]at ho9|(simp only[Int.reduceToNat]at ho9;rw[← Ny212.out]at ho9))
     have HO214:=am_ (Kd.R_lower (Kd.R_newB ho9 (g:=gb211) (o:= .cells #[.int .i64 a1_0, .int .i64 a1_1, .int .i64 a1_2] 33 (0,0)) ((a5_ BK211.out))) (below_size ((a3_ GE211.out))))
     replace BK211:=am_ (blk_below (g:=gb211) (o:= .cells #[.int .i64 a1_0, .int .i64 a1_1, .int .i64 a1_2] 33 (0,0)) ((a5_ BK211.out)) hb)
     replace HB:=am_ (below_step ((a3_ GE211.out)) hb)
     clear hb ho9
     refine hK.out _ _ ⟨(blk_cell BK211.out 0).trans rfl,(blk_cell BK211.out 1).trans rfl,(blk_cell BK211.out 2).trans rfl⟩ (fun hHeld=>?_)
     clear hK K
     refine norm_ (a':=?_) ?_ ?_
     rotate_left
     ·show Act.put _ (some 6) _=_
      simp only[Act.put,pu_]
      rfl
     refine two_ (i:=2) (j:=4) (Ni:=some 8) (Nj:=some 10) #[true,true,true,true,false,false,false,false,false,false,false] #[true,true,false,true,true,false,false,false,false,false,false] rfl rfl rfl rfl (two_of HT_.out (by kernel_rfl)) (by decide) (by decide) (fun K hK=>?_) (fun K hK=>?_)
     ·skip
      refine Kd.R_append_rows_step k33 (w0:=w) w.heap.size (by rfl) (.tmp 6) (.tmp 7) 24 33 (.agg #[(.int .i64 0),(.int .i64 0),(.int .i64 0)]) 24 rfl Tryd.underlying24 info33 rfl (by decide) (by omega) v213 y212 l0 _ _ _ (fun k_=>k_≠gb211) (fun _=>False) rfl rfl ?aO ?aR (fun _ _ h=>h) (fun _ h=>h.elim) ?aF ?aB ?aS ?aL ?_
      (case aR=>exact(a21_ HR0.out))
      (case aB=>exact((a3_ GE211.out)))
      (case aF=>exact(fun k_ hk=>Kd.freshB (g:=gb211) (o:= .cells #[.int .i64 a1_0, .int .i64 a1_1, .int .i64 a1_2] 33 (0,0)) ((a5_ BK211.out)) k_ hk))
      (case aO=>exact((a48_ HO214.out)))
      (case aS=>exact(below_size ((a3_ GE211.out))))
      (case aL=>have:=LMc3.out;omega)
      intro v216 w10 ho hb hg hat
      rw[← Ny215.out]at ho
      have n0_:=am_ (blk_grown (g:=gb211) (o:= .cells #[.int .i64 a1_0, .int .i64 a1_1, .int .i64 a1_2] 33 (0,0)) ((a5_ BK211.out)) hg (Kd.R_away HO214.out (fun _ hk=>hk.2)))
      have n1_:=am_ (hb)
      have n2_:=am_ (ho)
      clear BK211 HB HO214
      have BK211:=n0_
      have HB:=n1_
      have HO217:=n2_
      clear n0_ n1_ n2_ ho hb hg hat
      refine hK.out _ _ ⟨(blk_cell BK211.out 0).trans rfl,(blk_cell BK211.out 1).trans rfl,(blk_cell BK211.out 2).trans rfl⟩ (fun hHeld=>?_)
      clear hK K
      refine norm_ (a':=?_) ?_ ?_
      rotate_left
      ·show Act.put _ (some 8) _=_
       simp only[Act.put,pu_]
       rfl
      refine one_ (i:=4) (N:=some 10) #[true,true,true,true,true,false,false,false,false,false,false] rfl rfl (one_of HT_.out (by kernel_rfl)) (by decide) (fun K hK=>?_)
      refine Kd.R_lit_step k33 _ 33 ?hg (N:=10) ?hd (xs:=([(⟨a1_0,a1_1,a1_2⟩:S33)]:List (S33))) (inner:=[.int .i64 a1_0, .int .i64 a1_1, .int .i64 a1_2]) (ok:=fun _=>True) (okp:=fun _=>True) ?hr ?hp (fun _ hk=>hk) trivial (Below.refl _ _) (Nat.le_refl _) (by simp) ?_;(case hd=>rfl);(case hg=>rfl);(case hr=>exact hr_);(case hp=>exact(Reps.c3 (show Kd.M k33 _ _ _ (⟨a1_0,a1_1,a1_2⟩:S33) [.int .i64 a1_0, .int .i64 a1_1, .int .i64 a1_2] from(k33_mkM _ _ _ (⟨a1_0,a1_1,a1_2⟩:S33) )) (Reps.none _ _)))
      intro v219 w11 ho12 hb hg_ hnew_
      clear hg_ hnew_
      (first|rw[← Ny218.out]at ho12|(simp only[Int.reduceToNat]at ho12;rw[← Ny218.out]at ho12))
      have HO220:=am_ (Kd.R_lower (Kd.R_newB (Kd.R_new' ho12 (Kd.R_lt ((a1_ HO217.out)))) (g:=gb211) (o:= .cells #[.int .i64 a1_0, .int .i64 a1_1, .int .i64 a1_2] 33 (0,0)) ((a5_ BK211.out))) (below_size ((a3_ GE211.out))))
      replace HO217:=am_ (Kd.R_elder' ((a1_ HO217.out)) (Kd.R_base ho12) hb)
      replace BK211:=am_ (blk_below (g:=gb211) (o:= .cells #[.int .i64 a1_0, .int .i64 a1_1, .int .i64 a1_2] 33 (0,0)) ((a5_ BK211.out)) hb)
      replace HB:=am_ (below_step ((a3_ GE211.out)) hb)
      clear hb ho12
      refine hK.out _ _ ⟨(blk_cell BK211.out 0).trans rfl,(blk_cell BK211.out 1).trans rfl,(blk_cell BK211.out 2).trans rfl⟩ (fun hHeld=>?_)
      clear hK K
      refine norm_ (a':=?_) ?_ ?_
      rotate_left
      ·show Act.put _ (some 10) _=_
       simp only[Act.put,pu_]
       rfl
      exact norm_ (by simp only[putAll,Act.put,List.setIfInBounds_toArray,List.set_cons_zero,List.set_cons_succ]) (hCont (v213,v216,v219) _ ⟨hHeld,((a49_ HO217.out)),((a47_ HO220.out)),((a5_ BK211.out)),((a3_ GE211.out))⟩)
     ·skip
      refine Kd.R_lit_step k33 _ 33 ?hg (N:=10) ?hd (xs:=([(⟨a1_0,a1_1,a1_2⟩:S33)]:List (S33))) (inner:=[.int .i64 a1_0, .int .i64 a1_1, .int .i64 a1_2]) (ok:=fun _=>True) (okp:=fun _=>True) ?hr ?hp (fun _ hk=>hk) trivial (Below.refl _ _) (Nat.le_refl _) (by simp) ?_;(case hd=>rfl);(case hg=>rfl);(case hr=>exact hr_);(case hp=>exact(Reps.c3 (show Kd.M k33 _ _ _ (⟨a1_0,a1_1,a1_2⟩:S33) [.int .i64 a1_0, .int .i64 a1_1, .int .i64 a1_2] from(k33_mkM _ _ _ (⟨a1_0,a1_1,a1_2⟩:S33) )) (Reps.none _ _)))
      intro v219 w10 ho11 hb hg_ hnew_
      clear hg_ hnew_
      (first|rw[← Ny218.out]at ho11|(simp only[Int.reduceToNat]at ho11;rw[← Ny218.out]at ho11))
      have HO220:=am_ (Kd.R_lower (Kd.R_newB (Kd.R_new' ho11 (Kd.R_lt ((a1_ HO214.out)))) (g:=gb211) (o:= .cells #[.int .i64 a1_0, .int .i64 a1_1, .int .i64 a1_2] 33 (0,0)) ((a5_ BK211.out))) (below_size ((a3_ GE211.out))))
      replace HO214:=am_ (Kd.R_elder' ((a1_ HO214.out)) (Kd.R_base ho11) hb)
      replace BK211:=am_ (blk_below (g:=gb211) (o:= .cells #[.int .i64 a1_0, .int .i64 a1_1, .int .i64 a1_2] 33 (0,0)) ((a5_ BK211.out)) hb)
      replace HB:=am_ (below_step ((a3_ GE211.out)) hb)
      clear hb ho11
      refine hK.out _ _ ⟨(blk_cell BK211.out 0).trans rfl,(blk_cell BK211.out 1).trans rfl,(blk_cell BK211.out 2).trans rfl⟩ (fun hHeld=>?_)
      clear hK K
      refine norm_ (a':=?_) ?_ ?_
      rotate_left
      ·show Act.put _ (some 10) _=_
       simp only[Act.put,pu_]
       rfl
      refine one_ (i:=2) (N:=some 8) #[true,true,true,true,true,false,false,false,false,false,false] rfl rfl (one_of HT_.out (by kernel_rfl)) (by decide) (fun K hK=>?_)
      refine Kd.R_append_rows_step k33 (w0:=w) w.heap.size (by rfl) (.tmp 6) (.tmp 7) 24 33 (.agg #[(.int .i64 0),(.int .i64 0),(.int .i64 0)]) 24 rfl Tryd.underlying24 info33 rfl (by decide) (by omega) v213 y212 l0 _ _ _ (fun k_=>some k_≠(v219:Value).ownBlock∧k_≠gb211) (fun _=>False) rfl rfl ?aO ?aR (fun _ _ h=>h) (fun _ h=>h.elim) ?aF ?aB ?aS ?aL ?_
      (case aR=>exact(a21_ HR0.out))
      (case aB=>exact((a3_ GE211.out)))
      (case aF=>exact(fun k_ hk=>⟨Kd.fresh' (Kd.R_lt ((a1_ HO220.out))) k_ hk,Kd.freshB (g:=gb211) (o:= .cells #[.int .i64 a1_0, .int .i64 a1_1, .int .i64 a1_2] 33 (0,0)) ((a5_ BK211.out)) k_ hk⟩))
      (case aO=>exact(by(with_reducible repeat (first|apply Kd.R_alloc|apply Kd.R_drewN|apply Kd.R_drew));exact Kd.R_mono HO214.out (fun _ hk=>⟨hk.2,hk.1.2⟩)))
      (case aS=>exact(below_size ((a3_ GE211.out))))
      (case aL=>have:=LMc3.out;omega)
      intro v216 w12 ho hb hg hat
      rw[← Ny215.out]at ho
      have n0_:=am_ (blk_grown (g:=gb211) (o:= .cells #[.int .i64 a1_0, .int .i64 a1_1, .int .i64 a1_2] 33 (0,0)) ((a5_ BK211.out)) hg (Kd.R_away HO214.out (fun _ hk=>hk.1.2)))
      have n1_:=am_ (Kd.R_after (ok:=(fun k_=>k_≠gb211)) (by(with_reducible repeat (first|apply Kd.R_alloc|apply Kd.R_drewN|apply Kd.R_drew));exact Kd.R_mono HO220.out (fun _ hk=>⟨hk.2,hk.1.2⟩)) hg hat)
      have n2_:=am_ (hb)
      have n3_:=am_ (ho)
      clear BK211 HO220 HB HO214
      have BK211:=n0_
      have HO220:=n1_
      have HB:=n2_
      have HO217:=n3_
      clear n0_ n1_ n2_ n3_ ho hb hg hat
      refine hK.out _ _ ⟨(blk_cell BK211.out 0).trans rfl,(blk_cell BK211.out 1).trans rfl,(blk_cell BK211.out 2).trans rfl⟩ (fun hHeld=>?_)
      clear hK K
      refine norm_ (a':=?_) ?_ ?_
      rotate_left
      ·show Act.put _ (some 8) _=_
       simp only[Act.put,pu_]
       rfl
      exact norm_ (by simp only[putAll,Act.put,List.setIfInBounds_toArray,List.set_cons_zero,List.set_cons_succ]) (hCont (v213,v216,v219) _ ⟨hHeld,((a1_ HO217.out)),((a49_ HO220.out)),((a5_ BK211.out)),((a3_ GE211.out))⟩)
    ·skip
     refine Kd.R_lit_step k33 _ 33 ?hg (N:=10) ?hd (xs:=([(⟨a1_0,a1_1,a1_2⟩:S33)]:List (S33))) (inner:=[.int .i64 a1_0, .int .i64 a1_1, .int .i64 a1_2]) (ok:=fun _=>True) (okp:=fun _=>True) ?hr ?hp (fun _ hk=>hk) trivial (Below.refl _ _) (Nat.le_refl _) (by simp) ?_;(case hd=>rfl);(case hg=>rfl);(case hr=>exact hr_);(case hp=>exact(Reps.c3 (show Kd.M k33 _ _ _ (⟨a1_0,a1_1,a1_2⟩:S33) [.int .i64 a1_0, .int .i64 a1_1, .int .i64 a1_2] from(k33_mkM _ _ _ (⟨a1_0,a1_1,a1_2⟩:S33) )) (Reps.none _ _)))
     intro v219 w8 ho9 hb hg_ hnew_
     clear hg_ hnew_
     (first|rw[← Ny218.out]at ho9|(simp only[Int.reduceToNat]at ho9;rw[← Ny218.out]at ho9))
     have HO220:=am_ (Kd.R_lower (Kd.R_newB ho9 (g:=gb211) (o:= .cells #[.int .i64 a1_0, .int .i64 a1_1, .int .i64 a1_2] 33 (0,0)) ((a5_ BK211.out))) (below_size ((a3_ GE211.out))))
     replace BK211:=am_ (blk_below (g:=gb211) (o:= .cells #[.int .i64 a1_0, .int .i64 a1_1, .int .i64 a1_2] 33 (0,0)) ((a5_ BK211.out)) hb)
     replace HB:=am_ (below_step ((a3_ GE211.out)) hb)
     clear hb ho9
     refine hK.out _ _ ⟨(blk_cell BK211.out 0).trans rfl,(blk_cell BK211.out 1).trans rfl,(blk_cell BK211.out 2).trans rfl⟩ (fun hHeld=>?_)
     clear hK K
     refine norm_ (a':=?_) ?_ ?_
     rotate_left
     ·show Act.put _ (some 10) _=_
      simp only[Act.put,pu_]
      rfl
     refine one_ (i:=0) (N:=some 6) #[true,true,false,true,true,false,false,false,false,false,false] rfl rfl (one_of HT_.out (by kernel_rfl)) (by decide) (fun K hK=>?_)
     refine Kd.R_lit_step k33 _ 33 ?hg (N:=6) ?hd (xs:=([]:List (S33))) (inner:=[]) (ok:=fun _=>True) (okp:=fun _=>True) ?hr ?hp (fun _ hk=>hk) trivial (Below.refl _ _) (Nat.le_refl _) (by simp) ?_;(case hd=>rfl);(case hg=>rfl);(case hr=>exact hr_);(case hp=>exact(Reps.none _ _))
     intro v213 w10 ho11 hb hg_ hnew_
     clear hg_ hnew_
     (first|rw[← Ny212.out]at ho11|(simp only[Int.reduceToNat]at ho11;rw[← Ny212.out]at ho11))
     have HO214:=am_ (Kd.R_lower (Kd.R_newB (Kd.R_new' ho11 (Kd.R_lt ((a1_ HO220.out)))) (g:=gb211) (o:= .cells #[.int .i64 a1_0, .int .i64 a1_1, .int .i64 a1_2] 33 (0,0)) ((a5_ BK211.out))) (below_size ((a3_ GE211.out))))
     replace HO220:=am_ (Kd.R_elder' ((a1_ HO220.out)) (Kd.R_base ho11) hb)
     replace BK211:=am_ (blk_below (g:=gb211) (o:= .cells #[.int .i64 a1_0, .int .i64 a1_1, .int .i64 a1_2] 33 (0,0)) ((a5_ BK211.out)) hb)
     replace HB:=am_ (below_step ((a3_ GE211.out)) hb)
     clear hb ho11
     refine hK.out _ _ ⟨(blk_cell BK211.out 0).trans rfl,(blk_cell BK211.out 1).trans rfl,(blk_cell BK211.out 2).trans rfl⟩ (fun hHeld=>?_)
     clear hK K
     refine norm_ (a':=?_) ?_ ?_
     rotate_left
     ·show Act.put _ (some 6) _=_
      simp only[Act.put,pu_]
      rfl
     refine one_ (i:=2) (N:=some 8) #[true,true,true,true,true,false,false,false,false,false,false] rfl rfl (one_of HT_.out (by kernel_rfl)) (by decide) (fun K hK=>?_)
     refine Kd.R_append_rows_step k33 (w0:=w) w.heap.size (by rfl) (.tmp 6) (.tmp 7) 24 33 (.agg #[(.int .i64 0),(.int .i64 0),(.int .i64 0)]) 24 rfl Tryd.underlying24 info33 rfl (by decide) (by omega) v213 y212 l0 _ _ _ (fun k_=>some k_≠(v219:Value).ownBlock∧k_≠gb211) (fun _=>False) rfl rfl ?aO ?aR (fun _ _ h=>h) (fun _ h=>h.elim) ?aF ?aB ?aS ?aL ?_
     (case aR=>exact(a21_ HR0.out))
     (case aB=>exact((a3_ GE211.out)))
     (case aF=>exact(fun k_ hk=>⟨Kd.fresh' (Kd.R_lt ((a1_ HO220.out))) k_ hk,Kd.freshB (g:=gb211) (o:= .cells #[.int .i64 a1_0, .int .i64 a1_1, .int .i64 a1_2] 33 (0,0)) ((a5_ BK211.out)) k_ hk⟩))
     (case aO=>exact((a47_ HO214.out)))
     (case aS=>exact(below_size ((a3_ GE211.out))))
     (case aL=>have:=LMc3.out;omega)
     intro v216 w12 ho hb hg hat
     rw[← Ny215.out]at ho
     have n0_:=am_ (blk_grown (g:=gb211) (o:= .cells #[.int .i64 a1_0, .int .i64 a1_1, .int .i64 a1_2] 33 (0,0)) ((a5_ BK211.out)) hg (Kd.R_away HO214.out (fun _ hk=>hk.2)))
     have n1_:=am_ (Kd.R_after (ok:=(fun k_=>k_≠gb211)) ((a47_ HO220.out)) hg hat)
     have n2_:=am_ (hb)
     have n3_:=am_ (ho)
     clear BK211 HO220 HB HO214
     have BK211:=n0_
     have HO220:=n1_
     have HB:=n2_
     have HO217:=n3_
     clear n0_ n1_ n2_ n3_ ho hb hg hat
     refine hK.out _ _ ⟨(blk_cell BK211.out 0).trans rfl,(blk_cell BK211.out 1).trans rfl,(blk_cell BK211.out 2).trans rfl⟩ (fun hHeld=>?_)
     clear hK K
     refine norm_ (a':=?_) ?_ ?_
     rotate_left
     ·show Act.put _ (some 8) _=_
      simp only[Act.put,pu_]
      rfl
     exact norm_ (by simp only[putAll,Act.put,List.setIfInBounds_toArray,List.set_cons_zero,List.set_cons_succ]) (hCont (v213,v216,v219) _ ⟨hHeld,((a1_ HO217.out)),((a49_ HO220.out)),((a5_ BK211.out)),((a3_ GE211.out))⟩)
   rintro⟨v213,v216,v219⟩ w13 ⟨hS_,h0_,h1_,h2_,h3_⟩
   have n0_:Aside0 (Kd.R k33 33 w13 w.heap.size (fun k_=>some k_≠(v219:Value).ownBlock∧k_≠gb211) v216 y215):=⟨h0_⟩
   have n1_:Aside0 (Kd.R k33 33 w13 w.heap.size (fun k_=>some k_≠(v216:Value).ownBlock∧k_≠gb211) v219 y218):=⟨h1_⟩
   have n2_:Aside0 (w13.heap[gb211]? = some (.cells #[.int .i64 a1_0, .int .i64 a1_1, .int .i64 a1_2] 33 (0,0))):=⟨h2_⟩
   have n3_:Aside0 (Below w.heap.size w w13):=⟨h3_⟩
   clear BK211 HB h0_ h1_ h2_ h3_
   have HO217:=n0_
   have HO220:=n1_
   have BK211:=n2_
   have HB:=n3_
   clear n0_ n1_ n2_ n3_
   have hHeld:w13.cell? ⟨gb211,0,none⟩=some (.int .i64 a1_0)∧w13.cell? ⟨gb211,1,none⟩=some (.int .i64 a1_1)∧w13.cell? ⟨gb211,2,none⟩=some (.int .i64 a1_2):=hS_
   obtain⟨Ao15,co15,eo15⟩:=Kd.R_slice HO220.out
   (first|subst eo15|(injection eo15 with f1_ f2_ f3_;have f4_:=f1_.symm;have f5_:=f3_.symm;clear f1_ f2_ f3_;subst f4_;subst f5_))
   refine norm_ (a':=?_) ?_ ?_
   rotate_left
   ·simp only[putAll,Act.put,List.setIfInBounds_toArray,List.set_cons_zero,List.set_cons_succ]
    rfl
   refine one_ (i:=5) (N:=some 11) #[true,true,true,true,true,true,false,false,false,false,false] rfl rfl (one_of HT_.out (by kernel_rfl)) (by decide) (fun K hK=>?_)
   refine Kd.R_append_rows_step k33 (w0:=w) w.heap.size (by rfl) (.tmp 8) (.tmp 10) 24 33 (.agg #[(.int .i64 0),(.int .i64 0),(.int .i64 0)]) 24 rfl Tryd.underlying24 info33 rfl (by decide) (by omega) v216 y215 y218 _ _ _ (fun k_=>some k_≠(.slice Ao15 y218.length co15:Value).ownBlock∧k_≠gb211) (fun _=>False) rfl rfl ?aO ?aR (fun _ _ h=>h) (fun _ h=>h.elim) ?aF ?aB ?aS ?aL ?_
   (case aR=>exact(a12_ HO220.out))
   (case aB=>exact((a3_ GE211.out)))
   (case aF=>exact(fun k_ hk=>⟨Kd.fresh' (Kd.R_lt ((a1_ HO220.out))) k_ hk,Kd.freshB (g:=gb211) (o:= .cells #[.int .i64 a1_0, .int .i64 a1_1, .int .i64 a1_2] 33 (0,0)) ((a5_ BK211.out)) k_ hk⟩))
   (case aO=>exact((a1_ HO217.out)))
   (case aS=>exact(below_size ((a3_ GE211.out))))
   (case aL=>have:=LMc4.out;omega)
   intro v222 w14 ho hb hg hat
   rw[← Ny221.out]at ho
   have n0_:=am_ (blk_grown (g:=gb211) (o:= .cells #[.int .i64 a1_0, .int .i64 a1_1, .int .i64 a1_2] 33 (0,0)) ((a5_ BK211.out)) hg (Kd.R_away HO217.out (fun _ hk=>hk.2)))
   have n1_:=am_ (Kd.R_after (ok:=(fun k_=>k_≠gb211)) ((a49_ HO220.out)) hg hat)
   have n2_:=am_ (hb)
   have n3_:=am_ (ho)
   clear BK211 HO220 HB HO217
   have BK211:=n0_
   have HO220:=n1_
   have HB:=n2_
   have HO223:=n3_
   clear n0_ n1_ n2_ n3_ ho hb hg hat
   obtain⟨Ao16,co16,eo16⟩:=Kd.R_slice HO223.out
   (first|subst eo16|(injection eo16 with f1_ f2_ f3_;have f4_:=f1_.symm;have f5_:=f3_.symm;clear f1_ f2_ f3_;subst f4_;subst f5_))
   refine hK.out _ _ ⟨(blk_cell BK211.out 0).trans rfl,(blk_cell BK211.out 1).trans rfl,(blk_cell BK211.out 2).trans rfl⟩ (fun hHeld=>?_)
   clear hK K
   refine norm_ (a':=?_) ?_ ?_
   rotate_left
   ·show Act.put _ (some 11) _=_
    simp only[Act.put,pu_]
    rfl
   refine one_ (i:=6) (N:=some 12) #[true,true,true,true,true,true,true,false,false,false,false] rfl rfl (one_of HT_.out (by kernel_rfl)) (by decide) (fun K hK=>?_)
   refine goes_ Tryd.func95 (by kernel_rfl) rfl #[.slice Ao16 y221.length co16] (by rfl) rfl rfl gd_ ?_
   with_reducible refine(spec_shSorted.calls k _ _ y221 t224 t225 _ ?side1 ?side2 A5.out).mono ?_
   (case side1=>exact(a12_ HO223.out))
   (case side2=>exact(Kd.R_reads' HO223.out).2.1)
   rintro e w17 ⟨v226,rfl,ho0,hb⟩
   refine⟨_,rfl,?_⟩
   have HO227:=am_ (Kd.R_lower (Kd.R_newB (Kd.R_new' (Kd.R_new' ho0 (Kd.R_lt ((a1_ HO220.out)))) (Kd.R_lt ((a1_ HO223.out)))) (g:=gb211) (o:= .cells #[.int .i64 a1_0, .int .i64 a1_1, .int .i64 a1_2] 33 (0,0)) ((a5_ BK211.out))) (below_size ((a3_ GE211.out))))
   replace HO220:=am_ (Kd.R_elder' ((a1_ HO220.out)) (Kd.R_base ho0) hb)
   replace HO223:=am_ (Kd.R_elder' ((a1_ HO223.out)) (Kd.R_base ho0) hb)
   replace BK211:=am_ (blk_below (g:=gb211) (o:= .cells #[.int .i64 a1_0, .int .i64 a1_1, .int .i64 a1_2] 33 (0,0)) ((a5_ BK211.out)) hb)
   replace HB:=am_ (below_step ((a3_ GE211.out)) hb)
   (try clear hb)
   (try clear hb2)
   (try clear hk)
   (try clear hi)
   (try clear ho0)
   refine hK.out _ _ ⟨(blk_cell BK211.out 0).trans rfl,(blk_cell BK211.out 1).trans rfl,(blk_cell BK211.out 2).trans rfl⟩ (fun hHeld=>?_)
   clear hK K
   refine norm_ (a':=?_) ?_ ?_
   rotate_left
   ·show Act.put _ (some 12) _=_
    simp only[Act.put,pu_]
    rfl
   refine pure_ (i:=7) (N:=some 13) (v:=?_) (a':=?_) #[true,true,true,true,true,true,true,true,false,false,false] rfl rfl (any_of HT_.out (by kernel_rfl)) (fun _ _ _ h=>h) (Or.inl ⟨by rfl,?_⟩) ?_ ?_
   rotate_left
   ·intro w'
    go_simp
    with_reducible rfl
   rotate_left
   ·simp only[Act.put,pu_]
    rfl
   refine pure_ (i:=8) (N:=some 14) (v:=?_) (a':=?_) #[true,true,true,true,true,true,true,true,true,false,false] rfl rfl (any_of HT_.out (by kernel_rfl)) (fun _ _ _ h=>h) (Or.inl ⟨by rfl,?_⟩) ?_ ?_
   rotate_left
   ·intro w'
    go_simp
    with_reducible rfl
   rotate_left
   ·simp only[Act.put,pu_]
    rfl
   refine pure_ (i:=9) (N:=some 4) (v:=?_) (a':=?_) #[true,true,true,true,true,true,true,true,true,true,false] rfl rfl (any_of HT_.out (by kernel_rfl)) (fun _ _ _ h=>h) (Or.inl ⟨by rfl,?_⟩) ?_ ?_
   rotate_left
   ·intro w'
    go_simp
    with_reducible rfl
   rotate_left
   ·simp only[Act.put,pu_]
    rfl
   refine pure_ (i:=10) (N:=some 5) (v:=?_) (a':=?_) #[true,true,true,true,true,true,true,true,true,true,true] rfl rfl (any_of HT_.out (by kernel_rfl)) (fun _ _ _ h=>h) (Or.inl ⟨by rfl,?_⟩) ?_ ?_
   rotate_left
   ·intro w'
    go_simp
    with_reducible rfl
   rotate_left
   ·simp only[Act.put,pu_]
    rfl
   refine done_ (done_of HT_.out (by kernel_rfl)) ?_
   try go_wp2
   go_ret2
   exact⟨_,a8_,(a36_ HO227.out),(a3_ GE211.out)⟩
  ·rw[if_neg c4]at H
   exact absurd H (by simp)
 ·rw[if_neg c3]at H
  exact absurd H (by simp)

/-! ### spec_l1Cur_sheet: function 52 -/
mutual
def spec_l1Cur_sheet.l0:Nat→List (S33)→List Int→Int→Int→Option ((List (S33))×Int×Int)
 | 0,_,_,_,_=>none
 | k+1,x3,x1000,x1001,x1002=>if(x3.length:Int)<60 then((spec_l1Cur_pick.f x1000 x1001 x1002 5).bind fun bt231=>(if x3.length<5864062014805 then(spec_l1Cur_sheet.l0 k (x3 ++ [(⟨3*((x3.length:Int) % 5),wrap64 (6*(wrap64 ((x3.length:Int) / 5))),wrap64 ((wrap64 ((wrap64 (6*(wrap64 ((x3.length:Int) / 5))))+1))+bt231.1)⟩:S33)]) x1000 bt231.2.1 bt231.2.2) else(none))) else(some (x3,x1001,x1002))
def spec_l1Cur_sheet.l1:Nat→List (S33)→Int→Int→List Int→Int→Int→Option ((List (S33))×Int×Int)
 | 0,_,_,_,_,_,_=>none
 | k+1,x3,x5,x6,x1000,x1001,x1002=>if(x3.length:Int)<x5 then(spec_l1Cur_sheet.j2 k x3 x5 x6 (decide (x6<60)) x1000 x1001 x1002) else(spec_l1Cur_sheet.j2 k x3 x5 x6 false x1000 x1001 x1002)
def spec_l1Cur_sheet.j2:Nat→List (S33)→Int→Int→Bool→List Int→Int→Int→Option ((List (S33))×Int×Int)
 | 0,_,_,_,_,_,_,_=>none
 | k+1,x3,x5,x6,x42,x1000,x1001,x1002=>if x42=true then((spec_l1Cur_hole.f x1000 x1001 x1002).bind fun bt240=>((spec_shWith.f k x3 bt240.1 bt240.2.1 bt240.2.2.1).bind fun bt245=>(if bt245.2=true then(spec_l1Cur_sheet.l1 k bt245.1 x5 (wrap64 (x6+1)) x1000 bt240.2.2.2.1 bt240.2.2.2.2) else(spec_l1Cur_sheet.l1 k x3 x5 (wrap64 (x6+1)) x1000 bt240.2.2.2.1 bt240.2.2.2.2)))) else(some (x3,x1001,x1002))
end
def spec_l1Cur_sheet.f (k:Nat) (s0_0:List Int) (s0_1:Int) (s0_2:Int):Option ((List (S33))×Int×Int):=(spec_l1Cur_one.f s0_0 s0_1 s0_2 24).bind fun bt228=>(if bt228.1=true then(spec_l1Cur_sheet.l0 k ([]:List (S33)) s0_0 bt228.2.1 bt228.2.2) else((spec_l1Cur_pick.f s0_0 bt228.2.1 bt228.2.2 9).bind fun bt237=>(spec_l1Cur_sheet.l1 k ([]:List (S33)) bt237.1 0 s0_0 bt237.2.1 bt237.2.2)))
theorem spec_l1Cur_sheet.mono_l:∀k,(∀y0 y1 y2 y3,LeO (spec_l1Cur_sheet.l0 k y0 y1 y2 y3) (spec_l1Cur_sheet.l0 (k+1) y0 y1 y2 y3))∧(∀y0 y1 y2 y3 y4 y5,LeO (spec_l1Cur_sheet.l1 k y0 y1 y2 y3 y4 y5) (spec_l1Cur_sheet.l1 (k+1) y0 y1 y2 y3 y4 y5))∧(∀y0 y1 y2 y3 y4 y5 y6,LeO (spec_l1Cur_sheet.j2 k y0 y1 y2 y3 y4 y5 y6) (spec_l1Cur_sheet.j2 (k+1) y0 y1 y2 y3 y4 y5 y6))
 | 0=>⟨fun _ _ _ _ r h=>by simp[spec_l1Cur_sheet.l0]at h,fun _ _ _ _ _ _ r h=>by simp[spec_l1Cur_sheet.l1]at h,fun _ _ _ _ _ _ _ r h=>by simp[spec_l1Cur_sheet.j2]at h⟩
 | k+1=>by
  obtain⟨ih0,ih1,ih2⟩:=spec_l1Cur_sheet.mono_l k
  refine⟨?_,?_,?_⟩
  intros
  unfold spec_l1Cur_sheet.l0
  rotate_left
  intros
  unfold spec_l1Cur_sheet.l1
  rotate_left
  intros
  unfold spec_l1Cur_sheet.j2
  rotate_left
  all_goals repeat' first|(with_reducible first|exact ih0 _ _ _ _|exact ih1 _ _ _ _ _ _|exact ih2 _ _ _ _ _ _ _|exact spec_shWith.mono _ _ _ _ _|exact LeO.refl _|exact LeO.none _|refine LeO.ite ?_ ?_|refine LeO.bind ?_ (fun _=>?_))|exact ih0 _ _ _ _|exact ih1 _ _ _ _ _ _|exact ih2 _ _ _ _ _ _ _|exact spec_shWith.mono _ _ _ _ _|exact LeO.none _|refine LeO.ite ?_ ?_|refine LeO.bind ?_ (fun _=>?_)
theorem spec_l1Cur_sheet.mono:∀a0 a1 a2 k,LeO (spec_l1Cur_sheet.f k a0 a1 a2) (spec_l1Cur_sheet.f (k+1) a0 a1 a2):=by
 intro a0 a1 a2 k
 obtain⟨ih0,ih1,ih2⟩:=spec_l1Cur_sheet.mono_l k
 unfold spec_l1Cur_sheet.f
 repeat' first
  |(with_reducible exact ih0 _ _ _ _)
  |(with_reducible exact ih1 _ _ _ _ _ _)
  |(with_reducible exact ih2 _ _ _ _ _ _ _)
  |(with_reducible exact spec_shWith.mono _ _ _ _ _)
  |(with_reducible exact LeO.refl _)
  |(with_reducible exact LeO.none _)
  |(with_reducible refine LeO.ite ?_ ?_)
  |(with_reducible refine LeO.bind ?_ (fun _=>?_))
  |exact ih0 _ _ _ _
  |exact ih1 _ _ _ _ _ _
  |exact ih2 _ _ _ _ _ _ _
  |exact spec_shWith.mono _ _ _ _ _
  |exact LeO.none _
   | refine LeO.ite ?_ ?_
   | refine LeO.bind ?_ (fun _=>?_)
set_option maxHeartbeats 8000000 in
set_option maxRecDepth 100000 in
theorem spec_l1Cur_sheet.calls (k:Nat) (g:Nat) (s0_0:List Int) (s0_1:Int) (s0_2:Int) (r1:List (S33)) (r2:Int) (r3:Int) (w0 w:World) (hI:IsS55 w0 w g s0_0 s0_1 s0_2) (hB:Below w0.heap.size w0 w) (h:spec_l1Cur_sheet.f k s0_0 s0_1 s0_2=some (r1,r2,r3)) :
 Calls Tryd.prog 52 #[.pointer (some ⟨g,0,none⟩)] w fun e w'=>∃v0_:Value,e = .returned (v0_)∧Kd.R k33 33 w' w.heap.size (fun _=>True) v0_ r1∧IsS55 w0 w' g s0_0 r2 r3∧Below w0.heap.size w0 w'∧KeepBut w w' g none:=by
 have hu33:=Tryd.underlying33
 have HI0:=am_ hI
 have HK:=am_ (KeepBut.refl w g none)
 have HL:=am_ hB.size
 clear hI
 have HW0:=am_ hB.size
 have HB:=am_ hB
 clear hB
 have H:((spec_l1Cur_one.f s0_0 s0_1 s0_2 24).bind fun bt228=>(if bt228.1=true then(spec_l1Cur_sheet.l0 k ([]:List (S33)) s0_0 bt228.2.1 bt228.2.2) else((spec_l1Cur_pick.f s0_0 bt228.2.1 bt228.2.2 9).bind fun bt237=>(spec_l1Cur_sheet.l1 k ([]:List (S33)) bt237.1 0 s0_0 bt237.2.1 bt237.2.2))))=some (r1,r2,r3):=h
 clear h
 obtain⟨⟨t228,t229,t230⟩,A2,H⟩:=bo_ H
 try dsimp only at H
 by_cases c3:t228=true
 ·subst c3
  replace H:(spec_l1Cur_sheet.l0 k ([]:List (S33)) s0_0 t229 t230)=some (r1,r2,r3):=by rw[if_pos rfl]at H;exact H
  have H':=am_ H
  clear H
  go_enter Tryd.func52,Tryd.ntmps52
  go_wp2_with (first|((with_reducible refine gate_callee (f:=61) rfl ?_);refine goesL_ (some 10) rfl rfl Tryd.func61 (by kernel_rfl) rfl #[.pointer (some ⟨g,0,none⟩), .int .i64 24] rfl gd_ ?_;(with_reducible refine(spec_l1Cur_one.calls g s0_0 s0_1 s0_2 24 true t229 t230 w0 _ ?side1 ?side2 A2.out).mono ?_);(case side1=>exact(a2_ HI0.out));(case side2=>exact(a4_ HI0.out));rintro e w4 ⟨rfl,hi,hb,hk⟩;refine⟨_,rfl,?_⟩;replace HK:=am_ (KeepBut.trans (a6_) hk (.inl rfl));replace HB:=am_ (hb);replace HI0:=am_ (hi);(try clear hb);(try clear hb2);(try clear hk);(try clear hi)))
  (try simp only[Act.put,List.setIfInBounds_toArray,List.set_cons_zero,List.set_cons_succ])
  go_loopg [3] k (fun kq v3 w'=>∃(x3_1:List (S33)) (x1001_1:Int) (x1002_1:Int),Aside0 (spec_l1Cur_sheet.l0 kq x3_1 s0_0 x1001_1 x1002_1=some (r1,r2,r3))∧Aside0 (kq≤k)∧Aside0 (Kd.R k33 33 w' w.heap.size (fun _=>True) v3 x3_1)∧Aside0 (IsS55 w0 w' g s0_0 x1001_1 x1002_1)∧Aside0 (KeepBut w w' g none)∧Aside0 (Below w0.heap.size w0 w'))
  case atStart=>exact⟨(([]:List (S33))),(t229),(t230),H',⟨Nat.le_refl _⟩,⟨a29_⟩,⟨(a2_ HI0.out)⟩,⟨a6_⟩,⟨(a4_ HI0.out)⟩⟩
  case round=>
   clear H'
   try clear p2
   try clear c3
   obtain⟨x3_1,x1001_1,x1002_1,HA,HK1,HO_3,HI0,HK,HB⟩:=hrel
   cases gk with
   | zero=>exact absurd HA.out (by simp[spec_l1Cur_sheet.l0])
   | succ k1=>
    have H:=HA.out
    clear HA
    simp only[spec_l1Cur_sheet.l0]at H
    by_cases c5:(x3_1.length:Int)<60
    ·rw[if_pos c5]at H
     have c5b0:decide ((x3_1.length:Int)<60)=true:=decide_eq_true c5
     have c5b1:decide (x3_1.length<60)=true:=decide_eq_true (by omega)
     clear c5
     obtain⟨⟨t231,t232,t233⟩,A6,H⟩:=bo_ H
     try dsimp only at H
     by_cases c7:x3_1.length<5864062014805
     ·rw[if_pos c7]at H
      have LMc7:=am_ c7
      clear c7
      obtain⟨y234,hy234⟩:∃y_:List (S33),y_=(x3_1 ++ [(⟨3*((x3_1.length:Int) % 5),wrap64 (6*(wrap64 ((x3_1.length:Int) / 5))),wrap64 ((wrap64 ((wrap64 (6*(wrap64 ((x3_1.length:Int) / 5))))+1))+t231)⟩:S33)]):=⟨_,rfl⟩
      replace H:(spec_l1Cur_sheet.l0 k1 y234 s0_0 t232 t233)=some (r1,r2,r3):=by first|(rw[hy234];with_reducible exact H)|(have H2_:=(Option.bind_some _ _).symm.trans H;rw[hy234];with_reducible exact H2_)|(have H2_:=(Option.bind_some _ _).symm.trans H;with_reducible exact H2_) | with_reducible exact H|(rw[hy234];exact H)|exact H
      have Ny234:=am_ hy234
      clear hy234
      have H':=am_ H
      clear H
      obtain⟨Ao8,co8,eo8⟩:=Kd.R_slice HO_3.out
      subst eo8
      go_wp2_with (first|((with_reducible refine gate_callee (f:=54) rfl ?_);refine goesL_ (some 27) rfl rfl Tryd.func54 (by kernel_rfl) rfl #[.pointer (some ⟨g,0,none⟩), .int .i64 5] rfl gd_ ?_;(with_reducible refine(spec_l1Cur_pick.calls g s0_0 x1001_1 x1002_1 5 t231 t232 t233 w0 _ ?side1 ?side2 A6.out).mono ?_);(case side1=>exact(a2_ HI0.out));(case side2=>exact(a4_ HI0.out));rintro e w9 ⟨rfl,hi,hb,hk⟩;refine⟨_,rfl,?_⟩;replace HO_3:=am_ (Kd.R_mono (Kd.R_keep (IsS55.apart (show IsS55 w0 _ g s0_0 x1001_1 x1002_1 from(a2_ HI0.out)) ((a1_ HO_3.out)) (by decide)) hk (fun _ h=>h.2)) (fun _ h=>h.1));replace HK:=am_ (KeepBut.trans (a6_) hk (.inl rfl));replace HB:=am_ (hb);replace HI0:=am_ (hi);(try clear hb);(try clear hb2);(try clear hk);(try clear hi))|((with_reducible refine gate_builtin (b:= .append) (xs:= #[.tmp 18, .tmp 30]) rfl ?_);at_builtin;refine Kd.R_append k33 w.heap.size rfl (.tmp 18) (.tmp 30) 24 33 (.agg #[(.int .i64 0),(.int .i64 0),(.int .i64 0)]) 24 rfl Tryd.underlying24 info33 rfl (by decide) (by omega) (.slice Ao8 x3_1.length co8) x3_1 (⟨3*((x3_1.length:Int) % 5),wrap64 (6*(wrap64 ((x3_1.length:Int) / 5))),wrap64 ((wrap64 ((wrap64 (6*(wrap64 ((x3_1.length:Int) / 5))))+1))+t231)⟩:S33) [.int .i64 (3*((x3_1.length:Int) % 5)), .int .i64 (wrap64 (6*(wrap64 ((x3_1.length:Int) / 5)))), .int .i64 (wrap64 ((wrap64 ((wrap64 (6*(wrap64 ((x3_1.length:Int) / 5))))+1))+t231))] (fun _=>True) (fun _=>False) rfl rfl ?aP (fun _ hk=>hk.elim) ?aF ?aO (Below.refl _ _) ?aS ?aL ?_;(case aP=>exact k33_mkM _ _ _ (⟨3*((x3_1.length:Int) % 5),wrap64 (6*(wrap64 ((x3_1.length:Int) / 5))),wrap64 ((wrap64 ((wrap64 (6*(wrap64 ((x3_1.length:Int) / 5))))+1))+t231)⟩:S33));(case aF=>exact(fun _ _=>trivial));(case aO=>exact((a1_ HO_3.out)));(case aS=>exact(keep_size (w:=w) (g:=g) (row:=none) (a6_)));(case aL=>have:=LMc7.out;omega);intro v235 w10 ho hb hg hat;rw[← Ny234.out]at ho;have n0_:=am_ (IsS55.grown ((a2_ HI0.out)) hg (IsS55.own_ne HI0.out HO_3.out (by decide)));have n1_:=am_ (below_weaken ((a4_ HI0.out)) HL.out hb);have n2_:=am_ (KeepBut.trans (a6_) (KeepBut.of_grown hg g) (Kd.R_base2 HO_3.out));have n3_:=am_ (ho);clear HI0 HB HK HO_3;have HI0:=n0_;have HB:=n1_;have HK:=n2_;have HO236:=n3_;clear n0_ n1_ n2_ n3_ ho hb hg hat))
      go_roundg k1
      case measure=>have:=HK1.out;omega
      case rel=>exact⟨(y234),(t232),(t233),H',⟨by have:=HK1.out;omega⟩,⟨(a1_ HO236.out)⟩,⟨(a2_ HI0.out)⟩,⟨a6_⟩,⟨(a4_ HI0.out)⟩⟩
     ·rw[if_neg c7]at H
      exact absurd H (by simp)
    ·rw[if_neg c5]at H
     have c5b0:decide ((x3_1.length:Int)<60)=false:=decide_eq_false c5
     have c5b1:decide (x3_1.length<60)=false:=decide_eq_false (by omega)
     clear c5
     simp only[Option.some.injEq,Prod.mk.injEq]at H
     obtain⟨rfl,rfl,rfl⟩:=H
     obtain⟨Ao11,co11,eo11⟩:=Kd.R_slice HO_3.out
     subst eo11
     go_wp2
     go_ret
     exact⟨_,a8_,(a1_ HO_3.out),(a2_ HI0.out),(a4_ HI0.out),a6_⟩
 ·replace c3:=Bool.eq_false_iff.mpr c3
  subst c3
  replace H:((spec_l1Cur_pick.f s0_0 t229 t230 9).bind fun bt237=>(spec_l1Cur_sheet.l1 k ([]:List (S33)) bt237.1 0 s0_0 bt237.2.1 bt237.2.2))=some (r1,r2,r3):=by rw[if_neg (show ¬(false=true) by decide)]at H;exact H
  obtain⟨⟨t237,t238,t239⟩,A12,H⟩:=bo_ H
  try dsimp only at H
  have H':=am_ H
  clear H
  go_enter Tryd.func52,Tryd.ntmps52
  go_wp2_with (first|((with_reducible refine gate_callee (f:=61) rfl ?_);refine goesL_ (some 10) rfl rfl Tryd.func61 (by kernel_rfl) rfl #[.pointer (some ⟨g,0,none⟩), .int .i64 24] rfl gd_ ?_;(with_reducible refine(spec_l1Cur_one.calls g s0_0 s0_1 s0_2 24 false t229 t230 w0 _ ?side1 ?side2 A2.out).mono ?_);(case side1=>exact(a2_ HI0.out));(case side2=>exact(a4_ HI0.out));rintro e w13 ⟨rfl,hi,hb,hk⟩;refine⟨_,rfl,?_⟩;replace HK:=am_ (KeepBut.trans (a6_) hk (.inl rfl));replace HB:=am_ (hb);replace HI0:=am_ (hi);(try clear hb);(try clear hb2);(try clear hk);(try clear hi))|((with_reducible refine gate_callee (f:=54) rfl ?_);refine goesL_ (some 34) rfl rfl Tryd.func54 (by kernel_rfl) rfl #[.pointer (some ⟨g,0,none⟩), .int .i64 9] rfl gd_ ?_;(with_reducible refine(spec_l1Cur_pick.calls g s0_0 t229 t230 9 t237 t238 t239 w0 _ ?side1 ?side2 A12.out).mono ?_);(case side1=>exact(a2_ HI0.out));(case side2=>exact(a4_ HI0.out));rintro e w14 ⟨rfl,hi,hb,hk⟩;refine⟨_,rfl,?_⟩;replace HK:=am_ (KeepBut.trans (a6_) hk (.inl rfl));replace HB:=am_ (hb);replace HI0:=am_ (hi);(try clear hb);(try clear hb2);(try clear hk);(try clear hi)))
  (try simp only[Act.put,List.setIfInBounds_toArray,List.set_cons_zero,List.set_cons_succ])
  go_loopg [3,6] k (fun kq v3 v6 w'=>∃(x3_1:List (S33)) (x6_1:Int) (x1001_1:Int) (x1002_1:Int),v6 = .int .i64 x6_1∧Aside0 (spec_l1Cur_sheet.l1 kq x3_1 t237 x6_1 s0_0 x1001_1 x1002_1=some (r1,r2,r3))∧Aside0 (kq≤k)∧Aside0 (Kd.R k33 33 w' w.heap.size (fun _=>True) v3 x3_1)∧Aside0 (IsS55 w0 w' g s0_0 x1001_1 x1002_1)∧Aside0 (KeepBut w w' g none)∧Aside0 (Below w0.heap.size w0 w'))
  case atStart=>exact⟨(([]:List (S33))),(0),(t238),(t239),(by first | rfl|(simp;done)|(simp[*];done)),H',⟨Nat.le_refl _⟩,⟨a29_⟩,⟨(a2_ HI0.out)⟩,⟨a6_⟩,⟨(a4_ HI0.out)⟩⟩
  case round=>
   clear H'
   try clear p2
   try clear c3
   try clear c5
   try clear c5b0
   try clear c5b1
   try clear c6
   try clear p6
   try clear c7
   try clear p2
   obtain⟨x3_1,x6_1,x1001_1,x1002_1,rfl,HA,HK1,HO_3,HI0,HK,HB⟩:=hrel
   cases gk with
   | zero=>exact absurd HA.out (by simp[spec_l1Cur_sheet.l1])
   | succ k1=>
    have H:=HA.out
    clear HA
    simp only[spec_l1Cur_sheet.l1]at H
    have HC15:=am_ H
    clear H
    go_upto_region 9 with (fail)
    go_cut [42] (fun v42 wc=>∃(kq:Nat) (x42_14:Bool),v42 = .bool x42_14∧Aside0 (spec_l1Cur_sheet.j2 kq x3_1 t237 x6_1 x42_14 s0_0 x1001_1 x1002_1=some (r1,r2,r3))∧Aside0 (kq≤k1)∧Aside0 (Kd.R k33 33 wc w.heap.size (fun _=>True) u3 x3_1)∧Aside0 (IsS55 w0 wc g s0_0 x1001_1 x1002_1)∧Aside0 (KeepBut w wc g none)∧Aside0 (Below w0.heap.size w0 wc))
    case first=>
     have H:=HC15.out
     clear HC15
     by_cases c16:(x3_1.length:Int)<t237
     ·rw[if_pos c16]at H
      have c16b0:decide ((x3_1.length:Int)<t237)=true:=decide_eq_true c16
      clear c16
      (first|rw[c16b0]|(simp only[i64_w,i32_w];rw[c16b0]) | skip)
      have H':=am_ H
      clear H
      obtain⟨Ao17,co17,eo17⟩:=Kd.R_slice HO_3.out
      subst eo17
      go_wp2
      go_meet
      case rel=>exact⟨_,(decide (x6_1<60)),(by first | rfl|(simp;done)|(simp[*];done)),H',⟨by have:=HK1.out;first | omega|exact Nat.le_refl _⟩,⟨(a1_ HO_3.out)⟩,⟨(a2_ HI0.out)⟩,⟨a6_⟩,⟨(a4_ HI0.out)⟩⟩
     ·rw[if_neg c16]at H
      have c16b0:decide ((x3_1.length:Int)<t237)=false:=decide_eq_false c16
      clear c16
      (first|rw[c16b0]|(simp only[i64_w,i32_w];rw[c16b0]) | skip)
      have H':=am_ H
      clear H
      obtain⟨Ao18,co18,eo18⟩:=Kd.R_slice HO_3.out
      subst eo18
      go_wp2
      go_meet
      case rel=>exact⟨_,(false),(by first | rfl|(simp;done)|(simp[*];done)),H',⟨by have:=HK1.out;first | omega|exact Nat.le_refl _⟩,⟨(a1_ HO_3.out)⟩,⟨(a2_ HI0.out)⟩,⟨a6_⟩,⟨(a4_ HI0.out)⟩⟩
    case rest=>
     clear HC15
     try clear c1
     try clear p2
     try clear c3
     try clear c5
     try clear c5b0
     try clear c5b1
     try clear c6
     try clear p6
     try clear c7
     try clear c16
     try clear c16b0
     try clear p2
     try clear p6
     obtain⟨kq,x42_14,rfl,HA,HJ14,HO_3,HI0,HK,HB⟩:=hcut
     cases kq with
     | zero=>exact absurd HA.out (by simp[spec_l1Cur_sheet.j2])
     | succ kj14=>
      have H:=HA.out
      clear HA
      simp only[spec_l1Cur_sheet.j2]at H
      by_cases c19:x42_14=true
      ·subst c19
       replace H:((spec_l1Cur_hole.f s0_0 x1001_1 x1002_1).bind fun bt240=>((spec_shWith.f kj14 x3_1 bt240.1 bt240.2.1 bt240.2.2.1).bind fun bt245=>(if bt245.2=true then(spec_l1Cur_sheet.l1 kj14 bt245.1 t237 (wrap64 (x6_1+1)) s0_0 bt240.2.2.2.1 bt240.2.2.2.2) else(spec_l1Cur_sheet.l1 kj14 x3_1 t237 (wrap64 (x6_1+1)) s0_0 bt240.2.2.2.1 bt240.2.2.2.2))))=some (r1,r2,r3):=by rw[if_pos rfl]at H;exact H
       obtain⟨⟨t240,t241,t242,t243,t244⟩,A20,H⟩:=bo_ H
       try dsimp only at H
       obtain⟨⟨t245,t248⟩,A21,H⟩:=bo_ H
       try dsimp only at H
       by_cases c22:t248=true
       ·subst c22
        replace H:(spec_l1Cur_sheet.l1 kj14 t245 t237 (wrap64 (x6_1+1)) s0_0 t243 t244)=some (r1,r2,r3):=by rw[if_pos rfl]at H;exact H
        have H':=am_ H
        clear H
        go_wp2_with (first|((with_reducible refine gate_callee (f:=57) rfl ?_);refine goesL_ (some 48) rfl rfl Tryd.func57 (by kernel_rfl) rfl #[.pointer (some ⟨g,0,none⟩)] rfl gd_ ?_;(with_reducible refine(spec_l1Cur_hole.calls g s0_0 x1001_1 x1002_1 t240 t241 t242 t243 t244 w0 _ ?side1 ?side2 A20.out).mono ?_);(case side1=>exact(a2_ HI0.out));(case side2=>exact(a4_ HI0.out));rintro e w23 ⟨rfl,hi,hb,hk⟩;refine⟨_,rfl,?_⟩;replace HO_3:=am_ (Kd.R_mono (Kd.R_keep (IsS55.apart (show IsS55 w0 _ g s0_0 x1001_1 x1002_1 from(a2_ HI0.out)) ((a1_ HO_3.out)) (by decide)) hk (fun _ h=>h.2)) (fun _ h=>h.1));replace HK:=am_ (KeepBut.trans (a6_) hk (.inl rfl));replace HB:=am_ (hb);replace HI0:=am_ (hi);(try clear hb);(try clear hb2);(try clear hk);(try clear hi);obtain⟨Ao24,co24,eo24⟩:=Kd.R_slice HO_3.out;subst eo24)|((with_reducible refine gate_callee (f:=80) rfl ?_);refine goesL_ (some 49) rfl rfl Tryd.func80 (by kernel_rfl) rfl #[.slice Ao24 x3_1.length co24, .agg #[.int .i64 t240, .int .i64 t241, .int .i64 t242]] rfl gd_ ?_;(with_reducible refine(spec_shWith.calls kj14 _ _ x3_1 t240 t241 t242 t245 true _ ?side1 ?side2 A21.out).mono ?_);(case side1=>exact(a12_ HO_3.out));(case side2=>exact(Kd.R_reads' HO_3.out).2.1);rintro e w25 ⟨v246,rfl,ho0,hb⟩;refine⟨_,rfl,?_⟩;have HO247:=am_ (Kd.R_lower (Kd.R_new' ho0 (Kd.R_lt ((a1_ HO_3.out)))) (keep_size (w:=w) (g:=g) (row:=none) (a6_)));replace HO_3:=am_ (Kd.R_elder' ((a1_ HO_3.out)) (Kd.R_base ho0) hb);replace HK:=am_ (KeepBut.trans (a6_) (KeepBut.of_below hb g none) (.inl rfl));replace HB:=am_ (below_step ((a4_ HI0.out)) hb);replace HI0:=am_ (IsS55.below ((a2_ HI0.out)) hb);(try clear hb);(try clear hb2);(try clear hk);(try clear hi);(try clear ho0)))
        go_roundg kj14
        case measure=>have:=HK1.out;have:=HJ14.out;omega
        case rel=>exact⟨(t245),(wrap64 (x6_1+1)),(t243),(t244),(by first | rfl|(simp;done)|(simp[*];done)),H',⟨by have:=HK1.out;have:=HJ14.out;omega⟩,⟨(a36_ HO247.out)⟩,⟨(a2_ HI0.out)⟩,⟨a6_⟩,⟨(a4_ HI0.out)⟩⟩
       ·replace c22:=Bool.eq_false_iff.mpr c22
        subst c22
        replace H:(spec_l1Cur_sheet.l1 kj14 x3_1 t237 (wrap64 (x6_1+1)) s0_0 t243 t244)=some (r1,r2,r3):=by rw[if_neg (show ¬(false=true) by decide)]at H;exact H
        have H':=am_ H
        clear H
        go_wp2_with (first|((with_reducible refine gate_callee (f:=57) rfl ?_);refine goesL_ (some 48) rfl rfl Tryd.func57 (by kernel_rfl) rfl #[.pointer (some ⟨g,0,none⟩)] rfl gd_ ?_;(with_reducible refine(spec_l1Cur_hole.calls g s0_0 x1001_1 x1002_1 t240 t241 t242 t243 t244 w0 _ ?side1 ?side2 A20.out).mono ?_);(case side1=>exact(a2_ HI0.out));(case side2=>exact(a4_ HI0.out));rintro e w26 ⟨rfl,hi,hb,hk⟩;refine⟨_,rfl,?_⟩;replace HO_3:=am_ (Kd.R_mono (Kd.R_keep (IsS55.apart (show IsS55 w0 _ g s0_0 x1001_1 x1002_1 from(a2_ HI0.out)) ((a1_ HO_3.out)) (by decide)) hk (fun _ h=>h.2)) (fun _ h=>h.1));replace HK:=am_ (KeepBut.trans (a6_) hk (.inl rfl));replace HB:=am_ (hb);replace HI0:=am_ (hi);(try clear hb);(try clear hb2);(try clear hk);(try clear hi);obtain⟨Ao27,co27,eo27⟩:=Kd.R_slice HO_3.out;subst eo27)|((with_reducible refine gate_callee (f:=80) rfl ?_);refine goesL_ (some 49) rfl rfl Tryd.func80 (by kernel_rfl) rfl #[.slice Ao27 x3_1.length co27, .agg #[.int .i64 t240, .int .i64 t241, .int .i64 t242]] rfl gd_ ?_;(with_reducible refine(spec_shWith.calls kj14 _ _ x3_1 t240 t241 t242 t245 false _ ?side1 ?side2 A21.out).mono ?_);(case side1=>exact(a12_ HO_3.out));(case side2=>exact(Kd.R_reads' HO_3.out).2.1);rintro e w28 ⟨v246,rfl,ho0,hb⟩;refine⟨_,rfl,?_⟩;have HO247:=am_ (Kd.R_lower (Kd.R_new' ho0 (Kd.R_lt ((a1_ HO_3.out)))) (keep_size (w:=w) (g:=g) (row:=none) (a6_)));replace HO_3:=am_ (Kd.R_elder' ((a1_ HO_3.out)) (Kd.R_base ho0) hb);replace HK:=am_ (KeepBut.trans (a6_) (KeepBut.of_below hb g none) (.inl rfl));replace HB:=am_ (below_step ((a4_ HI0.out)) hb);replace HI0:=am_ (IsS55.below ((a2_ HI0.out)) hb);(try clear hb);(try clear hb2);(try clear hk);(try clear hi);(try clear ho0)))
        go_roundg kj14
        case measure=>have:=HK1.out;have:=HJ14.out;omega
        case rel=>exact⟨(x3_1),(wrap64 (x6_1+1)),(t243),(t244),(by first | rfl|(simp;done)|(simp[*];done)),H',⟨by have:=HK1.out;have:=HJ14.out;omega⟩,⟨(a36_ HO_3.out)⟩,⟨(a2_ HI0.out)⟩,⟨a6_⟩,⟨(a4_ HI0.out)⟩⟩
      ·replace c19:=Bool.eq_false_iff.mpr c19
       subst c19
       replace H:(some (x3_1,x1001_1,x1002_1))=some (r1,r2,r3):=by rw[if_neg (show ¬(false=true) by decide)]at H;exact H
       simp only[Option.some.injEq,Prod.mk.injEq]at H
       obtain⟨rfl,rfl,rfl⟩:=H
       go_wp2
       go_ret
       exact⟨_,a8_,(a1_ HO_3.out),(a2_ HI0.out),(a4_ HI0.out),a6_⟩

/-! ### spec_l1Cur_anyHole: function 72 -/
def spec_l1Cur_anyHole.f (s0_0:List Int) (s0_1:Int) (s0_2:Int):Option (Int×Int×Int×Int×Int):=(spec_l1Cur_hole.f s0_0 s0_1 s0_2).bind fun bt250=>((spec_l1Cur_pick.f s0_0 bt250.2.2.2.1 bt250.2.2.2.2 24).bind fun bt256=>(if bt256.1=0 then((spec_l1Cur_among.f s0_0 bt256.2.1 bt256.2.2 (([(-1),19,20]:List Int))).bind fun bt262=>(some (bt262.1,bt250.2.1,bt250.2.2.1,bt262.2.1,bt262.2.2))) else(if bt256.1=1 then((spec_l1Cur_among.f s0_0 bt256.2.1 bt256.2.2 (([(-1),bt250.2.2.1]:List Int))).bind fun bt268=>(some (bt250.1,bt268.1,bt250.2.2.1,bt268.2.1,bt268.2.2))) else(if bt256.1=2 then((spec_l1Cur_among.f s0_0 bt256.2.1 bt256.2.2 (([bt250.2.1,2000,2001]:List Int))).bind fun bt274=>(some (bt250.1,bt250.2.1,bt274.1,bt274.2.1,bt274.2.2))) else(some (bt250.1,bt250.2.1,bt250.2.2.1,bt256.2.1,bt256.2.2))))))
set_option maxHeartbeats 8000000 in
set_option maxRecDepth 100000 in
theorem spec_l1Cur_anyHole.calls (g:Nat) (s0_0:List Int) (s0_1:Int) (s0_2:Int) (r1:Int) (r2:Int) (r3:Int) (r4:Int) (r5:Int) (w0 w:World) (hI:IsS55 w0 w g s0_0 s0_1 s0_2) (hB:Below w0.heap.size w0 w) (h:spec_l1Cur_anyHole.f s0_0 s0_1 s0_2=some (r1,r2,r3,r4,r5)) :
 Calls Tryd.prog 72 #[.pointer (some ⟨g,0,none⟩)] w fun e w'=>e = .returned (.agg #[.int .i64 r1, .int .i64 r2, .int .i64 r3])∧IsS55 w0 w' g s0_0 r4 r5∧Below w0.heap.size w0 w'∧KeepBut w w' g none:=by
 have hu33:=Tryd.underlying33
 have HI0:=am_ hI
 have HK:=am_ (KeepBut.refl w g none)
 have HL:=am_ hB.size
 clear hI
 have HW0:=am_ hB.size
 have HB:=am_ hB
 clear hB
 have H:((spec_l1Cur_hole.f s0_0 s0_1 s0_2).bind fun bt250=>((spec_l1Cur_pick.f s0_0 bt250.2.2.2.1 bt250.2.2.2.2 24).bind fun bt256=>(if bt256.1=0 then((spec_l1Cur_among.f s0_0 bt256.2.1 bt256.2.2 (([(-1),19,20]:List Int))).bind fun bt262=>(some (bt262.1,bt250.2.1,bt250.2.2.1,bt262.2.1,bt262.2.2))) else(if bt256.1=1 then((spec_l1Cur_among.f s0_0 bt256.2.1 bt256.2.2 (([(-1),bt250.2.2.1]:List Int))).bind fun bt268=>(some (bt250.1,bt268.1,bt250.2.2.1,bt268.2.1,bt268.2.2))) else(if bt256.1=2 then((spec_l1Cur_among.f s0_0 bt256.2.1 bt256.2.2 (([bt250.2.1,2000,2001]:List Int))).bind fun bt274=>(some (bt250.1,bt250.2.1,bt274.1,bt274.2.1,bt274.2.2))) else(some (bt250.1,bt250.2.1,bt250.2.2.1,bt256.2.1,bt256.2.2)))))))=some (r1,r2,r3,r4,r5):=h
 clear h
 obtain⟨⟨t250,t251,t252,t253,t254⟩,A2,H⟩:=bo_ H
 try dsimp only at H
 obtain⟨⟨t256,t257,t258⟩,A3,H⟩:=bo_ H
 try dsimp only at H
 by_cases c4:t256=0
 ·rw[if_pos c4]at H
  have c4b0:(t256 == 0)=true:=beq_iff_eq.mpr c4
  have c4b1:(t256 != 0)=false:=bne_eq_false_iff_eq.mpr c4
  clear c4
  obtain⟨y259,hy259⟩:∃y_:List Int,y_=(([(-1),19,20]:List Int)):=⟨_,rfl⟩
  replace H:((spec_l1Cur_among.f s0_0 t257 t258 y259).bind fun bt262=>(some (bt262.1,t251,t252,bt262.2.1,bt262.2.2)))=some (r1,r2,r3,r4,r5):=by first|(rw[hy259];with_reducible exact H)|(have H2_:=(Option.bind_some _ _).symm.trans H;rw[hy259];with_reducible exact H2_)|(have H2_:=(Option.bind_some _ _).symm.trans H;with_reducible exact H2_) | with_reducible exact H|(rw[hy259];exact H)|exact H
  have Ny259:=am_ hy259
  clear hy259
  obtain⟨⟨t262,t263,t264⟩,A5,H⟩:=bo_ H
  try dsimp only at H
  simp only[Option.some.injEq,Prod.mk.injEq]at H
  obtain⟨rfl,rfl,rfl,rfl,rfl⟩:=H
  go_enter Tryd.func72,Tryd.ntmps72
  go_wp2_with (first|((with_reducible refine gate_dst (N:=2) rfl ?_);refine box_event ?hg (N:=2) ?hd (cs:= #[.int .i64 0, .int .i64 0, .int .i64 0]) (t:=33) ?hr ?_;(case hd=>rfl);(case hg=>rfl);(case hr=>exact hr_);intro gb249 hg w6 hbox hb;replace HB:=am_ (below_step ((a4_ HI0.out)) hb);have BK249:=am_ (hbox);have GW249:=am_ ((by rw[hg];exact(keep_size (w:=w) (g:=g) (row:=none) (a6_)):w.heap.size≤gb249));have GE249:=am_ ((Nat.le_trans HW0.out (by rw[hg];exact(keep_size (w:=w) (g:=g) (row:=none) (a6_)):w.heap.size≤gb249):w0.heap.size≤gb249));replace HK:=am_ (KeepBut.trans (a6_) (KeepBut.of_below hb g none) (.inl rfl));have NB0_249:=am_ ((by rw[hg];exact Nat.ne_of_lt (IsS55.lt (show IsS55 w0 _ g s0_0 s0_1 s0_2 from(a2_ HI0.out))):g≠gb249));have NB249_0:=am_ ((by rw[hg];exact Nat.ne_of_gt (IsS55.lt (show IsS55 w0 _ g s0_0 s0_1 s0_2 from(a2_ HI0.out))):gb249≠g));replace HI0:=am_ (IsS55.below ((a2_ HI0.out)) hb);clear hb hbox hg)|((with_reducible refine gate_callee (f:=57) rfl ?_);refine goesL_ (some 5) rfl rfl Tryd.func57 (by kernel_rfl) rfl #[.pointer (some ⟨g,0,none⟩)] rfl gd_ ?_;(with_reducible refine(spec_l1Cur_hole.calls g s0_0 s0_1 s0_2 t250 t251 t252 t253 t254 w0 _ ?side1 ?side2 A2.out).mono ?_);(case side1=>exact(a7_ HI0.out NB0_249.out));(case side2=>exact(a17_ HI0.out GE249.out));rintro e w7 ⟨rfl,hi,hb,hk⟩;refine⟨_,rfl,?_⟩;replace BK249:=am_ (KeepBut.blk hk (g':=gb249) (o:= .cells #[.int .i64 0, .int .i64 0, .int .i64 0] 33 (0,0)) ((a5_ BK249.out)) NB249_0.out (by simp));replace HK:=am_ (KeepBut.trans ((a16_ GW249.out)) hk (.inl rfl));replace HB:=am_ (hb);replace HI0:=am_ (hi);(try clear hb);(try clear hb2);(try clear hk);(try clear hi))|((with_reducible refine gate_dst (N:=3) rfl ?_);refine box_event ?hg (N:=3) ?hd (cs:= #[.int .i64 0, .int .i64 0, .int .i64 0]) (t:=33) ?hr ?_;(case hd=>rfl);(case hg=>rfl);(case hr=>exact hr_);intro gb255 hg w8 hbox hb;replace HB:=am_ (below_step ((a17_ HI0.out GE249.out)) hb);have BK255:=am_ (hbox);have GW255:=am_ ((by rw[hg];exact(keep_size (w:=w) (g:=g) (row:=none) ((a16_ GW249.out))):w.heap.size≤gb255));have GE255:=am_ ((Nat.le_trans HW0.out (by rw[hg];exact(keep_size (w:=w) (g:=g) (row:=none) ((a16_ GW249.out))):w.heap.size≤gb255):w0.heap.size≤gb255));replace HK:=am_ (KeepBut.trans ((a16_ GW249.out)) (KeepBut.of_below hb g none) (.inl rfl));have NB249_255:=am_ ((by rw[hg];exact Nat.ne_of_lt (blk_lt (g:=gb249) (o:= .cells #[.int .i64 0, .int .i64 0, .int .i64 0] 33 (0,0)) ((a5_ BK249.out))):gb249≠gb255));have NB255_249:=am_ ((by rw[hg];exact Nat.ne_of_gt (blk_lt (g:=gb249) (o:= .cells #[.int .i64 0, .int .i64 0, .int .i64 0] 33 (0,0)) ((a5_ BK249.out))):gb255≠gb249));replace BK249:=am_ (blk_below (g:=gb249) (o:= .cells #[.int .i64 0, .int .i64 0, .int .i64 0] 33 (0,0)) ((a5_ BK249.out)) hb);have NB0_255:=am_ ((by rw[hg];exact Nat.ne_of_lt (IsS55.lt (show IsS55 w0 _ g s0_0 t253 t254 from(a7_ HI0.out NB0_249.out))):g≠gb255));have NB255_0:=am_ ((by rw[hg];exact Nat.ne_of_gt (IsS55.lt (show IsS55 w0 _ g s0_0 t253 t254 from(a7_ HI0.out NB0_249.out))):gb255≠g));replace HI0:=am_ (IsS55.below ((a7_ HI0.out NB0_249.out)) hb);clear hb hbox hg;have hnb9:=NB255_249.out;have hnc9:=NB249_255.out;have hnb10:=NB255_0.out;have hnc10:=NB0_255.out;have hcz11_0:w8.cell? ⟨gb255,0,none⟩=some (.int .i64 0):=(blk_cell BK255.out 0).trans rfl;have hcz11_1:w8.cell? ⟨gb255,1,none⟩=some (.int .i64 0):=(blk_cell BK255.out 1).trans rfl;have hcz11_2:w8.cell? ⟨gb255,2,none⟩=some (.int .i64 0):=(blk_cell BK255.out 2).trans rfl;have hfz11_0:=blk_frozen BK255.out 0;have hfz11_1:=blk_frozen BK255.out 1;have hfz11_2:=blk_frozen BK255.out 2)|((with_reducible refine gate_callee (f:=54) rfl ?_);refine goesL_ (some 7) rfl rfl Tryd.func54 (by kernel_rfl) rfl #[.pointer (some ⟨g,0,none⟩), .int .i64 24] rfl gd_ ?_;(with_reducible refine(spec_l1Cur_pick.calls g s0_0 t253 t254 24 t256 t257 t258 w0 _ ?side1 ?side2 A3.out).mono ?_);(case side1=>exact(a9_ HI0.out NB0_249.out NB0_255.out));(case side2=>exact(a20_ HI0.out GE249.out GE255.out));rintro e w12 ⟨rfl,hi,hb,hk⟩;refine⟨_,rfl,?_⟩;replace BK249:=am_ (KeepBut.blk hk (g':=gb249) (o:= .cells #[.int .i64 0, .int .i64 0, .int .i64 0] 33 (0,0)) ((a11_ NB249_255.out BK249.out)) NB249_0.out (by simp));replace BK255:=am_ (KeepBut.blk hk (g':=gb255) (o:= .cells #[.int .i64 t250, .int .i64 t251, .int .i64 t252] 33 (0,0)) ((a18_ BK255.out)) NB255_0.out (by simp));replace HK:=am_ (KeepBut.trans ((a19_ GW249.out GW255.out)) hk (.inl rfl));replace HB:=am_ (hb);replace HI0:=am_ (hi);(try clear hb);(try clear hb2);(try clear hk);(try clear hi))|((with_reducible refine gate_dst (N:=11) rfl ?_);refine Kd.R_lit (Kd.int .i64) _ 3 ?hg (N:=11) ?hd (xs:=([(-1),19,20]:List Int)) (inner:=[.int .i64 (-1), .int .i64 19, .int .i64 20]) (ok:=fun _=>True) (okp:=fun _=>True) ?hr ?hp (fun _ hk=>hk) trivial (Below.refl _ _) (Nat.le_refl _) (by simp) ?_;(case hd=>rfl);(case hg=>rfl);(case hr=>exact hr_);(case hp=>exact(Reps.one (show Kd.M (Kd.int .i64) _ _ _ (-1) [.int .i64 (-1)] from rfl) (Reps.one (show Kd.M (Kd.int .i64) _ _ _ 19 [.int .i64 19] from rfl) (Reps.one (show Kd.M (Kd.int .i64) _ _ _ 20 [.int .i64 20] from rfl) (Reps.none _ _)))));intro v260 w13 ho14 hb hg_ hnew_;clear hg_ hnew_;(first|rw[← Ny259.out]at ho14|(simp only[Int.reduceToNat]at ho14;rw[← Ny259.out]at ho14));have HO261:=am_ (Kd.R_lower ho14 (keep_size (w:=w) (g:=g) (row:=none) ((a19_ GW249.out GW255.out))));replace BK249:=am_ (blk_below (g:=gb249) (o:= .cells #[.int .i64 0, .int .i64 0, .int .i64 0] 33 (0,0)) ((a5_ BK249.out)) hb);replace BK255:=am_ (blk_below (g:=gb255) (o:= .cells #[.int .i64 t250, .int .i64 t251, .int .i64 t252] 33 (0,0)) ((a5_ BK255.out)) hb);replace HK:=am_ (KeepBut.trans ((a19_ GW249.out GW255.out)) (KeepBut.of_below hb g none) (.inl rfl));replace HB:=am_ (below_step ((a20_ HI0.out GE249.out GE255.out)) hb);replace HI0:=am_ (IsS55.below ((a9_ HI0.out NB0_249.out NB0_255.out)) hb);clear hb ho14;obtain⟨Ao15,co15,eo15⟩:=Kd.R_slice HO261.out;subst eo15)|((with_reducible refine gate_callee (f:=58) rfl ?_);refine goesL_ (some 12) rfl rfl Tryd.func58 (by kernel_rfl) rfl #[.pointer (some ⟨g,0,none⟩), .slice Ao15 y259.length co15] rfl gd_ ?_;(with_reducible refine(spec_l1Cur_among.calls g s0_0 t257 t258 _ _ y259 t262 t263 t264 w0 _ ?side1 ?side2 ?side3 ?side4 ?side5 A5.out).mono ?_);(case side1=>exact(a9_ HI0.out NB0_249.out NB0_255.out));(case side2=>exact(a20_ HI0.out GE249.out GE255.out));(case side3=>exact(a12_ HO261.out));(case side4=>exact(Kd.R_reads' HO261.out).2.1);(case side5=>exact far_slice (IsS55.own_ne HI0.out HO261.out (by decide)));rintro e w16 ⟨rfl,hi,hb,hk⟩;refine⟨_,rfl,?_⟩;replace BK249:=am_ (KeepBut.blk hk (g':=gb249) (o:= .cells #[.int .i64 0, .int .i64 0, .int .i64 0] 33 (0,0)) ((a5_ BK249.out)) NB249_0.out (by simp));replace BK255:=am_ (KeepBut.blk hk (g':=gb255) (o:= .cells #[.int .i64 t250, .int .i64 t251, .int .i64 t252] 33 (0,0)) ((a5_ BK255.out)) NB255_0.out (by simp));replace HO261:=am_ (Kd.R_mono (Kd.R_keep (IsS55.apart (show IsS55 w0 _ g s0_0 t257 t258 from(a9_ HI0.out NB0_249.out NB0_255.out)) ((a1_ HO261.out)) (by decide)) hk (fun _ h=>h.2)) (fun _ h=>h.1));replace HK:=am_ (KeepBut.trans ((a19_ GW249.out GW255.out)) hk (.inl rfl));replace HB:=am_ (hb);replace HI0:=am_ (hi);(try clear hb);(try clear hb2);(try clear hk);(try clear hi);have hcz17_0:w16.cell? ⟨gb255,0,none⟩=some (.int .i64 t250):=(blk_cell BK255.out 0).trans rfl;have hcz17_1:w16.cell? ⟨gb255,1,none⟩=some (.int .i64 t251):=(blk_cell BK255.out 1).trans rfl;have hcz17_2:w16.cell? ⟨gb255,2,none⟩=some (.int .i64 t252):=(blk_cell BK255.out 2).trans rfl;have hfz17_0:=blk_frozen BK255.out 0;have hfz17_1:=blk_frozen BK255.out 1;have hfz17_2:=blk_frozen BK255.out 2;have hnb18:=NB249_0.out;have hnc18:=NB0_249.out;have hcz19_0:w16.cell? ⟨gb249,0,none⟩=some (.int .i64 0):=(blk_cell BK249.out 0).trans rfl;have hcz19_1:w16.cell? ⟨gb249,1,none⟩=some (.int .i64 0):=(blk_cell BK249.out 1).trans rfl;have hcz19_2:w16.cell? ⟨gb249,2,none⟩=some (.int .i64 0):=(blk_cell BK249.out 2).trans rfl;have hfz19_0:=blk_frozen BK249.out 0;have hfz19_1:=blk_frozen BK249.out 1;have hfz19_2:=blk_frozen BK249.out 2))
  refine bodyPost_ret (results_cell_row rfl _ _ gb249 33 #[.int .i64 t262, .int .i64 t251, .int .i64 t252] (0,0) _ rfl (by(with_reducible repeat (first|refine blk_drewN ?_ _ | refine blk_drew ?_ | refine blk_alloc ?_ _));refine blk_put (cs:= #[.int .i64 t262, .int .i64 t251, .int .i64 0]) ?_ 2 _ rfl;(with_reducible repeat (first|refine blk_drewN ?_ _ | refine blk_drew ?_ | refine blk_alloc ?_ _));refine blk_put (cs:= #[.int .i64 t262, .int .i64 0, .int .i64 0]) ?_ 1 _ rfl;(with_reducible repeat (first|refine blk_drewN ?_ _ | refine blk_drew ?_ | refine blk_alloc ?_ _));refine blk_put (cs:= #[.int .i64 0, .int .i64 0, .int .i64 0]) ?_ 0 _ rfl;(with_reducible repeat (first|refine blk_drewN ?_ _ | refine blk_drew ?_ | refine blk_alloc ?_ _));refine blk_far ?_ NB249_255.out _;(with_reducible repeat (first|refine blk_drewN ?_ _ | refine blk_drew ?_ | refine blk_alloc ?_ _));exact BK249.out) Tryd.underlying33 rfl (by kernel_rfl)) rfl ?_
  exact⟨a8_,(a9_ HI0.out NB0_249.out NB0_255.out),(a20_ HI0.out GE249.out GE255.out),(a19_ GW249.out GW255.out)⟩
 ·rw[if_neg c4]at H
  have c4b0:(t256 == 0)=false:=beq_eq_false_iff_ne.mpr c4
  have c4b1:(t256 != 0)=true:=bne_iff_ne.mpr c4
  by_cases c20:t256=1
  ·rw[if_pos c20]at H
   have c20b0:(t256 == 1)=true:=beq_iff_eq.mpr c20
   have c20b1:(t256 != 1)=false:=bne_eq_false_iff_eq.mpr c20
   clear c20
   obtain⟨y265,hy265⟩:∃y_:List Int,y_=(([(-1),t252]:List Int)):=⟨_,rfl⟩
   replace H:((spec_l1Cur_among.f s0_0 t257 t258 y265).bind fun bt268=>(some (t250,bt268.1,t252,bt268.2.1,bt268.2.2)))=some (r1,r2,r3,r4,r5):=by first|(rw[hy265];with_reducible exact H)|(have H2_:=(Option.bind_some _ _).symm.trans H;rw[hy265];with_reducible exact H2_)|(have H2_:=(Option.bind_some _ _).symm.trans H;with_reducible exact H2_) | with_reducible exact H|(rw[hy265];exact H)|exact H
   have Ny265:=am_ hy265
   clear hy265
   obtain⟨⟨t268,t269,t270⟩,A21,H⟩:=bo_ H
   try dsimp only at H
   simp only[Option.some.injEq,Prod.mk.injEq]at H
   obtain⟨rfl,rfl,rfl,rfl,rfl⟩:=H
   go_enter Tryd.func72,Tryd.ntmps72
   go_wp2_with (first|((with_reducible refine gate_dst (N:=2) rfl ?_);refine box_event ?hg (N:=2) ?hd (cs:= #[.int .i64 0, .int .i64 0, .int .i64 0]) (t:=33) ?hr ?_;(case hd=>rfl);(case hg=>rfl);(case hr=>exact hr_);intro gb249 hg w22 hbox hb;replace HB:=am_ (below_step ((a4_ HI0.out)) hb);have BK249:=am_ (hbox);have GW249:=am_ ((by rw[hg];exact(keep_size (w:=w) (g:=g) (row:=none) (a6_)):w.heap.size≤gb249));have GE249:=am_ ((Nat.le_trans HW0.out (by rw[hg];exact(keep_size (w:=w) (g:=g) (row:=none) (a6_)):w.heap.size≤gb249):w0.heap.size≤gb249));replace HK:=am_ (KeepBut.trans (a6_) (KeepBut.of_below hb g none) (.inl rfl));have NB0_249:=am_ ((by rw[hg];exact Nat.ne_of_lt (IsS55.lt (show IsS55 w0 _ g s0_0 s0_1 s0_2 from(a2_ HI0.out))):g≠gb249));have NB249_0:=am_ ((by rw[hg];exact Nat.ne_of_gt (IsS55.lt (show IsS55 w0 _ g s0_0 s0_1 s0_2 from(a2_ HI0.out))):gb249≠g));replace HI0:=am_ (IsS55.below ((a2_ HI0.out)) hb);clear hb hbox hg)|((with_reducible refine gate_callee (f:=57) rfl ?_);refine goesL_ (some 5) rfl rfl Tryd.func57 (by kernel_rfl) rfl #[.pointer (some ⟨g,0,none⟩)] rfl gd_ ?_;(with_reducible refine(spec_l1Cur_hole.calls g s0_0 s0_1 s0_2 t250 t251 t252 t253 t254 w0 _ ?side1 ?side2 A2.out).mono ?_);(case side1=>exact(a7_ HI0.out NB0_249.out));(case side2=>exact(a17_ HI0.out GE249.out));rintro e w23 ⟨rfl,hi,hb,hk⟩;refine⟨_,rfl,?_⟩;replace BK249:=am_ (KeepBut.blk hk (g':=gb249) (o:= .cells #[.int .i64 0, .int .i64 0, .int .i64 0] 33 (0,0)) ((a5_ BK249.out)) NB249_0.out (by simp));replace HK:=am_ (KeepBut.trans ((a16_ GW249.out)) hk (.inl rfl));replace HB:=am_ (hb);replace HI0:=am_ (hi);(try clear hb);(try clear hb2);(try clear hk);(try clear hi))|((with_reducible refine gate_dst (N:=3) rfl ?_);refine box_event ?hg (N:=3) ?hd (cs:= #[.int .i64 0, .int .i64 0, .int .i64 0]) (t:=33) ?hr ?_;(case hd=>rfl);(case hg=>rfl);(case hr=>exact hr_);intro gb255 hg w24 hbox hb;replace HB:=am_ (below_step ((a17_ HI0.out GE249.out)) hb);have BK255:=am_ (hbox);have GW255:=am_ ((by rw[hg];exact(keep_size (w:=w) (g:=g) (row:=none) ((a16_ GW249.out))):w.heap.size≤gb255));have GE255:=am_ ((Nat.le_trans HW0.out (by rw[hg];exact(keep_size (w:=w) (g:=g) (row:=none) ((a16_ GW249.out))):w.heap.size≤gb255):w0.heap.size≤gb255));replace HK:=am_ (KeepBut.trans ((a16_ GW249.out)) (KeepBut.of_below hb g none) (.inl rfl));have NB249_255:=am_ ((by rw[hg];exact Nat.ne_of_lt (blk_lt (g:=gb249) (o:= .cells #[.int .i64 0, .int .i64 0, .int .i64 0] 33 (0,0)) ((a5_ BK249.out))):gb249≠gb255));have NB255_249:=am_ ((by rw[hg];exact Nat.ne_of_gt (blk_lt (g:=gb249) (o:= .cells #[.int .i64 0, .int .i64 0, .int .i64 0] 33 (0,0)) ((a5_ BK249.out))):gb255≠gb249));replace BK249:=am_ (blk_below (g:=gb249) (o:= .cells #[.int .i64 0, .int .i64 0, .int .i64 0] 33 (0,0)) ((a5_ BK249.out)) hb);have NB0_255:=am_ ((by rw[hg];exact Nat.ne_of_lt (IsS55.lt (show IsS55 w0 _ g s0_0 t253 t254 from(a7_ HI0.out NB0_249.out))):g≠gb255));have NB255_0:=am_ ((by rw[hg];exact Nat.ne_of_gt (IsS55.lt (show IsS55 w0 _ g s0_0 t253 t254 from(a7_ HI0.out NB0_249.out))):gb255≠g));replace HI0:=am_ (IsS55.below ((a7_ HI0.out NB0_249.out)) hb);clear hb hbox hg;have hnb25:=NB255_249.out;have hnc25:=NB249_255.out;have hnb26:=NB255_0.out;have hnc26:=NB0_255.out;have hcz27_0:w24.cell? ⟨gb255,0,none⟩=some (.int .i64 0):=(blk_cell BK255.out 0).trans rfl;have hcz27_1:w24.cell? ⟨gb255,1,none⟩=some (.int .i64 0):=(blk_cell BK255.out 1).trans rfl;have hcz27_2:w24.cell? ⟨gb255,2,none⟩=some (.int .i64 0):=(blk_cell BK255.out 2).trans rfl;have hfz27_0:=blk_frozen BK255.out 0;have hfz27_1:=blk_frozen BK255.out 1;have hfz27_2:=blk_frozen BK255.out 2)|((with_reducible refine gate_callee (f:=54) rfl ?_);refine goesL_ (some 7) rfl rfl Tryd.func54 (by kernel_rfl) rfl #[.pointer (some ⟨g,0,none⟩), .int .i64 24] rfl gd_ ?_;(with_reducible refine(spec_l1Cur_pick.calls g s0_0 t253 t254 24 t256 t257 t258 w0 _ ?side1 ?side2 A3.out).mono ?_);(case side1=>exact(a9_ HI0.out NB0_249.out NB0_255.out));(case side2=>exact(a20_ HI0.out GE249.out GE255.out));rintro e w28 ⟨rfl,hi,hb,hk⟩;refine⟨_,rfl,?_⟩;replace BK249:=am_ (KeepBut.blk hk (g':=gb249) (o:= .cells #[.int .i64 0, .int .i64 0, .int .i64 0] 33 (0,0)) ((a11_ NB249_255.out BK249.out)) NB249_0.out (by simp));replace BK255:=am_ (KeepBut.blk hk (g':=gb255) (o:= .cells #[.int .i64 t250, .int .i64 t251, .int .i64 t252] 33 (0,0)) ((a18_ BK255.out)) NB255_0.out (by simp));replace HK:=am_ (KeepBut.trans ((a19_ GW249.out GW255.out)) hk (.inl rfl));replace HB:=am_ (hb);replace HI0:=am_ (hi);(try clear hb);(try clear hb2);(try clear hk);(try clear hi);have hcz29_0:w28.cell? ⟨gb255,0,none⟩=some (.int .i64 t250):=(blk_cell BK255.out 0).trans rfl;have hcz29_1:w28.cell? ⟨gb255,1,none⟩=some (.int .i64 t251):=(blk_cell BK255.out 1).trans rfl;have hcz29_2:w28.cell? ⟨gb255,2,none⟩=some (.int .i64 t252):=(blk_cell BK255.out 2).trans rfl;have hfz29_0:=blk_frozen BK255.out 0;have hfz29_1:=blk_frozen BK255.out 1;have hfz29_2:=blk_frozen BK255.out 2)|((with_reducible refine gate_dst (N:=19) rfl ?_);refine Kd.R_lit (Kd.int .i64) _ 3 ?hg (N:=19) ?hd (xs:=([(-1),t252]:List Int)) (inner:=[.int .i64 (-1), .int .i64 t252]) (ok:=fun _=>True) (okp:=fun _=>True) ?hr ?hp (fun _ hk=>hk) trivial (Below.refl _ _) (Nat.le_refl _) (by simp) ?_;(case hd=>rfl);(case hg=>rfl);(case hr=>exact hr_);(case hp=>exact(Reps.one (show Kd.M (Kd.int .i64) _ _ _ (-1) [.int .i64 (-1)] from rfl) (Reps.one (show Kd.M (Kd.int .i64) _ _ _ t252 [.int .i64 t252] from rfl) (Reps.none _ _))));intro v266 w30 ho31 hb hg_ hnew_;clear hg_ hnew_;(first|rw[← Ny265.out]at ho31|(simp only[Int.reduceToNat]at ho31;rw[← Ny265.out]at ho31));have HO267:=am_ (Kd.R_lower ho31 (keep_size (w:=w) (g:=g) (row:=none) ((a19_ GW249.out GW255.out))));replace BK249:=am_ (blk_below (g:=gb249) (o:= .cells #[.int .i64 0, .int .i64 0, .int .i64 0] 33 (0,0)) ((a5_ BK249.out)) hb);replace BK255:=am_ (blk_below (g:=gb255) (o:= .cells #[.int .i64 t250, .int .i64 t251, .int .i64 t252] 33 (0,0)) ((a5_ BK255.out)) hb);replace HK:=am_ (KeepBut.trans ((a19_ GW249.out GW255.out)) (KeepBut.of_below hb g none) (.inl rfl));replace HB:=am_ (below_step ((a20_ HI0.out GE249.out GE255.out)) hb);replace HI0:=am_ (IsS55.below ((a9_ HI0.out NB0_249.out NB0_255.out)) hb);clear hb ho31;obtain⟨Ao32,co32,eo32⟩:=Kd.R_slice HO267.out;subst eo32)|((with_reducible refine gate_callee (f:=58) rfl ?_);refine goesL_ (some 20) rfl rfl Tryd.func58 (by kernel_rfl) rfl #[.pointer (some ⟨g,0,none⟩), .slice Ao32 y265.length co32] rfl gd_ ?_;(with_reducible refine(spec_l1Cur_among.calls g s0_0 t257 t258 _ _ y265 t268 t269 t270 w0 _ ?side1 ?side2 ?side3 ?side4 ?side5 A21.out).mono ?_);(case side1=>exact(a9_ HI0.out NB0_249.out NB0_255.out));(case side2=>exact(a20_ HI0.out GE249.out GE255.out));(case side3=>exact(a12_ HO267.out));(case side4=>exact(Kd.R_reads' HO267.out).2.1);(case side5=>exact far_slice (IsS55.own_ne HI0.out HO267.out (by decide)));rintro e w33 ⟨rfl,hi,hb,hk⟩;refine⟨_,rfl,?_⟩;replace BK249:=am_ (KeepBut.blk hk (g':=gb249) (o:= .cells #[.int .i64 0, .int .i64 0, .int .i64 0] 33 (0,0)) ((a5_ BK249.out)) NB249_0.out (by simp));replace BK255:=am_ (KeepBut.blk hk (g':=gb255) (o:= .cells #[.int .i64 t250, .int .i64 t251, .int .i64 t252] 33 (0,0)) ((a5_ BK255.out)) NB255_0.out (by simp));replace HO267:=am_ (Kd.R_mono (Kd.R_keep (IsS55.apart (show IsS55 w0 _ g s0_0 t257 t258 from(a9_ HI0.out NB0_249.out NB0_255.out)) ((a1_ HO267.out)) (by decide)) hk (fun _ h=>h.2)) (fun _ h=>h.1));replace HK:=am_ (KeepBut.trans ((a19_ GW249.out GW255.out)) hk (.inl rfl));replace HB:=am_ (hb);replace HI0:=am_ (hi);(try clear hb);(try clear hb2);(try clear hk);(try clear hi);have hcz34_0:w33.cell? ⟨gb255,0,none⟩=some (.int .i64 t250):=(blk_cell BK255.out 0).trans rfl;have hcz34_1:w33.cell? ⟨gb255,1,none⟩=some (.int .i64 t251):=(blk_cell BK255.out 1).trans rfl;have hcz34_2:w33.cell? ⟨gb255,2,none⟩=some (.int .i64 t252):=(blk_cell BK255.out 2).trans rfl;have hfz34_0:=blk_frozen BK255.out 0;have hfz34_1:=blk_frozen BK255.out 1;have hfz34_2:=blk_frozen BK255.out 2;have hnb35:=NB249_0.out;have hnc35:=NB0_249.out;have hcz36_0:w33.cell? ⟨gb249,0,none⟩=some (.int .i64 0):=(blk_cell BK249.out 0).trans rfl;have hcz36_1:w33.cell? ⟨gb249,1,none⟩=some (.int .i64 0):=(blk_cell BK249.out 1).trans rfl;have hcz36_2:w33.cell? ⟨gb249,2,none⟩=some (.int .i64 0):=(blk_cell BK249.out 2).trans rfl;have hfz36_0:=blk_frozen BK249.out 0;have hfz36_1:=blk_frozen BK249.out 1;have hfz36_2:=blk_frozen BK249.out 2))
   refine bodyPost_ret (results_cell_row rfl _ _ gb249 33 #[.int .i64 t250, .int .i64 t268, .int .i64 t252] (0,0) _ rfl (by(with_reducible repeat (first|refine blk_drewN ?_ _ | refine blk_drew ?_ | refine blk_alloc ?_ _));refine blk_put (cs:= #[.int .i64 t250, .int .i64 t268, .int .i64 0]) ?_ 2 _ rfl;(with_reducible repeat (first|refine blk_drewN ?_ _ | refine blk_drew ?_ | refine blk_alloc ?_ _));refine blk_put (cs:= #[.int .i64 t250, .int .i64 0, .int .i64 0]) ?_ 1 _ rfl;(with_reducible repeat (first|refine blk_drewN ?_ _ | refine blk_drew ?_ | refine blk_alloc ?_ _));refine blk_put (cs:= #[.int .i64 0, .int .i64 0, .int .i64 0]) ?_ 0 _ rfl;(with_reducible repeat (first|refine blk_drewN ?_ _ | refine blk_drew ?_ | refine blk_alloc ?_ _));refine blk_far ?_ NB249_255.out _;(with_reducible repeat (first|refine blk_drewN ?_ _ | refine blk_drew ?_ | refine blk_alloc ?_ _));exact BK249.out) Tryd.underlying33 rfl (by kernel_rfl)) rfl ?_
   exact⟨a8_,(a9_ HI0.out NB0_249.out NB0_255.out),(a20_ HI0.out GE249.out GE255.out),(a19_ GW249.out GW255.out)⟩
  ·rw[if_neg c20]at H
   have c20b0:(t256 == 1)=false:=beq_eq_false_iff_ne.mpr c20
   have c20b1:(t256 != 1)=true:=bne_iff_ne.mpr c20
   by_cases c37:t256=2
   ·rw[if_pos c37]at H
    have c37b0:(t256 == 2)=true:=beq_iff_eq.mpr c37
    have c37b1:(t256 != 2)=false:=bne_eq_false_iff_eq.mpr c37
    clear c37
    obtain⟨y271,hy271⟩:∃y_:List Int,y_=(([t251,2000,2001]:List Int)):=⟨_,rfl⟩
    replace H:((spec_l1Cur_among.f s0_0 t257 t258 y271).bind fun bt274=>(some (t250,t251,bt274.1,bt274.2.1,bt274.2.2)))=some (r1,r2,r3,r4,r5):=by first|(rw[hy271];with_reducible exact H)|(have H2_:=(Option.bind_some _ _).symm.trans H;rw[hy271];with_reducible exact H2_)|(have H2_:=(Option.bind_some _ _).symm.trans H;with_reducible exact H2_) | with_reducible exact H|(rw[hy271];exact H)|exact H
    have Ny271:=am_ hy271
    clear hy271
    obtain⟨⟨t274,t275,t276⟩,A38,H⟩:=bo_ H
    try dsimp only at H
    simp only[Option.some.injEq,Prod.mk.injEq]at H
    obtain⟨rfl,rfl,rfl,rfl,rfl⟩:=H
    go_enter Tryd.func72,Tryd.ntmps72
    go_wp2_with (first|((with_reducible refine gate_dst (N:=2) rfl ?_);refine box_event ?hg (N:=2) ?hd (cs:= #[.int .i64 0, .int .i64 0, .int .i64 0]) (t:=33) ?hr ?_;(case hd=>rfl);(case hg=>rfl);(case hr=>exact hr_);intro gb249 hg w39 hbox hb;replace HB:=am_ (below_step ((a4_ HI0.out)) hb);have BK249:=am_ (hbox);have GW249:=am_ ((by rw[hg];exact(keep_size (w:=w) (g:=g) (row:=none) (a6_)):w.heap.size≤gb249));have GE249:=am_ ((Nat.le_trans HW0.out (by rw[hg];exact(keep_size (w:=w) (g:=g) (row:=none) (a6_)):w.heap.size≤gb249):w0.heap.size≤gb249));replace HK:=am_ (KeepBut.trans (a6_) (KeepBut.of_below hb g none) (.inl rfl));have NB0_249:=am_ ((by rw[hg];exact Nat.ne_of_lt (IsS55.lt (show IsS55 w0 _ g s0_0 s0_1 s0_2 from(a2_ HI0.out))):g≠gb249));have NB249_0:=am_ ((by rw[hg];exact Nat.ne_of_gt (IsS55.lt (show IsS55 w0 _ g s0_0 s0_1 s0_2 from(a2_ HI0.out))):gb249≠g));replace HI0:=am_ (IsS55.below ((a2_ HI0.out)) hb);clear hb hbox hg)|((with_reducible refine gate_callee (f:=57) rfl ?_);refine goesL_ (some 5) rfl rfl Tryd.func57 (by kernel_rfl) rfl #[.pointer (some ⟨g,0,none⟩)] rfl gd_ ?_;(with_reducible refine(spec_l1Cur_hole.calls g s0_0 s0_1 s0_2 t250 t251 t252 t253 t254 w0 _ ?side1 ?side2 A2.out).mono ?_);(case side1=>exact(a7_ HI0.out NB0_249.out));(case side2=>exact(a17_ HI0.out GE249.out));rintro e w40 ⟨rfl,hi,hb,hk⟩;refine⟨_,rfl,?_⟩;replace BK249:=am_ (KeepBut.blk hk (g':=gb249) (o:= .cells #[.int .i64 0, .int .i64 0, .int .i64 0] 33 (0,0)) ((a5_ BK249.out)) NB249_0.out (by simp));replace HK:=am_ (KeepBut.trans ((a16_ GW249.out)) hk (.inl rfl));replace HB:=am_ (hb);replace HI0:=am_ (hi);(try clear hb);(try clear hb2);(try clear hk);(try clear hi))|((with_reducible refine gate_dst (N:=3) rfl ?_);refine box_event ?hg (N:=3) ?hd (cs:= #[.int .i64 0, .int .i64 0, .int .i64 0]) (t:=33) ?hr ?_;(case hd=>rfl);(case hg=>rfl);(case hr=>exact hr_);intro gb255 hg w41 hbox hb;replace HB:=am_ (below_step ((a17_ HI0.out GE249.out)) hb);have BK255:=am_ (hbox);have GW255:=am_ ((by rw[hg];exact(keep_size (w:=w) (g:=g) (row:=none) ((a16_ GW249.out))):w.heap.size≤gb255));have GE255:=am_ ((Nat.le_trans HW0.out (by rw[hg];exact(keep_size (w:=w) (g:=g) (row:=none) ((a16_ GW249.out))):w.heap.size≤gb255):w0.heap.size≤gb255));replace HK:=am_ (KeepBut.trans ((a16_ GW249.out)) (KeepBut.of_below hb g none) (.inl rfl));have NB249_255:=am_ ((by rw[hg];exact Nat.ne_of_lt (blk_lt (g:=gb249) (o:= .cells #[.int .i64 0, .int .i64 0, .int .i64 0] 33 (0,0)) ((a5_ BK249.out))):gb249≠gb255));have NB255_249:=am_ ((by rw[hg];exact Nat.ne_of_gt (blk_lt (g:=gb249) (o:= .cells #[.int .i64 0, .int .i64 0, .int .i64 0] 33 (0,0)) ((a5_ BK249.out))):gb255≠gb249));replace BK249:=am_ (blk_below (g:=gb249) (o:= .cells #[.int .i64 0, .int .i64 0, .int .i64 0] 33 (0,0)) ((a5_ BK249.out)) hb);have NB0_255:=am_ ((by rw[hg];exact Nat.ne_of_lt (IsS55.lt (show IsS55 w0 _ g s0_0 t253 t254 from(a7_ HI0.out NB0_249.out))):g≠gb255));have NB255_0:=am_ ((by rw[hg];exact Nat.ne_of_gt (IsS55.lt (show IsS55 w0 _ g s0_0 t253 t254 from(a7_ HI0.out NB0_249.out))):gb255≠g));replace HI0:=am_ (IsS55.below ((a7_ HI0.out NB0_249.out)) hb);clear hb hbox hg;have hnb42:=NB255_249.out;have hnc42:=NB249_255.out;have hnb43:=NB255_0.out;have hnc43:=NB0_255.out;have hcz44_0:w41.cell? ⟨gb255,0,none⟩=some (.int .i64 0):=(blk_cell BK255.out 0).trans rfl;have hcz44_1:w41.cell? ⟨gb255,1,none⟩=some (.int .i64 0):=(blk_cell BK255.out 1).trans rfl;have hcz44_2:w41.cell? ⟨gb255,2,none⟩=some (.int .i64 0):=(blk_cell BK255.out 2).trans rfl;have hfz44_0:=blk_frozen BK255.out 0;have hfz44_1:=blk_frozen BK255.out 1;have hfz44_2:=blk_frozen BK255.out 2)|((with_reducible refine gate_callee (f:=54) rfl ?_);refine goesL_ (some 7) rfl rfl Tryd.func54 (by kernel_rfl) rfl #[.pointer (some ⟨g,0,none⟩), .int .i64 24] rfl gd_ ?_;(with_reducible refine(spec_l1Cur_pick.calls g s0_0 t253 t254 24 t256 t257 t258 w0 _ ?side1 ?side2 A3.out).mono ?_);(case side1=>exact(a9_ HI0.out NB0_249.out NB0_255.out));(case side2=>exact(a20_ HI0.out GE249.out GE255.out));rintro e w45 ⟨rfl,hi,hb,hk⟩;refine⟨_,rfl,?_⟩;replace BK249:=am_ (KeepBut.blk hk (g':=gb249) (o:= .cells #[.int .i64 0, .int .i64 0, .int .i64 0] 33 (0,0)) ((a11_ NB249_255.out BK249.out)) NB249_0.out (by simp));replace BK255:=am_ (KeepBut.blk hk (g':=gb255) (o:= .cells #[.int .i64 t250, .int .i64 t251, .int .i64 t252] 33 (0,0)) ((a18_ BK255.out)) NB255_0.out (by simp));replace HK:=am_ (KeepBut.trans ((a19_ GW249.out GW255.out)) hk (.inl rfl));replace HB:=am_ (hb);replace HI0:=am_ (hi);(try clear hb);(try clear hb2);(try clear hk);(try clear hi);have hcz46_0:w45.cell? ⟨gb255,0,none⟩=some (.int .i64 t250):=(blk_cell BK255.out 0).trans rfl;have hcz46_1:w45.cell? ⟨gb255,1,none⟩=some (.int .i64 t251):=(blk_cell BK255.out 1).trans rfl;have hcz46_2:w45.cell? ⟨gb255,2,none⟩=some (.int .i64 t252):=(blk_cell BK255.out 2).trans rfl;have hfz46_0:=blk_frozen BK255.out 0;have hfz46_1:=blk_frozen BK255.out 1;have hfz46_2:=blk_frozen BK255.out 2)|((with_reducible refine gate_dst (N:=27) rfl ?_);refine Kd.R_lit (Kd.int .i64) _ 3 ?hg (N:=27) ?hd (xs:=([t251,2000,2001]:List Int)) (inner:=[.int .i64 t251, .int .i64 2000, .int .i64 2001]) (ok:=fun _=>True) (okp:=fun _=>True) ?hr ?hp (fun _ hk=>hk) trivial (Below.refl _ _) (Nat.le_refl _) (by simp) ?_;(case hd=>rfl);(case hg=>rfl);(case hr=>exact hr_);(case hp=>exact(Reps.one (show Kd.M (Kd.int .i64) _ _ _ t251 [.int .i64 t251] from rfl) (Reps.one (show Kd.M (Kd.int .i64) _ _ _ 2000 [.int .i64 2000] from rfl) (Reps.one (show Kd.M (Kd.int .i64) _ _ _ 2001 [.int .i64 2001] from rfl) (Reps.none _ _)))));intro v272 w47 ho48 hb hg_ hnew_;clear hg_ hnew_;(first|rw[← Ny271.out]at ho48|(simp only[Int.reduceToNat]at ho48;rw[← Ny271.out]at ho48));have HO273:=am_ (Kd.R_lower ho48 (keep_size (w:=w) (g:=g) (row:=none) ((a19_ GW249.out GW255.out))));replace BK249:=am_ (blk_below (g:=gb249) (o:= .cells #[.int .i64 0, .int .i64 0, .int .i64 0] 33 (0,0)) ((a5_ BK249.out)) hb);replace BK255:=am_ (blk_below (g:=gb255) (o:= .cells #[.int .i64 t250, .int .i64 t251, .int .i64 t252] 33 (0,0)) ((a5_ BK255.out)) hb);replace HK:=am_ (KeepBut.trans ((a19_ GW249.out GW255.out)) (KeepBut.of_below hb g none) (.inl rfl));replace HB:=am_ (below_step ((a20_ HI0.out GE249.out GE255.out)) hb);replace HI0:=am_ (IsS55.below ((a9_ HI0.out NB0_249.out NB0_255.out)) hb);clear hb ho48;obtain⟨Ao49,co49,eo49⟩:=Kd.R_slice HO273.out;subst eo49)|((with_reducible refine gate_callee (f:=58) rfl ?_);refine goesL_ (some 28) rfl rfl Tryd.func58 (by kernel_rfl) rfl #[.pointer (some ⟨g,0,none⟩), .slice Ao49 y271.length co49] rfl gd_ ?_;(with_reducible refine(spec_l1Cur_among.calls g s0_0 t257 t258 _ _ y271 t274 t275 t276 w0 _ ?side1 ?side2 ?side3 ?side4 ?side5 A38.out).mono ?_);(case side1=>exact(a9_ HI0.out NB0_249.out NB0_255.out));(case side2=>exact(a20_ HI0.out GE249.out GE255.out));(case side3=>exact(a12_ HO273.out));(case side4=>exact(Kd.R_reads' HO273.out).2.1);(case side5=>exact far_slice (IsS55.own_ne HI0.out HO273.out (by decide)));rintro e w50 ⟨rfl,hi,hb,hk⟩;refine⟨_,rfl,?_⟩;replace BK249:=am_ (KeepBut.blk hk (g':=gb249) (o:= .cells #[.int .i64 0, .int .i64 0, .int .i64 0] 33 (0,0)) ((a5_ BK249.out)) NB249_0.out (by simp));replace BK255:=am_ (KeepBut.blk hk (g':=gb255) (o:= .cells #[.int .i64 t250, .int .i64 t251, .int .i64 t252] 33 (0,0)) ((a5_ BK255.out)) NB255_0.out (by simp));replace HO273:=am_ (Kd.R_mono (Kd.R_keep (IsS55.apart (show IsS55 w0 _ g s0_0 t257 t258 from(a9_ HI0.out NB0_249.out NB0_255.out)) ((a1_ HO273.out)) (by decide)) hk (fun _ h=>h.2)) (fun _ h=>h.1));replace HK:=am_ (KeepBut.trans ((a19_ GW249.out GW255.out)) hk (.inl rfl));replace HB:=am_ (hb);replace HI0:=am_ (hi);(try clear hb);(try clear hb2);(try clear hk);(try clear hi);have hcz51_0:w50.cell? ⟨gb255,0,none⟩=some (.int .i64 t250):=(blk_cell BK255.out 0).trans rfl;have hcz51_1:w50.cell? ⟨gb255,1,none⟩=some (.int .i64 t251):=(blk_cell BK255.out 1).trans rfl;have hcz51_2:w50.cell? ⟨gb255,2,none⟩=some (.int .i64 t252):=(blk_cell BK255.out 2).trans rfl;have hfz51_0:=blk_frozen BK255.out 0;have hfz51_1:=blk_frozen BK255.out 1;have hfz51_2:=blk_frozen BK255.out 2;have hnb52:=NB249_0.out;have hnc52:=NB0_249.out;have hcz53_0:w50.cell? ⟨gb249,0,none⟩=some (.int .i64 0):=(blk_cell BK249.out 0).trans rfl;have hcz53_1:w50.cell? ⟨gb249,1,none⟩=some (.int .i64 0):=(blk_cell BK249.out 1).trans rfl;have hcz53_2:w50.cell? ⟨gb249,2,none⟩=some (.int .i64 0):=(blk_cell BK249.out 2).trans rfl;have hfz53_0:=blk_frozen BK249.out 0;have hfz53_1:=blk_frozen BK249.out 1;have hfz53_2:=blk_frozen BK249.out 2))
    refine bodyPost_ret (results_cell_row rfl _ _ gb249 33 #[.int .i64 t250, .int .i64 t251, .int .i64 t274] (0,0) _ rfl (by(with_reducible repeat (first|refine blk_drewN ?_ _ | refine blk_drew ?_ | refine blk_alloc ?_ _));refine blk_put (cs:= #[.int .i64 t250, .int .i64 t251, .int .i64 0]) ?_ 2 _ rfl;(with_reducible repeat (first|refine blk_drewN ?_ _ | refine blk_drew ?_ | refine blk_alloc ?_ _));refine blk_put (cs:= #[.int .i64 t250, .int .i64 0, .int .i64 0]) ?_ 1 _ rfl;(with_reducible repeat (first|refine blk_drewN ?_ _ | refine blk_drew ?_ | refine blk_alloc ?_ _));refine blk_put (cs:= #[.int .i64 0, .int .i64 0, .int .i64 0]) ?_ 0 _ rfl;(with_reducible repeat (first|refine blk_drewN ?_ _ | refine blk_drew ?_ | refine blk_alloc ?_ _));refine blk_far ?_ NB249_255.out _;(with_reducible repeat (first|refine blk_drewN ?_ _ | refine blk_drew ?_ | refine blk_alloc ?_ _));exact BK249.out) Tryd.underlying33 rfl (by kernel_rfl)) rfl ?_
    exact⟨a8_,(a9_ HI0.out NB0_249.out NB0_255.out),(a20_ HI0.out GE249.out GE255.out),(a19_ GW249.out GW255.out)⟩
   ·rw[if_neg c37]at H
    have c37b0:(t256 == 2)=false:=beq_eq_false_iff_ne.mpr c37
    have c37b1:(t256 != 2)=true:=bne_iff_ne.mpr c37
    simp only[Option.some.injEq,Prod.mk.injEq]at H
    obtain⟨rfl,rfl,rfl,rfl,rfl⟩:=H
    go_enter Tryd.func72,Tryd.ntmps72
    go_wp2_with (first|((with_reducible refine gate_dst (N:=2) rfl ?_);refine box_event ?hg (N:=2) ?hd (cs:= #[.int .i64 0, .int .i64 0, .int .i64 0]) (t:=33) ?hr ?_;(case hd=>rfl);(case hg=>rfl);(case hr=>exact hr_);intro gb249 hg w54 hbox hb;replace HB:=am_ (below_step ((a4_ HI0.out)) hb);have BK249:=am_ (hbox);have GW249:=am_ ((by rw[hg];exact(keep_size (w:=w) (g:=g) (row:=none) (a6_)):w.heap.size≤gb249));have GE249:=am_ ((Nat.le_trans HW0.out (by rw[hg];exact(keep_size (w:=w) (g:=g) (row:=none) (a6_)):w.heap.size≤gb249):w0.heap.size≤gb249));replace HK:=am_ (KeepBut.trans (a6_) (KeepBut.of_below hb g none) (.inl rfl));have NB0_249:=am_ ((by rw[hg];exact Nat.ne_of_lt (IsS55.lt (show IsS55 w0 _ g s0_0 s0_1 s0_2 from(a2_ HI0.out))):g≠gb249));have NB249_0:=am_ ((by rw[hg];exact Nat.ne_of_gt (IsS55.lt (show IsS55 w0 _ g s0_0 s0_1 s0_2 from(a2_ HI0.out))):gb249≠g));replace HI0:=am_ (IsS55.below ((a2_ HI0.out)) hb);clear hb hbox hg)|((with_reducible refine gate_callee (f:=57) rfl ?_);refine goesL_ (some 5) rfl rfl Tryd.func57 (by kernel_rfl) rfl #[.pointer (some ⟨g,0,none⟩)] rfl gd_ ?_;(with_reducible refine(spec_l1Cur_hole.calls g s0_0 s0_1 s0_2 t250 t251 t252 t253 t254 w0 _ ?side1 ?side2 A2.out).mono ?_);(case side1=>exact(a7_ HI0.out NB0_249.out));(case side2=>exact(a17_ HI0.out GE249.out));rintro e w55 ⟨rfl,hi,hb,hk⟩;refine⟨_,rfl,?_⟩;replace BK249:=am_ (KeepBut.blk hk (g':=gb249) (o:= .cells #[.int .i64 0, .int .i64 0, .int .i64 0] 33 (0,0)) ((a5_ BK249.out)) NB249_0.out (by simp));replace HK:=am_ (KeepBut.trans ((a16_ GW249.out)) hk (.inl rfl));replace HB:=am_ (hb);replace HI0:=am_ (hi);(try clear hb);(try clear hb2);(try clear hk);(try clear hi))|((with_reducible refine gate_dst (N:=3) rfl ?_);refine box_event ?hg (N:=3) ?hd (cs:= #[.int .i64 0, .int .i64 0, .int .i64 0]) (t:=33) ?hr ?_;(case hd=>rfl);(case hg=>rfl);(case hr=>exact hr_);intro gb255 hg w56 hbox hb;replace HB:=am_ (below_step ((a17_ HI0.out GE249.out)) hb);have BK255:=am_ (hbox);have GW255:=am_ ((by rw[hg];exact(keep_size (w:=w) (g:=g) (row:=none) ((a16_ GW249.out))):w.heap.size≤gb255));have GE255:=am_ ((Nat.le_trans HW0.out (by rw[hg];exact(keep_size (w:=w) (g:=g) (row:=none) ((a16_ GW249.out))):w.heap.size≤gb255):w0.heap.size≤gb255));replace HK:=am_ (KeepBut.trans ((a16_ GW249.out)) (KeepBut.of_below hb g none) (.inl rfl));have NB249_255:=am_ ((by rw[hg];exact Nat.ne_of_lt (blk_lt (g:=gb249) (o:= .cells #[.int .i64 0, .int .i64 0, .int .i64 0] 33 (0,0)) ((a5_ BK249.out))):gb249≠gb255));have NB255_249:=am_ ((by rw[hg];exact Nat.ne_of_gt (blk_lt (g:=gb249) (o:= .cells #[.int .i64 0, .int .i64 0, .int .i64 0] 33 (0,0)) ((a5_ BK249.out))):gb255≠gb249));replace BK249:=am_ (blk_below (g:=gb249) (o:= .cells #[.int .i64 0, .int .i64 0, .int .i64 0] 33 (0,0)) ((a5_ BK249.out)) hb);have NB0_255:=am_ ((by rw[hg];exact Nat.ne_of_lt (IsS55.lt (show IsS55 w0 _ g s0_0 t253 t254 from(a7_ HI0.out NB0_249.out))):g≠gb255));have NB255_0:=am_ ((by rw[hg];exact Nat.ne_of_gt (IsS55.lt (show IsS55 w0 _ g s0_0 t253 t254 from(a7_ HI0.out NB0_249.out))):gb255≠g));replace HI0:=am_ (IsS55.below ((a7_ HI0.out NB0_249.out)) hb);clear hb hbox hg;have hnb57:=NB255_249.out;have hnc57:=NB249_255.out;have hnb58:=NB255_0.out;have hnc58:=NB0_255.out;have hcz59_0:w56.cell? ⟨gb255,0,none⟩=some (.int .i64 0):=(blk_cell BK255.out 0).trans rfl;have hcz59_1:w56.cell? ⟨gb255,1,none⟩=some (.int .i64 0):=(blk_cell BK255.out 1).trans rfl;have hcz59_2:w56.cell? ⟨gb255,2,none⟩=some (.int .i64 0):=(blk_cell BK255.out 2).trans rfl;have hfz59_0:=blk_frozen BK255.out 0;have hfz59_1:=blk_frozen BK255.out 1;have hfz59_2:=blk_frozen BK255.out 2)|((with_reducible refine gate_callee (f:=54) rfl ?_);refine goesL_ (some 7) rfl rfl Tryd.func54 (by kernel_rfl) rfl #[.pointer (some ⟨g,0,none⟩), .int .i64 24] rfl gd_ ?_;(with_reducible refine(spec_l1Cur_pick.calls g s0_0 t253 t254 24 t256 t257 t258 w0 _ ?side1 ?side2 A3.out).mono ?_);(case side1=>exact(a9_ HI0.out NB0_249.out NB0_255.out));(case side2=>exact(a20_ HI0.out GE249.out GE255.out));rintro e w60 ⟨rfl,hi,hb,hk⟩;refine⟨_,rfl,?_⟩;replace BK249:=am_ (KeepBut.blk hk (g':=gb249) (o:= .cells #[.int .i64 0, .int .i64 0, .int .i64 0] 33 (0,0)) ((a11_ NB249_255.out BK249.out)) NB249_0.out (by simp));replace BK255:=am_ (KeepBut.blk hk (g':=gb255) (o:= .cells #[.int .i64 t250, .int .i64 t251, .int .i64 t252] 33 (0,0)) ((a18_ BK255.out)) NB255_0.out (by simp));replace HK:=am_ (KeepBut.trans ((a19_ GW249.out GW255.out)) hk (.inl rfl));replace HB:=am_ (hb);replace HI0:=am_ (hi);(try clear hb);(try clear hb2);(try clear hk);(try clear hi);have hcz61_0:w60.cell? ⟨gb255,0,none⟩=some (.int .i64 t250):=(blk_cell BK255.out 0).trans rfl;have hcz61_1:w60.cell? ⟨gb255,1,none⟩=some (.int .i64 t251):=(blk_cell BK255.out 1).trans rfl;have hcz61_2:w60.cell? ⟨gb255,2,none⟩=some (.int .i64 t252):=(blk_cell BK255.out 2).trans rfl;have hfz61_0:=blk_frozen BK255.out 0;have hfz61_1:=blk_frozen BK255.out 1;have hfz61_2:=blk_frozen BK255.out 2;have hnb62:=NB249_0.out;have hnc62:=NB0_249.out;have hcz63_0:w60.cell? ⟨gb249,0,none⟩=some (.int .i64 0):=(blk_cell BK249.out 0).trans rfl;have hcz63_1:w60.cell? ⟨gb249,1,none⟩=some (.int .i64 0):=(blk_cell BK249.out 1).trans rfl;have hcz63_2:w60.cell? ⟨gb249,2,none⟩=some (.int .i64 0):=(blk_cell BK249.out 2).trans rfl;have hfz63_0:=blk_frozen BK249.out 0;have hfz63_1:=blk_frozen BK249.out 1;have hfz63_2:=blk_frozen BK249.out 2))
    refine bodyPost_ret (results_cell_row rfl _ _ gb249 33 #[.int .i64 t250, .int .i64 t251, .int .i64 t252] (0,0) _ rfl ((a18_ BK249.out)) Tryd.underlying33 rfl (by kernel_rfl)) rfl ?_
    exact⟨a8_,(a9_ HI0.out NB0_249.out NB0_255.out),(a20_ HI0.out GE249.out GE255.out),(a19_ GW249.out GW255.out)⟩

end Go.Proofs.YtpbffmjjhmllbaaDoor.QFnChecksums
