/- Written by a program of this session (the kit's printer, with leaf contracts proved by hand put in): what each Go function computes, and that the call computes it. No condition but those that each theorem names. -/
import Derived.Test.YtplpjmhmochcfaaGreatQFnDifferencesx0
import Derived.Test.YtplpjmhmochcfaaGreatQFnDifferencesx2
import Derived.Test.YtplpjmhmochcfaaGreatQFnDifferencesx4
namespace Go.Proofs.YtplpjmhmochcfaaGreat.QFnDifferences
open Go.RowKit Go.Proofs.YtplpjmhmochcfaaGreatW.PrintWords Go.Proofs.YtplpjmhmochcfaaGreatW.PrintLast Go.Proofs.YtplpjmhmochcfaaGreatW.PrintMore
attribute [local go_sem] max2_int min2_int max_two min_two max_three min_three max_four min_four   -- for this text's walks alone
set_option linter.unusedVariables false
set_option linter.unusedSimpArgs false

/-! ### spec_shWith: function 86 -/
def spec_shWith.f (k:Nat) (l0:List (S40)) (a1_0:Int) (a1_1:Int) (a1_2:Int):Option ((List (S40))×Bool):=(some (([]:List (S40)):List (S40))).bind fun y180=>(if y180.length+l0.length<5864062014805 then((some (y180 ++ l0:List (S40))).bind fun y183=>((some (([(⟨a1_0,a1_1,a1_2⟩:S40)]:List (S40)):List (S40))).bind fun y186=>(if y183.length+y186.length<5864062014805 then((spec_shSorted.f k (y183 ++ y186)).bind fun bt192=>(some (bt192.1,bt192.2))) else(none)))) else(none))
theorem spec_shWith.mono:∀a0 a1 a2 a3 k,LeO (spec_shWith.f k a0 a1 a2 a3) (spec_shWith.f (k+1) a0 a1 a2 a3):=by
 intro a0 a1 a2 a3 k
 unfold spec_shWith.f
 repeat' first
  |(with_reducible exact spec_shSorted.mono _ _)
  |(with_reducible exact LeO.refl _)
  |(with_reducible exact LeO.none _)
  |(with_reducible refine LeO.ite ?_ ?_)
  |(with_reducible refine LeO.bind ?_ (fun _=>?_))
  |exact spec_shSorted.mono _ _
  |exact LeO.none _
   | refine LeO.ite ?_ ?_
   | refine LeO.bind ?_ (fun _=>?_)
def spec_shWith.T1:Bool×List (List Nat×List Nat):=(true, [([], []),([], []),([0,1], [0,1]),([], []),([3], [3]),([2,4,2], [2,4]),([5,5], [5]),([6], [6]),([6], [6]),([7,6,0,1,2,3,4,5,6,7,8], [7]),([8,9,0,1,2,3,4,5,6,7,8,9], [8])])
def spec_shWith.B1:List Nat:=[0,0,3,0,8,31,63,127,127,511,1023]
theorem spec_shWith.tab1:rtab .any (opsOf Tryz.f86 1)=spec_shWith.T1:=by kernel_rfl
theorem spec_shWith.bits1:waitsOk spec_shWith.T1.2 spec_shWith.B1=true:=by kernel_rfl
set_option maxHeartbeats 8000000 in
set_option maxRecDepth 100000 in
theorem spec_shWith.calls (k:Nat) (A0:Option Addr) (c0:Nat) (l0:List (S40)) (a1_0:Int) (a1_1:Int) (a1_2:Int) (r1:List (S40)) (r2:Bool) (w:World) (hr0:Kd.C k40 w A0 l0.length l0) (hc0:l0.length≤c0) (h:spec_shWith.f k l0 a1_0 a1_1 a1_2=some (r1,r2)) :
 Calls Tryz.prog 86 #[.slice A0 l0.length c0, .agg #[.int .i64 a1_0, .int .i64 a1_1, .int .i64 a1_2]] w fun e w'=>∃v0_:Value,e = .returned (.tuple #[v0_, .bool r2])∧Kd.R k40 40 w' w.heap.size (fun _=>True) v0_ r1∧Below w.heap.size w w':=by
 have hu40:=Tryz.underlying40
 have HR0:=am_ hr0
 have HC0:=am_ hc0
 clear hr0 hc0
 have HB:=am_ (Below.refl w.heap.size w)
 have H:((some (([]:List (S40)):List (S40))).bind fun y180=>(if y180.length+l0.length<5864062014805 then((some (y180 ++ l0:List (S40))).bind fun y183=>((some (([(⟨a1_0,a1_1,a1_2⟩:S40)]:List (S40)):List (S40))).bind fun y186=>(if y183.length+y186.length<5864062014805 then((spec_shSorted.f k (y183 ++ y186)).bind fun bt192=>(some (bt192.1,bt192.2))) else(none)))) else(none)))=some (r1,r2):=h
 clear h
 obtain⟨y180,hy180⟩:∃y_:List (S40),y_=(([]:List (S40))):=⟨_,rfl⟩
 replace H:(if y180.length+l0.length<5864062014805 then((some (y180 ++ l0:List (S40))).bind fun y183=>((some (([(⟨a1_0,a1_1,a1_2⟩:S40)]:List (S40)):List (S40))).bind fun y186=>(if y183.length+y186.length<5864062014805 then((spec_shSorted.f k (y183 ++ y186)).bind fun bt192=>(some (bt192.1,bt192.2))) else(none)))) else(none))=some (r1,r2):=by first|(rw[hy180];with_reducible exact H)|(have H2_:=(Option.bind_some _ _).symm.trans H;rw[hy180];with_reducible exact H2_)|(have H2_:=(Option.bind_some _ _).symm.trans H;with_reducible exact H2_) | with_reducible exact H|(rw[hy180];exact H)|exact H
 have Ny180:=am_ hy180
 clear hy180
 by_cases c3:y180.length+l0.length<5864062014805
 ·rw[if_pos c3]at H
  have LMc3:=am_ c3
  clear c3
  obtain⟨y183,hy183⟩:∃y_:List (S40),y_=(y180 ++ l0):=⟨_,rfl⟩
  replace H:((some (([(⟨a1_0,a1_1,a1_2⟩:S40)]:List (S40)):List (S40))).bind fun y186=>(if y183.length+y186.length<5864062014805 then((spec_shSorted.f k (y183 ++ y186)).bind fun bt192=>(some (bt192.1,bt192.2))) else(none)))=some (r1,r2):=by first|(rw[hy183];with_reducible exact H)|(have H2_:=(Option.bind_some _ _).symm.trans H;rw[hy183];with_reducible exact H2_)|(have H2_:=(Option.bind_some _ _).symm.trans H;with_reducible exact H2_) | with_reducible exact H|(rw[hy183];exact H)|exact H
  have Ny183:=am_ hy183
  clear hy183
  obtain⟨y186,hy186⟩:∃y_:List (S40),y_=(([(⟨a1_0,a1_1,a1_2⟩:S40)]:List (S40))):=⟨_,rfl⟩
  replace H:(if y183.length+y186.length<5864062014805 then((spec_shSorted.f k (y183 ++ y186)).bind fun bt192=>(some (bt192.1,bt192.2))) else(none))=some (r1,r2):=by first|(rw[hy186];with_reducible exact H)|(have H2_:=(Option.bind_some _ _).symm.trans H;rw[hy186];with_reducible exact H2_)|(have H2_:=(Option.bind_some _ _).symm.trans H;with_reducible exact H2_) | with_reducible exact H|(rw[hy186];exact H)|exact H
  have Ny186:=am_ hy186
  clear hy186
  by_cases c4:y183.length+y186.length<5864062014805
  ·rw[if_pos c4]at H
   have LMc4:=am_ c4
   clear c4
   obtain⟨y189,hy189⟩:∃y_:List (S40),y_=(y183 ++ y186):=⟨_,rfl⟩
   replace H:((spec_shSorted.f k y189).bind fun bt192=>(some (bt192.1,bt192.2)))=some (r1,r2):=by first|(rw[hy189];with_reducible exact H)|(have H2_:=(Option.bind_some _ _).symm.trans H;rw[hy189];with_reducible exact H2_)|(have H2_:=(Option.bind_some _ _).symm.trans H;with_reducible exact H2_) | with_reducible exact H|(rw[hy189];exact H)|exact H
   have Ny189:=am_ hy189
   clear hy189
   obtain⟨⟨t192,t193⟩,A5,H⟩:=bo_ H
   try dsimp only at H
   simp only[Option.some.injEq,Prod.mk.injEq]at H
   obtain⟨rfl,rfl⟩:=H
   go_enter Tryz.func86,Tryz.ntmps86
   try go_wp2_with (first|((with_reducible refine gate_dst (N:=3) rfl ?_);refine box_event ?hg (N:=3) ?hd (cs:= #[.int .i64 a1_0, .int .i64 a1_1, .int .i64 a1_2]) (t:=40) ?hr ?_;(case hd=>rfl);(case hg=>rfl);(case hr=>exact hr_);intro gb179 hg w6 hbox hb;have BK179:=am_ (hbox);have GW179:=am_ ((by rw[hg];exact(below_size (a1_)):w.heap.size≤gb179));have GE179:=am_ ((by rw[hg];exact(below_size (a1_)):w.heap.size≤gb179));replace HB:=am_ (below_step (a1_) hb);clear hb hbox hg))
   replace BK179:=am_ (blk_drew BK179.out)
   replace HB:=am_ (below_drew1 HB.out)
   refine start_ (n:=11) (S:=fun w'=>w'.cell? ⟨gb179,0,none⟩=some (.int .i64 a1_0)∧w'.cell? ⟨gb179,1,none⟩=some (.int .i64 a1_1)∧w'.cell? ⟨gb179,2,none⟩=some (.int .i64 a1_2)) (ds:=[]) #[false,false,false,false,false,false,false,false,false,false,false] (by kernel_rfl) rfl rfl ⟨(blk_cell BK179.out 0).trans rfl,(blk_cell BK179.out 1).trans rfl,(blk_cell BK179.out 2).trans rfl⟩ (fun hHeld=>?_);refine with_tabW spec_shWith.tab1 spec_shWith.bits1 (fun HT_ HW_=>?_)
   generalize w6.drew=w7 at BK179 HB hHeld ⊢
   refine pure_ (i:=1) (N:=some 7) (v:=?_) (a':=?_) #[false,true,false,false,false,false,false,false,false,false,false] rfl rfl (any_of HT_.out (by kernel_rfl)) (fun _ _ _ h=>h) (Or.inl ⟨by rfl,?_⟩) ?_ ?_
   rotate_left
   ·intro w'
    go_simp
    with_reducible rfl
   rotate_left
   ·simp only[Act.put,pu_]
    rfl
   refine take_ (i:=3) (N:=some 9) (v:=?_) (a':=?_) #[false,true,false,true,false,false,false,false,false,false,false] rfl rfl (take_ofW HT_.out HW_.out (by kernel_rfl)) (fun _ _ _ h=>h) (Or.inl ⟨by rfl,?_⟩) hHeld ?_ ?_
   rotate_left
   ·rintro w' ⟨s0,s1,s2⟩
    go_simp
    with_reducible rfl
   rotate_left
   ·simp only[Act.put,pu_]
    rfl
   refine join_ (σ:=Value×Value×Value) 6 #[true,true,true,true,true,false,false,false,false,false,false] (fun s_=> [(6,s_.1),(8,s_.2.1),(10,s_.2.2)]) (fun s_ w'=>(w'.cell? ⟨gb179,0,none⟩=some (.int .i64 a1_0)∧w'.cell? ⟨gb179,1,none⟩=some (.int .i64 a1_1)∧w'.cell? ⟨gb179,2,none⟩=some (.int .i64 a1_2))∧(Kd.R k40 40 w' w.heap.size (fun k_=>some k_≠(s_.2.2:Value).ownBlock∧k_≠gb179) s_.2.1 y183)∧(Kd.R k40 40 w' w.heap.size (fun k_=>some k_≠(s_.2.1:Value).ownBlock∧k_≠gb179) s_.2.2 y186)∧(w'.heap[gb179]? = some (.cells #[.int .i64 a1_0, .int .i64 a1_1, .int .i64 a1_2] 40 (0,0)))∧(Below w.heap.size w w')) ?_ ?_
   rotate_left
   ·intro hCont
    refine two_ (i:=0) (j:=4) (Ni:=some 6) (Nj:=some 10) #[true,true,false,true,false,false,false,false,false,false,false] #[false,true,false,true,true,false,false,false,false,false,false] rfl rfl rfl rfl (two_of HT_.out (by kernel_rfl)) (by decide) (by decide) (fun K hK=>?_) (fun K hK=>?_)
    ·skip
     refine Kd.R_lit_step k40 _ 40 ?hg (N:=6) ?hd (xs:=([]:List (S40))) (inner:=[]) (ok:=fun _=>True) (okp:=fun _=>True) ?hr ?hp (fun _ hk=>hk) trivial (Below.refl _ _) (Nat.le_refl _) (by simp) ?_;(case hd=>rfl);(case hg=>rfl);(case hr=>exact hr_);(case hp=>exact(Reps.none _ _))
     intro v181 w8 ho9 hb hg_ hnew_
     clear hg_ hnew_
     (first|rw[← Ny180.out]at ho9|(simp only[Int.reduceToNat]at ho9;rw[← Ny180.out]at ho9))
     have HO182:=am_ (Kd.R_lower (Kd.R_newB ho9 (g:=gb179) (o:= .cells #[.int .i64 a1_0, .int .i64 a1_1, .int .i64 a1_2] 40 (0,0)) ((a5_ BK179.out))) (below_size ((a4_ GE179.out))))
     replace BK179:=am_ (blk_below (g:=gb179) (o:= .cells #[.int .i64 a1_0, .int .i64 a1_1, .int .i64 a1_2] 40 (0,0)) ((a5_ BK179.out)) hb)
     replace HB:=am_ (below_step ((a4_ GE179.out)) hb)
     clear hb ho9
     refine hK.out _ _ ⟨(blk_cell BK179.out 0).trans rfl,(blk_cell BK179.out 1).trans rfl,(blk_cell BK179.out 2).trans rfl⟩ (fun hHeld=>?_)
     clear hK K
     refine norm_ (a':=?_) ?_ ?_
     rotate_left
     ·show Act.put _ (some 6) _=_
      simp only[Act.put,pu_]
      rfl
     refine two_ (i:=2) (j:=4) (Ni:=some 8) (Nj:=some 10) #[true,true,true,true,false,false,false,false,false,false,false] #[true,true,false,true,true,false,false,false,false,false,false] rfl rfl rfl rfl (two_of HT_.out (by kernel_rfl)) (by decide) (by decide) (fun K hK=>?_) (fun K hK=>?_)
     ·skip
      refine Kd.R_append_rows_step k40 (w0:=w) w.heap.size (by rfl) (.tmp 6) (.tmp 7) 24 40 (.agg #[(.int .i64 0),(.int .i64 0),(.int .i64 0)]) 24 rfl Tryz.underlying24 info40 rfl (by decide) (by omega) v181 y180 l0 _ _ _ (fun k_=>k_≠gb179) (fun _=>False) rfl rfl ?aO ?aR (fun _ _ h=>h) (fun _ h=>h.elim) ?aF ?aB ?aS ?aL ?_
      (case aR=>exact(a6_ HR0.out))
      (case aB=>exact((a4_ GE179.out)))
      (case aF=>exact(fun k_ hk=>Kd.freshB (g:=gb179) (o:= .cells #[.int .i64 a1_0, .int .i64 a1_1, .int .i64 a1_2] 40 (0,0)) ((a5_ BK179.out)) k_ hk))
      (case aO=>exact((a31_ HO182.out)))
      (case aS=>exact(below_size ((a4_ GE179.out))))
      (case aL=>have:=LMc3.out;omega)
      intro v184 w10 ho hb hg hat
      rw[← Ny183.out]at ho
      have n0_:=am_ (blk_grown (g:=gb179) (o:= .cells #[.int .i64 a1_0, .int .i64 a1_1, .int .i64 a1_2] 40 (0,0)) ((a5_ BK179.out)) hg (Kd.R_away HO182.out (fun _ hk=>hk.2)))
      have n1_:=am_ (hb)
      have n2_:=am_ (ho)
      clear BK179 HB HO182
      have BK179:=n0_
      have HB:=n1_
      have HO185:=n2_
      clear n0_ n1_ n2_ ho hb hg hat
      refine hK.out _ _ ⟨(blk_cell BK179.out 0).trans rfl,(blk_cell BK179.out 1).trans rfl,(blk_cell BK179.out 2).trans rfl⟩ (fun hHeld=>?_)
      clear hK K
      refine norm_ (a':=?_) ?_ ?_
      rotate_left
      ·show Act.put _ (some 8) _=_
       simp only[Act.put,pu_]
       rfl
      refine one_ (i:=4) (N:=some 10) #[true,true,true,true,true,false,false,false,false,false,false] rfl rfl (one_of HT_.out (by kernel_rfl)) (by decide) (fun K hK=>?_)
      refine Kd.R_lit_step k40 _ 40 ?hg (N:=10) ?hd (xs:=([(⟨a1_0,a1_1,a1_2⟩:S40)]:List (S40))) (inner:=[.int .i64 a1_0, .int .i64 a1_1, .int .i64 a1_2]) (ok:=fun _=>True) (okp:=fun _=>True) ?hr ?hp (fun _ hk=>hk) trivial (Below.refl _ _) (Nat.le_refl _) (by simp) ?_;(case hd=>rfl);(case hg=>rfl);(case hr=>exact hr_);(case hp=>exact(Reps.c3 (show Kd.M k40 _ _ _ (⟨a1_0,a1_1,a1_2⟩:S40) [.int .i64 a1_0, .int .i64 a1_1, .int .i64 a1_2] from(k40_mkM _ _ _ (⟨a1_0,a1_1,a1_2⟩:S40) )) (Reps.none _ _)))
      intro v187 w11 ho12 hb hg_ hnew_
      clear hg_ hnew_
      (first|rw[← Ny186.out]at ho12|(simp only[Int.reduceToNat]at ho12;rw[← Ny186.out]at ho12))
      have HO188:=am_ (Kd.R_lower (Kd.R_newB (Kd.R_new' ho12 (Kd.R_lt ((a0_ HO185.out)))) (g:=gb179) (o:= .cells #[.int .i64 a1_0, .int .i64 a1_1, .int .i64 a1_2] 40 (0,0)) ((a5_ BK179.out))) (below_size ((a4_ GE179.out))))
      replace HO185:=am_ (Kd.R_elder' ((a0_ HO185.out)) (Kd.R_base ho12) hb)
      replace BK179:=am_ (blk_below (g:=gb179) (o:= .cells #[.int .i64 a1_0, .int .i64 a1_1, .int .i64 a1_2] 40 (0,0)) ((a5_ BK179.out)) hb)
      replace HB:=am_ (below_step ((a4_ GE179.out)) hb)
      clear hb ho12
      refine hK.out _ _ ⟨(blk_cell BK179.out 0).trans rfl,(blk_cell BK179.out 1).trans rfl,(blk_cell BK179.out 2).trans rfl⟩ (fun hHeld=>?_)
      clear hK K
      refine norm_ (a':=?_) ?_ ?_
      rotate_left
      ·show Act.put _ (some 10) _=_
       simp only[Act.put,pu_]
       rfl
      exact norm_ (by simp only[putAll,Act.put,List.setIfInBounds_toArray,List.set_cons_zero,List.set_cons_succ]) (hCont (v181,v184,v187) _ ⟨hHeld,((a43_ HO185.out)),((a39_ HO188.out)),((a5_ BK179.out)),((a4_ GE179.out))⟩)
     ·skip
      refine Kd.R_lit_step k40 _ 40 ?hg (N:=10) ?hd (xs:=([(⟨a1_0,a1_1,a1_2⟩:S40)]:List (S40))) (inner:=[.int .i64 a1_0, .int .i64 a1_1, .int .i64 a1_2]) (ok:=fun _=>True) (okp:=fun _=>True) ?hr ?hp (fun _ hk=>hk) trivial (Below.refl _ _) (Nat.le_refl _) (by simp) ?_;(case hd=>rfl);(case hg=>rfl);(case hr=>exact hr_);(case hp=>exact(Reps.c3 (show Kd.M k40 _ _ _ (⟨a1_0,a1_1,a1_2⟩:S40) [.int .i64 a1_0, .int .i64 a1_1, .int .i64 a1_2] from(k40_mkM _ _ _ (⟨a1_0,a1_1,a1_2⟩:S40) )) (Reps.none _ _)))
      intro v187 w10 ho11 hb hg_ hnew_
      clear hg_ hnew_
      (first|rw[← Ny186.out]at ho11|(simp only[Int.reduceToNat]at ho11;rw[← Ny186.out]at ho11))
      have HO188:=am_ (Kd.R_lower (Kd.R_newB (Kd.R_new' ho11 (Kd.R_lt ((a0_ HO182.out)))) (g:=gb179) (o:= .cells #[.int .i64 a1_0, .int .i64 a1_1, .int .i64 a1_2] 40 (0,0)) ((a5_ BK179.out))) (below_size ((a4_ GE179.out))))
      replace HO182:=am_ (Kd.R_elder' ((a0_ HO182.out)) (Kd.R_base ho11) hb)
      replace BK179:=am_ (blk_below (g:=gb179) (o:= .cells #[.int .i64 a1_0, .int .i64 a1_1, .int .i64 a1_2] 40 (0,0)) ((a5_ BK179.out)) hb)
      replace HB:=am_ (below_step ((a4_ GE179.out)) hb)
      clear hb ho11
      refine hK.out _ _ ⟨(blk_cell BK179.out 0).trans rfl,(blk_cell BK179.out 1).trans rfl,(blk_cell BK179.out 2).trans rfl⟩ (fun hHeld=>?_)
      clear hK K
      refine norm_ (a':=?_) ?_ ?_
      rotate_left
      ·show Act.put _ (some 10) _=_
       simp only[Act.put,pu_]
       rfl
      refine one_ (i:=2) (N:=some 8) #[true,true,true,true,true,false,false,false,false,false,false] rfl rfl (one_of HT_.out (by kernel_rfl)) (by decide) (fun K hK=>?_)
      refine Kd.R_append_rows_step k40 (w0:=w) w.heap.size (by rfl) (.tmp 6) (.tmp 7) 24 40 (.agg #[(.int .i64 0),(.int .i64 0),(.int .i64 0)]) 24 rfl Tryz.underlying24 info40 rfl (by decide) (by omega) v181 y180 l0 _ _ _ (fun k_=>some k_≠(v187:Value).ownBlock∧k_≠gb179) (fun _=>False) rfl rfl ?aO ?aR (fun _ _ h=>h) (fun _ h=>h.elim) ?aF ?aB ?aS ?aL ?_
      (case aR=>exact(a6_ HR0.out))
      (case aB=>exact((a4_ GE179.out)))
      (case aF=>exact(fun k_ hk=>⟨Kd.fresh' (Kd.R_lt ((a0_ HO188.out))) k_ hk,Kd.freshB (g:=gb179) (o:= .cells #[.int .i64 a1_0, .int .i64 a1_1, .int .i64 a1_2] 40 (0,0)) ((a5_ BK179.out)) k_ hk⟩))
      (case aO=>exact((a49_ HO182.out)))
      (case aS=>exact(below_size ((a4_ GE179.out))))
      (case aL=>have:=LMc3.out;omega)
      intro v184 w12 ho hb hg hat
      rw[← Ny183.out]at ho
      have n0_:=am_ (blk_grown (g:=gb179) (o:= .cells #[.int .i64 a1_0, .int .i64 a1_1, .int .i64 a1_2] 40 (0,0)) ((a5_ BK179.out)) hg (Kd.R_away HO182.out (fun _ hk=>hk.1.2)))
      have n1_:=am_ (Kd.R_after (ok:=(fun k_=>k_≠gb179)) ((a49_ HO188.out)) hg hat)
      have n2_:=am_ (hb)
      have n3_:=am_ (ho)
      clear BK179 HO188 HB HO182
      have BK179:=n0_
      have HO188:=n1_
      have HB:=n2_
      have HO185:=n3_
      clear n0_ n1_ n2_ n3_ ho hb hg hat
      refine hK.out _ _ ⟨(blk_cell BK179.out 0).trans rfl,(blk_cell BK179.out 1).trans rfl,(blk_cell BK179.out 2).trans rfl⟩ (fun hHeld=>?_)
      clear hK K
      refine norm_ (a':=?_) ?_ ?_
      rotate_left
      ·show Act.put _ (some 8) _=_
       simp only[Act.put,pu_]
       rfl
      exact norm_ (by simp only[putAll,Act.put,List.setIfInBounds_toArray,List.set_cons_zero,List.set_cons_succ]) (hCont (v181,v184,v187) _ ⟨hHeld,((a0_ HO185.out)),((a43_ HO188.out)),((a5_ BK179.out)),((a4_ GE179.out))⟩)
    ·skip
     refine Kd.R_lit_step k40 _ 40 ?hg (N:=10) ?hd (xs:=([(⟨a1_0,a1_1,a1_2⟩:S40)]:List (S40))) (inner:=[.int .i64 a1_0, .int .i64 a1_1, .int .i64 a1_2]) (ok:=fun _=>True) (okp:=fun _=>True) ?hr ?hp (fun _ hk=>hk) trivial (Below.refl _ _) (Nat.le_refl _) (by simp) ?_;(case hd=>rfl);(case hg=>rfl);(case hr=>exact hr_);(case hp=>exact(Reps.c3 (show Kd.M k40 _ _ _ (⟨a1_0,a1_1,a1_2⟩:S40) [.int .i64 a1_0, .int .i64 a1_1, .int .i64 a1_2] from(k40_mkM _ _ _ (⟨a1_0,a1_1,a1_2⟩:S40) )) (Reps.none _ _)))
     intro v187 w8 ho9 hb hg_ hnew_
     clear hg_ hnew_
     (first|rw[← Ny186.out]at ho9|(simp only[Int.reduceToNat]at ho9;rw[← Ny186.out]at ho9))
     have HO188:=am_ (Kd.R_lower (Kd.R_newB ho9 (g:=gb179) (o:= .cells #[.int .i64 a1_0, .int .i64 a1_1, .int .i64 a1_2] 40 (0,0)) ((a5_ BK179.out))) (below_size ((a4_ GE179.out))))
     replace BK179:=am_ (blk_below (g:=gb179) (o:= .cells #[.int .i64 a1_0, .int .i64 a1_1, .int .i64 a1_2] 40 (0,0)) ((a5_ BK179.out)) hb)
     replace HB:=am_ (below_step ((a4_ GE179.out)) hb)
     clear hb ho9
     refine hK.out _ _ ⟨(blk_cell BK179.out 0).trans rfl,(blk_cell BK179.out 1).trans rfl,(blk_cell BK179.out 2).trans rfl⟩ (fun hHeld=>?_)
     clear hK K
     refine norm_ (a':=?_) ?_ ?_
     rotate_left
     ·show Act.put _ (some 10) _=_
      simp only[Act.put,pu_]
      rfl
     refine one_ (i:=0) (N:=some 6) #[true,true,false,true,true,false,false,false,false,false,false] rfl rfl (one_of HT_.out (by kernel_rfl)) (by decide) (fun K hK=>?_)
     refine Kd.R_lit_step k40 _ 40 ?hg (N:=6) ?hd (xs:=([]:List (S40))) (inner:=[]) (ok:=fun _=>True) (okp:=fun _=>True) ?hr ?hp (fun _ hk=>hk) trivial (Below.refl _ _) (Nat.le_refl _) (by simp) ?_;(case hd=>rfl);(case hg=>rfl);(case hr=>exact hr_);(case hp=>exact(Reps.none _ _))
     intro v181 w10 ho11 hb hg_ hnew_
     clear hg_ hnew_
     (first|rw[← Ny180.out]at ho11|(simp only[Int.reduceToNat]at ho11;rw[← Ny180.out]at ho11))
     have HO182:=am_ (Kd.R_lower (Kd.R_newB (Kd.R_new' ho11 (Kd.R_lt ((a0_ HO188.out)))) (g:=gb179) (o:= .cells #[.int .i64 a1_0, .int .i64 a1_1, .int .i64 a1_2] 40 (0,0)) ((a5_ BK179.out))) (below_size ((a4_ GE179.out))))
     replace HO188:=am_ (Kd.R_elder' ((a0_ HO188.out)) (Kd.R_base ho11) hb)
     replace BK179:=am_ (blk_below (g:=gb179) (o:= .cells #[.int .i64 a1_0, .int .i64 a1_1, .int .i64 a1_2] 40 (0,0)) ((a5_ BK179.out)) hb)
     replace HB:=am_ (below_step ((a4_ GE179.out)) hb)
     clear hb ho11
     refine hK.out _ _ ⟨(blk_cell BK179.out 0).trans rfl,(blk_cell BK179.out 1).trans rfl,(blk_cell BK179.out 2).trans rfl⟩ (fun hHeld=>?_)
     clear hK K
     refine norm_ (a':=?_) ?_ ?_
     rotate_left
     ·show Act.put _ (some 6) _=_
      simp only[Act.put,pu_]
      rfl
     refine one_ (i:=2) (N:=some 8) #[true,true,true,true,true,false,false,false,false,false,false] rfl rfl (one_of HT_.out (by kernel_rfl)) (by decide) (fun K hK=>?_)
     refine Kd.R_append_rows_step k40 (w0:=w) w.heap.size (by rfl) (.tmp 6) (.tmp 7) 24 40 (.agg #[(.int .i64 0),(.int .i64 0),(.int .i64 0)]) 24 rfl Tryz.underlying24 info40 rfl (by decide) (by omega) v181 y180 l0 _ _ _ (fun k_=>some k_≠(v187:Value).ownBlock∧k_≠gb179) (fun _=>False) rfl rfl ?aO ?aR (fun _ _ h=>h) (fun _ h=>h.elim) ?aF ?aB ?aS ?aL ?_
     (case aR=>exact(a6_ HR0.out))
     (case aB=>exact((a4_ GE179.out)))
     (case aF=>exact(fun k_ hk=>⟨Kd.fresh' (Kd.R_lt ((a0_ HO188.out))) k_ hk,Kd.freshB (g:=gb179) (o:= .cells #[.int .i64 a1_0, .int .i64 a1_1, .int .i64 a1_2] 40 (0,0)) ((a5_ BK179.out)) k_ hk⟩))
     (case aO=>exact((a39_ HO182.out)))
     (case aS=>exact(below_size ((a4_ GE179.out))))
     (case aL=>have:=LMc3.out;omega)
     intro v184 w12 ho hb hg hat
     rw[← Ny183.out]at ho
     have n0_:=am_ (blk_grown (g:=gb179) (o:= .cells #[.int .i64 a1_0, .int .i64 a1_1, .int .i64 a1_2] 40 (0,0)) ((a5_ BK179.out)) hg (Kd.R_away HO182.out (fun _ hk=>hk.2)))
     have n1_:=am_ (Kd.R_after (ok:=(fun k_=>k_≠gb179)) ((a39_ HO188.out)) hg hat)
     have n2_:=am_ (hb)
     have n3_:=am_ (ho)
     clear BK179 HO188 HB HO182
     have BK179:=n0_
     have HO188:=n1_
     have HB:=n2_
     have HO185:=n3_
     clear n0_ n1_ n2_ n3_ ho hb hg hat
     refine hK.out _ _ ⟨(blk_cell BK179.out 0).trans rfl,(blk_cell BK179.out 1).trans rfl,(blk_cell BK179.out 2).trans rfl⟩ (fun hHeld=>?_)
     clear hK K
     refine norm_ (a':=?_) ?_ ?_
     rotate_left
     ·show Act.put _ (some 8) _=_
      simp only[Act.put,pu_]
      rfl
     exact norm_ (by simp only[putAll,Act.put,List.setIfInBounds_toArray,List.set_cons_zero,List.set_cons_succ]) (hCont (v181,v184,v187) _ ⟨hHeld,((a0_ HO185.out)),((a43_ HO188.out)),((a5_ BK179.out)),((a4_ GE179.out))⟩)
   rintro⟨v181,v184,v187⟩ w13 ⟨hS_,h0_,h1_,h2_,h3_⟩
   have n0_:Aside0 (Kd.R k40 40 w13 w.heap.size (fun k_=>some k_≠(v187:Value).ownBlock∧k_≠gb179) v184 y183):=⟨h0_⟩
   have n1_:Aside0 (Kd.R k40 40 w13 w.heap.size (fun k_=>some k_≠(v184:Value).ownBlock∧k_≠gb179) v187 y186):=⟨h1_⟩
   have n2_:Aside0 (w13.heap[gb179]? = some (.cells #[.int .i64 a1_0, .int .i64 a1_1, .int .i64 a1_2] 40 (0,0))):=⟨h2_⟩
   have n3_:Aside0 (Below w.heap.size w w13):=⟨h3_⟩
   clear BK179 HB h0_ h1_ h2_ h3_
   have HO185:=n0_
   have HO188:=n1_
   have BK179:=n2_
   have HB:=n3_
   clear n0_ n1_ n2_ n3_
   have hHeld:w13.cell? ⟨gb179,0,none⟩=some (.int .i64 a1_0)∧w13.cell? ⟨gb179,1,none⟩=some (.int .i64 a1_1)∧w13.cell? ⟨gb179,2,none⟩=some (.int .i64 a1_2):=hS_
   obtain⟨Ao15,co15,eo15⟩:=Kd.R_slice HO188.out
   (first|subst eo15|(injection eo15 with f1_ f2_ f3_;have f4_:=f1_.symm;have f5_:=f3_.symm;clear f1_ f2_ f3_;subst f4_;subst f5_))
   refine norm_ (a':=?_) ?_ ?_
   rotate_left
   ·simp only[putAll,Act.put,List.setIfInBounds_toArray,List.set_cons_zero,List.set_cons_succ]
    rfl
   refine one_ (i:=5) (N:=some 11) #[true,true,true,true,true,true,false,false,false,false,false] rfl rfl (one_of HT_.out (by kernel_rfl)) (by decide) (fun K hK=>?_)
   refine Kd.R_append_rows_step k40 (w0:=w) w.heap.size (by rfl) (.tmp 8) (.tmp 10) 24 40 (.agg #[(.int .i64 0),(.int .i64 0),(.int .i64 0)]) 24 rfl Tryz.underlying24 info40 rfl (by decide) (by omega) v184 y183 y186 _ _ _ (fun k_=>some k_≠(.slice Ao15 y186.length co15:Value).ownBlock∧k_≠gb179) (fun _=>False) rfl rfl ?aO ?aR (fun _ _ h=>h) (fun _ h=>h.elim) ?aF ?aB ?aS ?aL ?_
   (case aR=>exact(a8_ HO188.out))
   (case aB=>exact((a4_ GE179.out)))
   (case aF=>exact(fun k_ hk=>⟨Kd.fresh' (Kd.R_lt ((a0_ HO188.out))) k_ hk,Kd.freshB (g:=gb179) (o:= .cells #[.int .i64 a1_0, .int .i64 a1_1, .int .i64 a1_2] 40 (0,0)) ((a5_ BK179.out)) k_ hk⟩))
   (case aO=>exact((a0_ HO185.out)))
   (case aS=>exact(below_size ((a4_ GE179.out))))
   (case aL=>have:=LMc4.out;omega)
   intro v190 w14 ho hb hg hat
   rw[← Ny189.out]at ho
   have n0_:=am_ (blk_grown (g:=gb179) (o:= .cells #[.int .i64 a1_0, .int .i64 a1_1, .int .i64 a1_2] 40 (0,0)) ((a5_ BK179.out)) hg (Kd.R_away HO185.out (fun _ hk=>hk.2)))
   have n1_:=am_ (Kd.R_after (ok:=(fun k_=>k_≠gb179)) ((a43_ HO188.out)) hg hat)
   have n2_:=am_ (hb)
   have n3_:=am_ (ho)
   clear BK179 HO188 HB HO185
   have BK179:=n0_
   have HO188:=n1_
   have HB:=n2_
   have HO191:=n3_
   clear n0_ n1_ n2_ n3_ ho hb hg hat
   obtain⟨Ao16,co16,eo16⟩:=Kd.R_slice HO191.out
   (first|subst eo16|(injection eo16 with f1_ f2_ f3_;have f4_:=f1_.symm;have f5_:=f3_.symm;clear f1_ f2_ f3_;subst f4_;subst f5_))
   refine hK.out _ _ ⟨(blk_cell BK179.out 0).trans rfl,(blk_cell BK179.out 1).trans rfl,(blk_cell BK179.out 2).trans rfl⟩ (fun hHeld=>?_)
   clear hK K
   refine norm_ (a':=?_) ?_ ?_
   rotate_left
   ·show Act.put _ (some 11) _=_
    simp only[Act.put,pu_]
    rfl
   refine one_ (i:=6) (N:=some 12) #[true,true,true,true,true,true,true,false,false,false,false] rfl rfl (one_of HT_.out (by kernel_rfl)) (by decide) (fun K hK=>?_)
   refine goes_ Tryz.func63 (by kernel_rfl) rfl #[.slice Ao16 y189.length co16] (by rfl) rfl rfl gd_ ?_
   with_reducible refine(spec_shSorted.calls k _ _ y189 t192 t193 _ ?side1 ?side2 A5.out).mono ?_
   (case side1=>exact(a8_ HO191.out))
   (case side2=>exact(Kd.R_reads' HO191.out).2.1)
   rintro e w17 ⟨v194,rfl,ho0,hb⟩
   refine⟨_,rfl,?_⟩
   have HO195:=am_ (Kd.R_lower (Kd.R_newB (Kd.R_new' (Kd.R_new' ho0 (Kd.R_lt ((a0_ HO188.out)))) (Kd.R_lt ((a0_ HO191.out)))) (g:=gb179) (o:= .cells #[.int .i64 a1_0, .int .i64 a1_1, .int .i64 a1_2] 40 (0,0)) ((a5_ BK179.out))) (below_size ((a4_ GE179.out))))
   replace HO188:=am_ (Kd.R_elder' ((a0_ HO188.out)) (Kd.R_base ho0) hb)
   replace HO191:=am_ (Kd.R_elder' ((a0_ HO191.out)) (Kd.R_base ho0) hb)
   replace BK179:=am_ (blk_below (g:=gb179) (o:= .cells #[.int .i64 a1_0, .int .i64 a1_1, .int .i64 a1_2] 40 (0,0)) ((a5_ BK179.out)) hb)
   replace HB:=am_ (below_step ((a4_ GE179.out)) hb)
   (try clear hb)
   (try clear hb2)
   (try clear hk)
   (try clear hi)
   (try clear ho0)
   refine hK.out _ _ ⟨(blk_cell BK179.out 0).trans rfl,(blk_cell BK179.out 1).trans rfl,(blk_cell BK179.out 2).trans rfl⟩ (fun hHeld=>?_)
   clear hK K
   refine norm_ (a':=?_) ?_ ?_
   rotate_left
   ·show Act.put _ (some 12) _=_
    simp only[Act.put,pu_]
    rfl
   refine pure_ (i:=7) (N:=some 13) (v:=?_) (a':=?_) #[true,true,true,true,true,true,true,true,false,false,false] rfl rfl (any_of HT_.out (by kernel_rfl)) (fun _ _ _ h=>h) (Or.inl ⟨by rfl,?_⟩) ?_ ?_
   rotate_left
   ·intro w'
    go_simp
    with_reducible rfl
   rotate_left
   ·simp only[Act.put,pu_]
    rfl
   refine pure_ (i:=8) (N:=some 14) (v:=?_) (a':=?_) #[true,true,true,true,true,true,true,true,true,false,false] rfl rfl (any_of HT_.out (by kernel_rfl)) (fun _ _ _ h=>h) (Or.inl ⟨by rfl,?_⟩) ?_ ?_
   rotate_left
   ·intro w'
    go_simp
    with_reducible rfl
   rotate_left
   ·simp only[Act.put,pu_]
    rfl
   refine pure_ (i:=9) (N:=some 4) (v:=?_) (a':=?_) #[true,true,true,true,true,true,true,true,true,true,false] rfl rfl (any_of HT_.out (by kernel_rfl)) (fun _ _ _ h=>h) (Or.inl ⟨by rfl,?_⟩) ?_ ?_
   rotate_left
   ·intro w'
    go_simp
    with_reducible rfl
   rotate_left
   ·simp only[Act.put,pu_]
    rfl
   refine pure_ (i:=10) (N:=some 5) (v:=?_) (a':=?_) #[true,true,true,true,true,true,true,true,true,true,true] rfl rfl (any_of HT_.out (by kernel_rfl)) (fun _ _ _ h=>h) (Or.inl ⟨by rfl,?_⟩) ?_ ?_
   rotate_left
   ·intro w'
    go_simp
    with_reducible rfl
   rotate_left
   ·simp only[Act.put,pu_]
    rfl
   refine done_ (done_of HT_.out (by kernel_rfl)) ?_
   try go_wp2
   go_ret2
   exact⟨_,a10_,(a25_ HO195.out),(a4_ GE179.out)⟩
  ·rw[if_neg c4]at H
   exact absurd H (by simp)
 ·rw[if_neg c3]at H
  exact absurd H (by simp)

/-! ### spec_l1Cur_among: function 56 -/
def spec_l1Cur_among.f (s0_0:List Int) (s0_1:Int) (s0_2:Int) (l1:List Int):Option (Int×Int×Int):=(spec_l1Cur_pick.f s0_0 s0_1 s0_2 (l1.length:Int)).bind fun bt196=>(if 0≤bt196.1 then(if bt196.1<(l1.length:Int) then(some (rd l1 bt196.1,bt196.2.1,bt196.2.2)) else(none)) else(none))
set_option maxHeartbeats 8000000 in
set_option maxRecDepth 100000 in
theorem spec_l1Cur_among.calls (g:Nat) (s0_0:List Int) (s0_1:Int) (s0_2:Int) (A1:Option Addr) (c1:Nat) (l1:List Int) (r1:Int) (r2:Int) (r3:Int) (w0 w:World) (hI:IsS69 w0 w g s0_0 s0_1 s0_2) (hB:Below w0.heap.size w0 w) (hr1:Kd.C (Kd.int .i64) w A1 l1.length l1) (hc1:l1.length≤c1) (hf1:∀ad,A1=some ad→0<l1.length→ad.block≠g) (h:spec_l1Cur_among.f s0_0 s0_1 s0_2 l1=some (r1,r2,r3)) :
 Calls Tryz.prog 56 #[.pointer (some ⟨g,0,none⟩), .slice A1 l1.length c1] w fun e w'=>e = .returned (.int .i64 r1)∧IsS69 w0 w' g s0_0 r2 r3∧Below w0.heap.size w0 w'∧KeepBut w w' g none:=by
 have HR1:=am_ hr1
 have HC1:=am_ hc1
 clear hr1 hc1
 have HI0:=am_ hI
 have HK:=am_ (KeepBut.refl w g none)
 have HL:=am_ hB.size
 clear hI
 have HW0:=am_ hB.size
 have HB:=am_ hB
 clear hB
 have H:((spec_l1Cur_pick.f s0_0 s0_1 s0_2 (l1.length:Int)).bind fun bt196=>(if 0≤bt196.1 then(if bt196.1<(l1.length:Int) then(some (rd l1 bt196.1,bt196.2.1,bt196.2.2)) else(none)) else(none)))=some (r1,r2,r3):=h
 clear h
 obtain⟨⟨t196,t197,t198⟩,A3,H⟩:=bo_ H
 try dsimp only at H
 by_cases c4:0≤t196
 ·rw[if_pos c4]at H
  have c4b0:decide (0≤t196)=true:=decide_eq_true c4
  clear c4
  by_cases c5:t196<(l1.length:Int)
  ·rw[if_pos c5]at H
   have c5b0:decide (t196<(l1.length:Int))=true:=decide_eq_true c5
   clear c5
   simp only[Option.some.injEq,Prod.mk.injEq]at H
   obtain⟨rfl,rfl,rfl⟩:=H
   go_enter Tryz.func56,Tryz.ntmps56
   go_wp2_with (first|((with_reducible refine gate_callee (f:=55) rfl ?_);refine goesL_ (some 9) rfl rfl Tryz.func55 (by kernel_rfl) rfl #[.pointer (some ⟨g,0,none⟩), .int .i64 (l1.length:Int)] rfl gd_ ?_;(with_reducible refine(spec_l1Cur_pick.calls g s0_0 s0_1 s0_2 (l1.length:Int) t196 t197 t198 w0 _ ?side1 ?side2 A3.out).mono ?_);(case side1=>exact(a2_ HI0.out));(case side2=>exact(a3_ HI0.out));rintro e w6 ⟨rfl,hi,hb,hk⟩;refine⟨_,rfl,?_⟩;replace HK:=am_ (KeepBut.trans (a7_) hk (.inl rfl));replace HB:=am_ (hb);replace HI0:=am_ (hi);(try clear hb);(try clear hb2);(try clear hk);(try clear hi);have p199:0≤(t196:Int):=of_decide_eq_true (a12_);have q199:t196<(l1.length:Int):=of_decide_eq_true (a12_);obtain⟨ad199,e199,hx199_0⟩:=Kd.at_int HR1.out t196 p199 q199;cases e199;replace hx199_0:=keep_cell HK.out hx199_0 (by first|(rw[add_block];exact hf1 _ rfl (by omega))|exact hf1 _ rfl (by omega)|exact hf1 ad199 rfl (by omega));replace p199:=eq_true p199;replace q199:=eq_true q199))
   go_ret
   exact⟨a10_,(a2_ HI0.out),(a3_ HI0.out),a7_⟩
  ·rw[if_neg c5]at H
   exact absurd H (by simp)
 ·rw[if_neg c4]at H
  exact absurd H (by simp)

/-! ### spec_l1Cur_hole: function 87 -/
def spec_l1Cur_hole.f (s0_0:List Int) (s0_1:Int) (s0_2:Int):Option (Int×Int×Int×Int×Int):=(spec_l1Cur_pick.f s0_0 s0_1 s0_2 40).bind fun bt201=>((spec_l1Cur_pick.f s0_0 bt201.2.1 bt201.2.2 60).bind fun bt204=>((spec_l1Cur_among.f s0_0 bt204.2.1 bt204.2.2 (([0,2,5,bt201.1,bt204.1,1990]:List Int))).bind fun bt210=>((spec_l1Cur_pick.f s0_0 bt210.2.1 bt210.2.2 20).bind fun bt213=>((spec_l1Cur_among.f s0_0 bt213.2.1 bt213.2.2 (([0,1,2,3,5,bt213.1]:List Int))).bind fun bt219=>((spec_l1Cur_among.f s0_0 bt219.2.1 bt219.2.2 (([1,2,3,4,10]:List Int))).bind fun bt225=>(some (bt219.1,bt210.1,wrap64 (bt210.1+bt225.1),bt225.2.1,bt225.2.2)))))))
set_option maxHeartbeats 8000000 in
set_option maxRecDepth 100000 in
theorem spec_l1Cur_hole.calls (g:Nat) (s0_0:List Int) (s0_1:Int) (s0_2:Int) (r1:Int) (r2:Int) (r3:Int) (r4:Int) (r5:Int) (w0 w:World) (hI:IsS69 w0 w g s0_0 s0_1 s0_2) (hB:Below w0.heap.size w0 w) (h:spec_l1Cur_hole.f s0_0 s0_1 s0_2=some (r1,r2,r3,r4,r5)) :
 Calls Tryz.prog 87 #[.pointer (some ⟨g,0,none⟩)] w fun e w'=>e = .returned (.agg #[.int .i64 r1, .int .i64 r2, .int .i64 r3])∧IsS69 w0 w' g s0_0 r4 r5∧Below w0.heap.size w0 w'∧KeepBut w w' g none:=by
 have hu40:=Tryz.underlying40
 have HI0:=am_ hI
 have HK:=am_ (KeepBut.refl w g none)
 have HL:=am_ hB.size
 clear hI
 have HW0:=am_ hB.size
 have HB:=am_ hB
 clear hB
 have H:((spec_l1Cur_pick.f s0_0 s0_1 s0_2 40).bind fun bt201=>((spec_l1Cur_pick.f s0_0 bt201.2.1 bt201.2.2 60).bind fun bt204=>((spec_l1Cur_among.f s0_0 bt204.2.1 bt204.2.2 (([0,2,5,bt201.1,bt204.1,1990]:List Int))).bind fun bt210=>((spec_l1Cur_pick.f s0_0 bt210.2.1 bt210.2.2 20).bind fun bt213=>((spec_l1Cur_among.f s0_0 bt213.2.1 bt213.2.2 (([0,1,2,3,5,bt213.1]:List Int))).bind fun bt219=>((spec_l1Cur_among.f s0_0 bt219.2.1 bt219.2.2 (([1,2,3,4,10]:List Int))).bind fun bt225=>(some (bt219.1,bt210.1,wrap64 (bt210.1+bt225.1),bt225.2.1,bt225.2.2))))))))=some (r1,r2,r3,r4,r5):=h
 clear h
 obtain⟨⟨t201,t202,t203⟩,A2,H⟩:=bo_ H
 try dsimp only at H
 obtain⟨⟨t204,t205,t206⟩,A3,H⟩:=bo_ H
 try dsimp only at H
 obtain⟨y207,hy207⟩:∃y_:List Int,y_=(([0,2,5,t201,t204,1990]:List Int)):=⟨_,rfl⟩
 replace H:((spec_l1Cur_among.f s0_0 t205 t206 y207).bind fun bt210=>((spec_l1Cur_pick.f s0_0 bt210.2.1 bt210.2.2 20).bind fun bt213=>((spec_l1Cur_among.f s0_0 bt213.2.1 bt213.2.2 (([0,1,2,3,5,bt213.1]:List Int))).bind fun bt219=>((spec_l1Cur_among.f s0_0 bt219.2.1 bt219.2.2 (([1,2,3,4,10]:List Int))).bind fun bt225=>(some (bt219.1,bt210.1,wrap64 (bt210.1+bt225.1),bt225.2.1,bt225.2.2))))))=some (r1,r2,r3,r4,r5):=by first|(rw[hy207];with_reducible exact H)|(have H2_:=(Option.bind_some _ _).symm.trans H;rw[hy207];with_reducible exact H2_)|(have H2_:=(Option.bind_some _ _).symm.trans H;with_reducible exact H2_) | with_reducible exact H|(rw[hy207];exact H)|exact H
 have Ny207:=am_ hy207
 clear hy207
 obtain⟨⟨t210,t211,t212⟩,A4,H⟩:=bo_ H
 try dsimp only at H
 obtain⟨⟨t213,t214,t215⟩,A5,H⟩:=bo_ H
 try dsimp only at H
 obtain⟨y216,hy216⟩:∃y_:List Int,y_=(([0,1,2,3,5,t213]:List Int)):=⟨_,rfl⟩
 replace H:((spec_l1Cur_among.f s0_0 t214 t215 y216).bind fun bt219=>((spec_l1Cur_among.f s0_0 bt219.2.1 bt219.2.2 (([1,2,3,4,10]:List Int))).bind fun bt225=>(some (bt219.1,t210,wrap64 (t210+bt225.1),bt225.2.1,bt225.2.2))))=some (r1,r2,r3,r4,r5):=by first|(rw[hy216];with_reducible exact H)|(have H2_:=(Option.bind_some _ _).symm.trans H;rw[hy216];with_reducible exact H2_)|(have H2_:=(Option.bind_some _ _).symm.trans H;with_reducible exact H2_) | with_reducible exact H|(rw[hy216];exact H)|exact H
 have Ny216:=am_ hy216
 clear hy216
 obtain⟨⟨t219,t220,t221⟩,A6,H⟩:=bo_ H
 try dsimp only at H
 obtain⟨y222,hy222⟩:∃y_:List Int,y_=(([1,2,3,4,10]:List Int)):=⟨_,rfl⟩
 replace H:((spec_l1Cur_among.f s0_0 t220 t221 y222).bind fun bt225=>(some (t219,t210,wrap64 (t210+bt225.1),bt225.2.1,bt225.2.2)))=some (r1,r2,r3,r4,r5):=by first|(rw[hy222];with_reducible exact H)|(have H2_:=(Option.bind_some _ _).symm.trans H;rw[hy222];with_reducible exact H2_)|(have H2_:=(Option.bind_some _ _).symm.trans H;with_reducible exact H2_) | with_reducible exact H|(rw[hy222];exact H)|exact H
 have Ny222:=am_ hy222
 clear hy222
 obtain⟨⟨t225,t226,t227⟩,A7,H⟩:=bo_ H
 try dsimp only at H
 simp only[Option.some.injEq,Prod.mk.injEq]at H
 obtain⟨rfl,rfl,rfl,rfl,rfl⟩:=H
 go_enter Tryz.func87,Tryz.ntmps87
 go_wp2_with (first|((with_reducible refine gate_dst (N:=2) rfl ?_);refine box_event ?hg (N:=2) ?hd (cs:= #[.int .i64 0, .int .i64 0, .int .i64 0]) (t:=40) ?hr ?_;(case hd=>rfl);(case hg=>rfl);(case hr=>exact hr_);intro gb200 hg w8 hbox hb;replace HB:=am_ (below_step ((a3_ HI0.out)) hb);have BK200:=am_ (hbox);have GW200:=am_ ((by rw[hg];exact(keep_size (w:=w) (g:=g) (row:=none) (a7_)):w.heap.size≤gb200));have GE200:=am_ ((Nat.le_trans HW0.out (by rw[hg];exact(keep_size (w:=w) (g:=g) (row:=none) (a7_)):w.heap.size≤gb200):w0.heap.size≤gb200));replace HK:=am_ (KeepBut.trans (a7_) (KeepBut.of_below hb g none) (.inl rfl));have NB0_200:=am_ ((by rw[hg];exact Nat.ne_of_lt (IsS69.lt (show IsS69 w0 _ g s0_0 s0_1 s0_2 from(a2_ HI0.out))):g≠gb200));have NB200_0:=am_ ((by rw[hg];exact Nat.ne_of_gt (IsS69.lt (show IsS69 w0 _ g s0_0 s0_1 s0_2 from(a2_ HI0.out))):gb200≠g));replace HI0:=am_ (IsS69.below ((a2_ HI0.out)) hb);clear hb hbox hg)|((with_reducible refine gate_callee (f:=55) rfl ?_);refine goesL_ (some 6) rfl rfl Tryz.func55 (by kernel_rfl) rfl #[.pointer (some ⟨g,0,none⟩), .int .i64 40] rfl gd_ ?_;(with_reducible refine(spec_l1Cur_pick.calls g s0_0 s0_1 s0_2 40 t201 t202 t203 w0 _ ?side1 ?side2 A2.out).mono ?_);(case side1=>exact(a9_ HI0.out NB0_200.out));(case side2=>exact(a18_ HI0.out GE200.out));rintro e w9 ⟨rfl,hi,hb,hk⟩;refine⟨_,rfl,?_⟩;replace BK200:=am_ (KeepBut.blk hk (g':=gb200) (o:= .cells #[.int .i64 0, .int .i64 0, .int .i64 0] 40 (0,0)) ((a5_ BK200.out)) NB200_0.out (by simp));replace HK:=am_ (KeepBut.trans ((a16_ GW200.out)) hk (.inl rfl));replace HB:=am_ (hb);replace HI0:=am_ (hi);(try clear hb);(try clear hb2);(try clear hk);(try clear hi))|((with_reducible refine gate_callee (f:=55) rfl ?_);refine goesL_ (some 8) rfl rfl Tryz.func55 (by kernel_rfl) rfl #[.pointer (some ⟨g,0,none⟩), .int .i64 60] rfl gd_ ?_;(with_reducible refine(spec_l1Cur_pick.calls g s0_0 t202 t203 60 t204 t205 t206 w0 _ ?side1 ?side2 A3.out).mono ?_);(case side1=>exact(a9_ HI0.out NB0_200.out));(case side2=>exact(a18_ HI0.out GE200.out));rintro e w10 ⟨rfl,hi,hb,hk⟩;refine⟨_,rfl,?_⟩;replace BK200:=am_ (KeepBut.blk hk (g':=gb200) (o:= .cells #[.int .i64 0, .int .i64 0, .int .i64 0] 40 (0,0)) ((a5_ BK200.out)) NB200_0.out (by simp));replace HK:=am_ (KeepBut.trans ((a16_ GW200.out)) hk (.inl rfl));replace HB:=am_ (hb);replace HI0:=am_ (hi);(try clear hb);(try clear hb2);(try clear hk);(try clear hi))|((with_reducible refine gate_dst (N:=9) rfl ?_);refine Kd.R_lit (Kd.int .i64) _ 3 ?hg (N:=9) ?hd (xs:=([0,2,5,t201,t204,1990]:List Int)) (inner:=[.int .i64 0, .int .i64 2, .int .i64 5, .int .i64 t201, .int .i64 t204, .int .i64 1990]) (ok:=fun _=>True) (okp:=fun _=>True) ?hr ?hp (fun _ hk=>hk) trivial (Below.refl _ _) (Nat.le_refl _) (by simp) ?_;(case hd=>rfl);(case hg=>rfl);(case hr=>exact hr_);(case hp=>exact(Reps.one (show Kd.M (Kd.int .i64) _ _ _ 0 [.int .i64 0] from rfl) (Reps.one (show Kd.M (Kd.int .i64) _ _ _ 2 [.int .i64 2] from rfl) (Reps.one (show Kd.M (Kd.int .i64) _ _ _ 5 [.int .i64 5] from rfl) (Reps.one (show Kd.M (Kd.int .i64) _ _ _ t201 [.int .i64 t201] from rfl) (Reps.one (show Kd.M (Kd.int .i64) _ _ _ t204 [.int .i64 t204] from rfl) (Reps.one (show Kd.M (Kd.int .i64) _ _ _ 1990 [.int .i64 1990] from rfl) (Reps.none _ _))))))));intro v208 w11 ho12 hb hg_ hnew_;clear hg_ hnew_;(first|rw[← Ny207.out]at ho12|(simp only[Int.reduceToNat]at ho12;rw[← Ny207.out]at ho12));have HO209:=am_ (Kd.R_lower ho12 (keep_size (w:=w) (g:=g) (row:=none) ((a16_ GW200.out))));replace BK200:=am_ (blk_below (g:=gb200) (o:= .cells #[.int .i64 0, .int .i64 0, .int .i64 0] 40 (0,0)) ((a5_ BK200.out)) hb);replace HK:=am_ (KeepBut.trans ((a16_ GW200.out)) (KeepBut.of_below hb g none) (.inl rfl));replace HB:=am_ (below_step ((a18_ HI0.out GE200.out)) hb);replace HI0:=am_ (IsS69.below ((a9_ HI0.out NB0_200.out)) hb);clear hb ho12;obtain⟨Ao13,co13,eo13⟩:=Kd.R_slice HO209.out;subst eo13)|((with_reducible refine gate_callee (f:=56) rfl ?_);refine goesL_ (some 10) rfl rfl Tryz.func56 (by kernel_rfl) rfl #[.pointer (some ⟨g,0,none⟩), .slice Ao13 y207.length co13] rfl gd_ ?_;(with_reducible refine(spec_l1Cur_among.calls g s0_0 t205 t206 _ _ y207 t210 t211 t212 w0 _ ?side1 ?side2 ?side3 ?side4 ?side5 A4.out).mono ?_);(case side1=>exact(a9_ HI0.out NB0_200.out));(case side2=>exact(a18_ HI0.out GE200.out));(case side3=>exact(a8_ HO209.out));(case side4=>exact(Kd.R_reads' HO209.out).2.1);(case side5=>exact far_slice (IsS69.own_ne HI0.out HO209.out (by decide)));rintro e w14 ⟨rfl,hi,hb,hk⟩;refine⟨_,rfl,?_⟩;replace BK200:=am_ (KeepBut.blk hk (g':=gb200) (o:= .cells #[.int .i64 0, .int .i64 0, .int .i64 0] 40 (0,0)) ((a5_ BK200.out)) NB200_0.out (by simp));replace HO209:=am_ (Kd.R_mono (Kd.R_keep (IsS69.apart (show IsS69 w0 _ g s0_0 t205 t206 from(a9_ HI0.out NB0_200.out)) ((a0_ HO209.out)) (by decide)) hk (fun _ h=>h.2)) (fun _ h=>h.1));replace HK:=am_ (KeepBut.trans ((a16_ GW200.out)) hk (.inl rfl));replace HB:=am_ (hb);replace HI0:=am_ (hi);(try clear hb);(try clear hb2);(try clear hk);(try clear hi))|((with_reducible refine gate_callee (f:=55) rfl ?_);refine goesL_ (some 13) rfl rfl Tryz.func55 (by kernel_rfl) rfl #[.pointer (some ⟨g,0,none⟩), .int .i64 20] rfl gd_ ?_;(with_reducible refine(spec_l1Cur_pick.calls g s0_0 t211 t212 20 t213 t214 t215 w0 _ ?side1 ?side2 A5.out).mono ?_);(case side1=>exact(a9_ HI0.out NB0_200.out));(case side2=>exact(a18_ HI0.out GE200.out));rintro e w15 ⟨rfl,hi,hb,hk⟩;refine⟨_,rfl,?_⟩;replace BK200:=am_ (KeepBut.blk hk (g':=gb200) (o:= .cells #[.int .i64 0, .int .i64 0, .int .i64 0] 40 (0,0)) ((a5_ BK200.out)) NB200_0.out (by simp));replace HO209:=am_ (Kd.R_mono (Kd.R_keep (IsS69.apart (show IsS69 w0 _ g s0_0 t211 t212 from(a9_ HI0.out NB0_200.out)) ((a0_ HO209.out)) (by decide)) hk (fun _ h=>h.2)) (fun _ h=>h.1));replace HK:=am_ (KeepBut.trans ((a16_ GW200.out)) hk (.inl rfl));replace HB:=am_ (hb);replace HI0:=am_ (hi);(try clear hb);(try clear hb2);(try clear hk);(try clear hi))|((with_reducible refine gate_dst (N:=14) rfl ?_);refine Kd.R_lit (Kd.int .i64) _ 3 ?hg (N:=14) ?hd (xs:=([0,1,2,3,5,t213]:List Int)) (inner:=[.int .i64 0, .int .i64 1, .int .i64 2, .int .i64 3, .int .i64 5, .int .i64 t213]) (ok:=fun _=>True) (okp:=fun _=>True) ?hr ?hp (fun _ hk=>hk) trivial (Below.refl _ _) (Nat.le_refl _) (by simp) ?_;(case hd=>rfl);(case hg=>rfl);(case hr=>exact hr_);(case hp=>exact(Reps.one (show Kd.M (Kd.int .i64) _ _ _ 0 [.int .i64 0] from rfl) (Reps.one (show Kd.M (Kd.int .i64) _ _ _ 1 [.int .i64 1] from rfl) (Reps.one (show Kd.M (Kd.int .i64) _ _ _ 2 [.int .i64 2] from rfl) (Reps.one (show Kd.M (Kd.int .i64) _ _ _ 3 [.int .i64 3] from rfl) (Reps.one (show Kd.M (Kd.int .i64) _ _ _ 5 [.int .i64 5] from rfl) (Reps.one (show Kd.M (Kd.int .i64) _ _ _ t213 [.int .i64 t213] from rfl) (Reps.none _ _))))))));intro v217 w16 ho17 hb hg_ hnew_;clear hg_ hnew_;(first|rw[← Ny216.out]at ho17|(simp only[Int.reduceToNat]at ho17;rw[← Ny216.out]at ho17));have HO218:=am_ (Kd.R_lower (Kd.R_new' ho17 (Kd.R_lt ((a0_ HO209.out)))) (keep_size (w:=w) (g:=g) (row:=none) ((a16_ GW200.out))));replace HO209:=am_ (Kd.R_elder' ((a0_ HO209.out)) (Kd.R_base ho17) hb);replace BK200:=am_ (blk_below (g:=gb200) (o:= .cells #[.int .i64 0, .int .i64 0, .int .i64 0] 40 (0,0)) ((a5_ BK200.out)) hb);replace HK:=am_ (KeepBut.trans ((a16_ GW200.out)) (KeepBut.of_below hb g none) (.inl rfl));replace HB:=am_ (below_step ((a18_ HI0.out GE200.out)) hb);replace HI0:=am_ (IsS69.below ((a9_ HI0.out NB0_200.out)) hb);clear hb ho17;obtain⟨Ao18,co18,eo18⟩:=Kd.R_slice HO218.out;subst eo18)|((with_reducible refine gate_callee (f:=56) rfl ?_);refine goesL_ (some 15) rfl rfl Tryz.func56 (by kernel_rfl) rfl #[.pointer (some ⟨g,0,none⟩), .slice Ao18 y216.length co18] rfl gd_ ?_;(with_reducible refine(spec_l1Cur_among.calls g s0_0 t214 t215 _ _ y216 t219 t220 t221 w0 _ ?side1 ?side2 ?side3 ?side4 ?side5 A6.out).mono ?_);(case side1=>exact(a9_ HI0.out NB0_200.out));(case side2=>exact(a18_ HI0.out GE200.out));(case side3=>exact(a8_ HO218.out));(case side4=>exact(Kd.R_reads' HO218.out).2.1);(case side5=>exact far_slice (IsS69.own_ne HI0.out HO218.out (by decide)));rintro e w19 ⟨rfl,hi,hb,hk⟩;refine⟨_,rfl,?_⟩;replace BK200:=am_ (KeepBut.blk hk (g':=gb200) (o:= .cells #[.int .i64 0, .int .i64 0, .int .i64 0] 40 (0,0)) ((a5_ BK200.out)) NB200_0.out (by simp));replace HO209:=am_ (Kd.R_mono (Kd.R_keep (IsS69.apart (show IsS69 w0 _ g s0_0 t214 t215 from(a9_ HI0.out NB0_200.out)) ((a0_ HO209.out)) (by decide)) hk (fun _ h=>h.2)) (fun _ h=>h.1));replace HO218:=am_ (Kd.R_mono (Kd.R_keep (IsS69.apart (show IsS69 w0 _ g s0_0 t214 t215 from(a9_ HI0.out NB0_200.out)) ((a0_ HO218.out)) (by decide)) hk (fun _ h=>h.2)) (fun _ h=>h.1));replace HK:=am_ (KeepBut.trans ((a16_ GW200.out)) hk (.inl rfl));replace HB:=am_ (hb);replace HI0:=am_ (hi);(try clear hb);(try clear hb2);(try clear hk);(try clear hi))|((with_reducible refine gate_dst (N:=19) rfl ?_);refine Kd.R_lit (Kd.int .i64) _ 3 ?hg (N:=19) ?hd (xs:=([1,2,3,4,10]:List Int)) (inner:=[.int .i64 1, .int .i64 2, .int .i64 3, .int .i64 4, .int .i64 10]) (ok:=fun _=>True) (okp:=fun _=>True) ?hr ?hp (fun _ hk=>hk) trivial (Below.refl _ _) (Nat.le_refl _) (by simp) ?_;(case hd=>rfl);(case hg=>rfl);(case hr=>exact hr_);(case hp=>exact(Reps.one (show Kd.M (Kd.int .i64) _ _ _ 1 [.int .i64 1] from rfl) (Reps.one (show Kd.M (Kd.int .i64) _ _ _ 2 [.int .i64 2] from rfl) (Reps.one (show Kd.M (Kd.int .i64) _ _ _ 3 [.int .i64 3] from rfl) (Reps.one (show Kd.M (Kd.int .i64) _ _ _ 4 [.int .i64 4] from rfl) (Reps.one (show Kd.M (Kd.int .i64) _ _ _ 10 [.int .i64 10] from rfl) (Reps.none _ _)))))));intro v223 w20 ho21 hb hg_ hnew_;clear hg_ hnew_;(first|rw[← Ny222.out]at ho21|(simp only[Int.reduceToNat]at ho21;rw[← Ny222.out]at ho21));have HO224:=am_ (Kd.R_lower (Kd.R_new' (Kd.R_new' ho21 (Kd.R_lt ((a0_ HO209.out)))) (Kd.R_lt ((a0_ HO218.out)))) (keep_size (w:=w) (g:=g) (row:=none) ((a16_ GW200.out))));replace HO209:=am_ (Kd.R_elder' ((a0_ HO209.out)) (Kd.R_base ho21) hb);replace HO218:=am_ (Kd.R_elder' ((a0_ HO218.out)) (Kd.R_base ho21) hb);replace BK200:=am_ (blk_below (g:=gb200) (o:= .cells #[.int .i64 0, .int .i64 0, .int .i64 0] 40 (0,0)) ((a5_ BK200.out)) hb);replace HK:=am_ (KeepBut.trans ((a16_ GW200.out)) (KeepBut.of_below hb g none) (.inl rfl));replace HB:=am_ (below_step ((a18_ HI0.out GE200.out)) hb);replace HI0:=am_ (IsS69.below ((a9_ HI0.out NB0_200.out)) hb);clear hb ho21;obtain⟨Ao22,co22,eo22⟩:=Kd.R_slice HO224.out;subst eo22)|((with_reducible refine gate_callee (f:=56) rfl ?_);refine goesL_ (some 20) rfl rfl Tryz.func56 (by kernel_rfl) rfl #[.pointer (some ⟨g,0,none⟩), .slice Ao22 y222.length co22] rfl gd_ ?_;(with_reducible refine(spec_l1Cur_among.calls g s0_0 t220 t221 _ _ y222 t225 t226 t227 w0 _ ?side1 ?side2 ?side3 ?side4 ?side5 A7.out).mono ?_);(case side1=>exact(a9_ HI0.out NB0_200.out));(case side2=>exact(a18_ HI0.out GE200.out));(case side3=>exact(a8_ HO224.out));(case side4=>exact(Kd.R_reads' HO224.out).2.1);(case side5=>exact far_slice (IsS69.own_ne HI0.out HO224.out (by decide)));rintro e w23 ⟨rfl,hi,hb,hk⟩;refine⟨_,rfl,?_⟩;replace BK200:=am_ (KeepBut.blk hk (g':=gb200) (o:= .cells #[.int .i64 0, .int .i64 0, .int .i64 0] 40 (0,0)) ((a5_ BK200.out)) NB200_0.out (by simp));replace HO209:=am_ (Kd.R_mono (Kd.R_keep (IsS69.apart (show IsS69 w0 _ g s0_0 t220 t221 from(a9_ HI0.out NB0_200.out)) ((a0_ HO209.out)) (by decide)) hk (fun _ h=>h.2)) (fun _ h=>h.1));replace HO218:=am_ (Kd.R_mono (Kd.R_keep (IsS69.apart (show IsS69 w0 _ g s0_0 t220 t221 from(a9_ HI0.out NB0_200.out)) ((a0_ HO218.out)) (by decide)) hk (fun _ h=>h.2)) (fun _ h=>h.1));replace HO224:=am_ (Kd.R_mono (Kd.R_keep (IsS69.apart (show IsS69 w0 _ g s0_0 t220 t221 from(a9_ HI0.out NB0_200.out)) ((a0_ HO224.out)) (by decide)) hk (fun _ h=>h.2)) (fun _ h=>h.1));replace HK:=am_ (KeepBut.trans ((a16_ GW200.out)) hk (.inl rfl));replace HB:=am_ (hb);replace HI0:=am_ (hi);(try clear hb);(try clear hb2);(try clear hk);(try clear hi);have hnb24:=NB200_0.out;have hnc24:=NB0_200.out;have hcz25_0:w23.cell? ⟨gb200,0,none⟩=some (.int .i64 0):=(blk_cell BK200.out 0).trans rfl;have hcz25_1:w23.cell? ⟨gb200,1,none⟩=some (.int .i64 0):=(blk_cell BK200.out 1).trans rfl;have hcz25_2:w23.cell? ⟨gb200,2,none⟩=some (.int .i64 0):=(blk_cell BK200.out 2).trans rfl;have hfz25_0:=blk_frozen BK200.out 0;have hfz25_1:=blk_frozen BK200.out 1;have hfz25_2:=blk_frozen BK200.out 2))
 refine bodyPost_ret (results_cell_row rfl _ _ gb200 40 #[.int .i64 t219, .int .i64 t210, .int .i64 (wrap64 (t210+t225))] (0,0) _ rfl (by(with_reducible repeat (first|refine blk_drewN ?_ _ | refine blk_drew ?_ | refine blk_alloc ?_ _));refine blk_put (cs:= #[.int .i64 t219, .int .i64 t210, .int .i64 0]) ?_ 2 _ rfl;(with_reducible repeat (first|refine blk_drewN ?_ _ | refine blk_drew ?_ | refine blk_alloc ?_ _));refine blk_put (cs:= #[.int .i64 t219, .int .i64 0, .int .i64 0]) ?_ 1 _ rfl;(with_reducible repeat (first|refine blk_drewN ?_ _ | refine blk_drew ?_ | refine blk_alloc ?_ _));refine blk_put (cs:= #[.int .i64 0, .int .i64 0, .int .i64 0]) ?_ 0 _ rfl;(with_reducible repeat (first|refine blk_drewN ?_ _ | refine blk_drew ?_ | refine blk_alloc ?_ _));exact BK200.out) Tryz.underlying40 rfl (by kernel_rfl)) rfl ?_
 exact⟨a10_,(a9_ HI0.out NB0_200.out),(a18_ HI0.out GE200.out),(a16_ GW200.out)⟩

/-! ### spec_l1Cur_sheet: function 60 -/
mutual
def spec_l1Cur_sheet.l0:Nat→List (S40)→List Int→Int→Int→Option ((List (S40))×Int×Int)
 | 0,_,_,_,_=>none
 | k+1,x3,x1000,x1001,x1002=>if(x3.length:Int)<60 then((spec_l1Cur_pick.f x1000 x1001 x1002 5).bind fun bt231=>(if x3.length<5864062014805 then(spec_l1Cur_sheet.l0 k (x3 ++ [(⟨3*((x3.length:Int) % 5),wrap64 (6*(wrap64 ((x3.length:Int) / 5))),wrap64 ((wrap64 ((wrap64 (6*(wrap64 ((x3.length:Int) / 5))))+1))+bt231.1)⟩:S40)]) x1000 bt231.2.1 bt231.2.2) else(none))) else(some (x3,x1001,x1002))
def spec_l1Cur_sheet.l1:Nat→List (S40)→Int→Int→List Int→Int→Int→Option ((List (S40))×Int×Int)
 | 0,_,_,_,_,_,_=>none
 | k+1,x3,x5,x6,x1000,x1001,x1002=>if(x3.length:Int)<x5 then(spec_l1Cur_sheet.j2 k x3 x5 x6 (decide (x6<60)) x1000 x1001 x1002) else(spec_l1Cur_sheet.j2 k x3 x5 x6 false x1000 x1001 x1002)
def spec_l1Cur_sheet.j2:Nat→List (S40)→Int→Int→Bool→List Int→Int→Int→Option ((List (S40))×Int×Int)
 | 0,_,_,_,_,_,_,_=>none
 | k+1,x3,x5,x6,x42,x1000,x1001,x1002=>if x42=true then((spec_l1Cur_hole.f x1000 x1001 x1002).bind fun bt240=>((spec_shWith.f k x3 bt240.1 bt240.2.1 bt240.2.2.1).bind fun bt245=>(if bt245.2=true then(spec_l1Cur_sheet.l1 k bt245.1 x5 (wrap64 (x6+1)) x1000 bt240.2.2.2.1 bt240.2.2.2.2) else(spec_l1Cur_sheet.l1 k x3 x5 (wrap64 (x6+1)) x1000 bt240.2.2.2.1 bt240.2.2.2.2)))) else(some (x3,x1001,x1002))
end
def spec_l1Cur_sheet.f (k:Nat) (s0_0:List Int) (s0_1:Int) (s0_2:Int):Option ((List (S40))×Int×Int):=(spec_l1Cur_one.f s0_0 s0_1 s0_2 24).bind fun bt228=>(if bt228.1=true then(spec_l1Cur_sheet.l0 k ([]:List (S40)) s0_0 bt228.2.1 bt228.2.2) else((spec_l1Cur_pick.f s0_0 bt228.2.1 bt228.2.2 9).bind fun bt237=>(spec_l1Cur_sheet.l1 k ([]:List (S40)) bt237.1 0 s0_0 bt237.2.1 bt237.2.2)))
theorem spec_l1Cur_sheet.mono_l:∀k,(∀y0 y1 y2 y3,LeO (spec_l1Cur_sheet.l0 k y0 y1 y2 y3) (spec_l1Cur_sheet.l0 (k+1) y0 y1 y2 y3))∧(∀y0 y1 y2 y3 y4 y5,LeO (spec_l1Cur_sheet.l1 k y0 y1 y2 y3 y4 y5) (spec_l1Cur_sheet.l1 (k+1) y0 y1 y2 y3 y4 y5))∧(∀y0 y1 y2 y3 y4 y5 y6,LeO (spec_l1Cur_sheet.j2 k y0 y1 y2 y3 y4 y5 y6) (spec_l1Cur_sheet.j2 (k+1) y0 y1 y2 y3 y4 y5 y6))
 | 0=>⟨fun _ _ _ _ r h=>by simp[spec_l1Cur_sheet.l0]at h,fun _ _ _ _ _ _ r h=>by simp[spec_l1Cur_sheet.l1]at h,fun _ _ _ _ _ _ _ r h=>by simp[spec_l1Cur_sheet.j2]at h⟩
 | k+1=>by
  obtain⟨ih0,ih1,ih2⟩:=spec_l1Cur_sheet.mono_l k
  refine⟨?_,?_,?_⟩
  intros
  unfold spec_l1Cur_sheet.l0
  rotate_left
  intros
  unfold spec_l1Cur_sheet.l1
  rotate_left
  intros
  unfold spec_l1Cur_sheet.j2
  rotate_left
  all_goals repeat' first|(with_reducible first|exact ih0 _ _ _ _|exact ih1 _ _ _ _ _ _|exact ih2 _ _ _ _ _ _ _|exact spec_shWith.mono _ _ _ _ _|exact LeO.refl _|exact LeO.none _|refine LeO.ite ?_ ?_|refine LeO.bind ?_ (fun _=>?_))|exact ih0 _ _ _ _|exact ih1 _ _ _ _ _ _|exact ih2 _ _ _ _ _ _ _|exact spec_shWith.mono _ _ _ _ _|exact LeO.none _|refine LeO.ite ?_ ?_|refine LeO.bind ?_ (fun _=>?_)
theorem spec_l1Cur_sheet.mono:∀a0 a1 a2 k,LeO (spec_l1Cur_sheet.f k a0 a1 a2) (spec_l1Cur_sheet.f (k+1) a0 a1 a2):=by
 intro a0 a1 a2 k
 obtain⟨ih0,ih1,ih2⟩:=spec_l1Cur_sheet.mono_l k
 unfold spec_l1Cur_sheet.f
 repeat' first
  |(with_reducible exact ih0 _ _ _ _)
  |(with_reducible exact ih1 _ _ _ _ _ _)
  |(with_reducible exact ih2 _ _ _ _ _ _ _)
  |(with_reducible exact spec_shWith.mono _ _ _ _ _)
  |(with_reducible exact LeO.refl _)
  |(with_reducible exact LeO.none _)
  |(with_reducible refine LeO.ite ?_ ?_)
  |(with_reducible refine LeO.bind ?_ (fun _=>?_))
  |exact ih0 _ _ _ _
  |exact ih1 _ _ _ _ _ _
  |exact ih2 _ _ _ _ _ _ _
  |exact spec_shWith.mono _ _ _ _ _
  |exact LeO.none _
   | refine LeO.ite ?_ ?_
   | refine LeO.bind ?_ (fun _=>?_)
set_option maxHeartbeats 8000000 in
set_option maxRecDepth 100000 in
theorem spec_l1Cur_sheet.calls (k:Nat) (g:Nat) (s0_0:List Int) (s0_1:Int) (s0_2:Int) (r1:List (S40)) (r2:Int) (r3:Int) (w0 w:World) (hI:IsS69 w0 w g s0_0 s0_1 s0_2) (hB:Below w0.heap.size w0 w) (h:spec_l1Cur_sheet.f k s0_0 s0_1 s0_2=some (r1,r2,r3)) :
 Calls Tryz.prog 60 #[.pointer (some ⟨g,0,none⟩)] w fun e w'=>∃v0_:Value,e = .returned (v0_)∧Kd.R k40 40 w' w.heap.size (fun _=>True) v0_ r1∧IsS69 w0 w' g s0_0 r2 r3∧Below w0.heap.size w0 w'∧KeepBut w w' g none:=by
 have hu40:=Tryz.underlying40
 have HI0:=am_ hI
 have HK:=am_ (KeepBut.refl w g none)
 have HL:=am_ hB.size
 clear hI
 have HW0:=am_ hB.size
 have HB:=am_ hB
 clear hB
 have H:((spec_l1Cur_one.f s0_0 s0_1 s0_2 24).bind fun bt228=>(if bt228.1=true then(spec_l1Cur_sheet.l0 k ([]:List (S40)) s0_0 bt228.2.1 bt228.2.2) else((spec_l1Cur_pick.f s0_0 bt228.2.1 bt228.2.2 9).bind fun bt237=>(spec_l1Cur_sheet.l1 k ([]:List (S40)) bt237.1 0 s0_0 bt237.2.1 bt237.2.2))))=some (r1,r2,r3):=h
 clear h
 obtain⟨⟨t228,t229,t230⟩,A2,H⟩:=bo_ H
 try dsimp only at H
 by_cases c3:t228=true
 ·subst c3
  replace H:(spec_l1Cur_sheet.l0 k ([]:List (S40)) s0_0 t229 t230)=some (r1,r2,r3):=by rw[if_pos rfl]at H;exact H
  have H':=am_ H
  clear H
  go_enter Tryz.func60,Tryz.ntmps60
  go_wp2_with (first|((with_reducible refine gate_callee (f:=43) rfl ?_);refine goesL_ (some 10) rfl rfl Tryz.func43 (by kernel_rfl) rfl #[.pointer (some ⟨g,0,none⟩), .int .i64 24] rfl gd_ ?_;(with_reducible refine(spec_l1Cur_one.calls g s0_0 s0_1 s0_2 24 true t229 t230 w0 _ ?side1 ?side2 A2.out).mono ?_);(case side1=>exact(a2_ HI0.out));(case side2=>exact(a3_ HI0.out));rintro e w4 ⟨rfl,hi,hb,hk⟩;refine⟨_,rfl,?_⟩;replace HK:=am_ (KeepBut.trans (a7_) hk (.inl rfl));replace HB:=am_ (hb);replace HI0:=am_ (hi);(try clear hb);(try clear hb2);(try clear hk);(try clear hi)))
  (try simp only[Act.put,List.setIfInBounds_toArray,List.set_cons_zero,List.set_cons_succ])
  go_loopg [3] k (fun kq v3 w'=>∃(x3_1:List (S40)) (x1001_1:Int) (x1002_1:Int),Aside0 (spec_l1Cur_sheet.l0 kq x3_1 s0_0 x1001_1 x1002_1=some (r1,r2,r3))∧Aside0 (kq≤k)∧Aside0 (Kd.R k40 40 w' w.heap.size (fun _=>True) v3 x3_1)∧Aside0 (IsS69 w0 w' g s0_0 x1001_1 x1002_1)∧Aside0 (KeepBut w w' g none)∧Aside0 (Below w0.heap.size w0 w'))
  case atStart=>exact⟨(([]:List (S40))),(t229),(t230),H',⟨Nat.le_refl _⟩,⟨a23_⟩,⟨(a2_ HI0.out)⟩,⟨a7_⟩,⟨(a3_ HI0.out)⟩⟩
  case round=>
   clear H'
   try clear p2
   try clear c3
   try clear c4
   obtain⟨x3_1,x1001_1,x1002_1,HA,HK1,HO_3,HI0,HK,HB⟩:=hrel
   cases gk with
   | zero=>exact absurd HA.out (by simp[spec_l1Cur_sheet.l0])
   | succ k1=>
    have H:=HA.out
    clear HA
    simp only[spec_l1Cur_sheet.l0]at H
    by_cases c5:(x3_1.length:Int)<60
    ·rw[if_pos c5]at H
     have c5b0:decide ((x3_1.length:Int)<60)=true:=decide_eq_true c5
     have c5b1:decide (x3_1.length<60)=true:=decide_eq_true (by omega)
     clear c5
     obtain⟨⟨t231,t232,t233⟩,A6,H⟩:=bo_ H
     try dsimp only at H
     by_cases c7:x3_1.length<5864062014805
     ·rw[if_pos c7]at H
      have LMc7:=am_ c7
      clear c7
      obtain⟨y234,hy234⟩:∃y_:List (S40),y_=(x3_1 ++ [(⟨3*((x3_1.length:Int) % 5),wrap64 (6*(wrap64 ((x3_1.length:Int) / 5))),wrap64 ((wrap64 ((wrap64 (6*(wrap64 ((x3_1.length:Int) / 5))))+1))+t231)⟩:S40)]):=⟨_,rfl⟩
      replace H:(spec_l1Cur_sheet.l0 k1 y234 s0_0 t232 t233)=some (r1,r2,r3):=by first|(rw[hy234];with_reducible exact H)|(have H2_:=(Option.bind_some _ _).symm.trans H;rw[hy234];with_reducible exact H2_)|(have H2_:=(Option.bind_some _ _).symm.trans H;with_reducible exact H2_) | with_reducible exact H|(rw[hy234];exact H)|exact H
      have Ny234:=am_ hy234
      clear hy234
      have H':=am_ H
      clear H
      obtain⟨Ao8,co8,eo8⟩:=Kd.R_slice HO_3.out
      subst eo8
      go_wp2_with (first|((with_reducible refine gate_callee (f:=55) rfl ?_);refine goesL_ (some 27) rfl rfl Tryz.func55 (by kernel_rfl) rfl #[.pointer (some ⟨g,0,none⟩), .int .i64 5] rfl gd_ ?_;(with_reducible refine(spec_l1Cur_pick.calls g s0_0 x1001_1 x1002_1 5 t231 t232 t233 w0 _ ?side1 ?side2 A6.out).mono ?_);(case side1=>exact(a2_ HI0.out));(case side2=>exact(a3_ HI0.out));rintro e w9 ⟨rfl,hi,hb,hk⟩;refine⟨_,rfl,?_⟩;replace HO_3:=am_ (Kd.R_mono (Kd.R_keep (IsS69.apart (show IsS69 w0 _ g s0_0 x1001_1 x1002_1 from(a2_ HI0.out)) ((a0_ HO_3.out)) (by decide)) hk (fun _ h=>h.2)) (fun _ h=>h.1));replace HK:=am_ (KeepBut.trans (a7_) hk (.inl rfl));replace HB:=am_ (hb);replace HI0:=am_ (hi);(try clear hb);(try clear hb2);(try clear hk);(try clear hi))|((with_reducible refine gate_builtin (b:= .append) (xs:= #[.tmp 18, .tmp 30]) rfl ?_);at_builtin;refine Kd.R_append k40 w.heap.size rfl (.tmp 18) (.tmp 30) 24 40 (.agg #[(.int .i64 0),(.int .i64 0),(.int .i64 0)]) 24 rfl Tryz.underlying24 info40 rfl (by decide) (by omega) (.slice Ao8 x3_1.length co8) x3_1 (⟨3*((x3_1.length:Int) % 5),wrap64 (6*(wrap64 ((x3_1.length:Int) / 5))),wrap64 ((wrap64 ((wrap64 (6*(wrap64 ((x3_1.length:Int) / 5))))+1))+t231)⟩:S40) [.int .i64 (3*((x3_1.length:Int) % 5)), .int .i64 (wrap64 (6*(wrap64 ((x3_1.length:Int) / 5)))), .int .i64 (wrap64 ((wrap64 ((wrap64 (6*(wrap64 ((x3_1.length:Int) / 5))))+1))+t231))] (fun _=>True) (fun _=>False) rfl rfl ?aP (fun _ hk=>hk.elim) ?aF ?aO (Below.refl _ _) ?aS ?aL ?_;(case aP=>exact k40_mkM _ _ _ (⟨3*((x3_1.length:Int) % 5),wrap64 (6*(wrap64 ((x3_1.length:Int) / 5))),wrap64 ((wrap64 ((wrap64 (6*(wrap64 ((x3_1.length:Int) / 5))))+1))+t231)⟩:S40));(case aF=>exact(fun _ _=>trivial));(case aO=>exact((a0_ HO_3.out)));(case aS=>exact(keep_size (w:=w) (g:=g) (row:=none) (a7_)));(case aL=>have:=LMc7.out;omega);intro v235 w10 ho hb hg hat;rw[← Ny234.out]at ho;have n0_:=am_ (IsS69.grown ((a2_ HI0.out)) hg (IsS69.own_ne HI0.out HO_3.out (by decide)));have n1_:=am_ (below_weaken ((a3_ HI0.out)) HL.out hb);have n2_:=am_ (KeepBut.trans (a7_) (KeepBut.of_grown hg g) (Kd.R_base2 HO_3.out));have n3_:=am_ (ho);clear HI0 HB HK HO_3;have HI0:=n0_;have HB:=n1_;have HK:=n2_;have HO236:=n3_;clear n0_ n1_ n2_ n3_ ho hb hg hat))
      go_roundg k1
      case measure=>have:=HK1.out;omega
      case rel=>exact⟨(y234),(t232),(t233),H',⟨by have:=HK1.out;omega⟩,⟨(a0_ HO236.out)⟩,⟨(a2_ HI0.out)⟩,⟨a7_⟩,⟨(a3_ HI0.out)⟩⟩
     ·rw[if_neg c7]at H
      exact absurd H (by simp)
    ·rw[if_neg c5]at H
     have c5b0:decide ((x3_1.length:Int)<60)=false:=decide_eq_false c5
     have c5b1:decide (x3_1.length<60)=false:=decide_eq_false (by omega)
     clear c5
     simp only[Option.some.injEq,Prod.mk.injEq]at H
     obtain⟨rfl,rfl,rfl⟩:=H
     obtain⟨Ao11,co11,eo11⟩:=Kd.R_slice HO_3.out
     subst eo11
     go_wp2
     go_ret
     exact⟨_,a10_,(a0_ HO_3.out),(a2_ HI0.out),(a3_ HI0.out),a7_⟩
 ·replace c3:=Bool.eq_false_iff.mpr c3
  subst c3
  replace H:((spec_l1Cur_pick.f s0_0 t229 t230 9).bind fun bt237=>(spec_l1Cur_sheet.l1 k ([]:List (S40)) bt237.1 0 s0_0 bt237.2.1 bt237.2.2))=some (r1,r2,r3):=by rw[if_neg (show ¬(false=true) by decide)]at H;exact H
  obtain⟨⟨t237,t238,t239⟩,A12,H⟩:=bo_ H
  try dsimp only at H
  have H':=am_ H
  clear H
  go_enter Tryz.func60,Tryz.ntmps60
  go_wp2_with (first|((with_reducible refine gate_callee (f:=43) rfl ?_);refine goesL_ (some 10) rfl rfl Tryz.func43 (by kernel_rfl) rfl #[.pointer (some ⟨g,0,none⟩), .int .i64 24] rfl gd_ ?_;(with_reducible refine(spec_l1Cur_one.calls g s0_0 s0_1 s0_2 24 false t229 t230 w0 _ ?side1 ?side2 A2.out).mono ?_);(case side1=>exact(a2_ HI0.out));(case side2=>exact(a3_ HI0.out));rintro e w13 ⟨rfl,hi,hb,hk⟩;refine⟨_,rfl,?_⟩;replace HK:=am_ (KeepBut.trans (a7_) hk (.inl rfl));replace HB:=am_ (hb);replace HI0:=am_ (hi);(try clear hb);(try clear hb2);(try clear hk);(try clear hi))|((with_reducible refine gate_callee (f:=55) rfl ?_);refine goesL_ (some 34) rfl rfl Tryz.func55 (by kernel_rfl) rfl #[.pointer (some ⟨g,0,none⟩), .int .i64 9] rfl gd_ ?_;(with_reducible refine(spec_l1Cur_pick.calls g s0_0 t229 t230 9 t237 t238 t239 w0 _ ?side1 ?side2 A12.out).mono ?_);(case side1=>exact(a2_ HI0.out));(case side2=>exact(a3_ HI0.out));rintro e w14 ⟨rfl,hi,hb,hk⟩;refine⟨_,rfl,?_⟩;replace HK:=am_ (KeepBut.trans (a7_) hk (.inl rfl));replace HB:=am_ (hb);replace HI0:=am_ (hi);(try clear hb);(try clear hb2);(try clear hk);(try clear hi)))
  (try simp only[Act.put,List.setIfInBounds_toArray,List.set_cons_zero,List.set_cons_succ])
  go_loopg [3,6] k (fun kq v3 v6 w'=>∃(x3_1:List (S40)) (x6_1:Int) (x1001_1:Int) (x1002_1:Int),v6 = .int .i64 x6_1∧Aside0 (spec_l1Cur_sheet.l1 kq x3_1 t237 x6_1 s0_0 x1001_1 x1002_1=some (r1,r2,r3))∧Aside0 (kq≤k)∧Aside0 (Kd.R k40 40 w' w.heap.size (fun _=>True) v3 x3_1)∧Aside0 (IsS69 w0 w' g s0_0 x1001_1 x1002_1)∧Aside0 (KeepBut w w' g none)∧Aside0 (Below w0.heap.size w0 w'))
  case atStart=>exact⟨(([]:List (S40))),(0),(t238),(t239),(by first | rfl|(simp;done)|(simp[*];done)),H',⟨Nat.le_refl _⟩,⟨a23_⟩,⟨(a2_ HI0.out)⟩,⟨a7_⟩,⟨(a3_ HI0.out)⟩⟩
  case round=>
   clear H'
   try clear p2
   try clear c3
   try clear c4
   try clear c5
   try clear c5b0
   try clear c5b1
   try clear c6
   try clear p6
   try clear c7
   try clear p2
   obtain⟨x3_1,x6_1,x1001_1,x1002_1,rfl,HA,HK1,HO_3,HI0,HK,HB⟩:=hrel
   cases gk with
   | zero=>exact absurd HA.out (by simp[spec_l1Cur_sheet.l1])
   | succ k1=>
    have H:=HA.out
    clear HA
    simp only[spec_l1Cur_sheet.l1]at H
    have HC15:=am_ H
    clear H
    go_upto_region 9 with (fail)
    go_cut [42] (fun v42 wc=>∃(kq:Nat) (x42_14:Bool),v42 = .bool x42_14∧Aside0 (spec_l1Cur_sheet.j2 kq x3_1 t237 x6_1 x42_14 s0_0 x1001_1 x1002_1=some (r1,r2,r3))∧Aside0 (kq≤k1)∧Aside0 (Kd.R k40 40 wc w.heap.size (fun _=>True) u3 x3_1)∧Aside0 (IsS69 w0 wc g s0_0 x1001_1 x1002_1)∧Aside0 (KeepBut w wc g none)∧Aside0 (Below w0.heap.size w0 wc))
    case first=>
     have H:=HC15.out
     clear HC15
     by_cases c16:(x3_1.length:Int)<t237
     ·rw[if_pos c16]at H
      have c16b0:decide ((x3_1.length:Int)<t237)=true:=decide_eq_true c16
      clear c16
      (first|rw[c16b0]|(simp only[i64_w,i32_w];rw[c16b0]) | skip)
      have H':=am_ H
      clear H
      obtain⟨Ao17,co17,eo17⟩:=Kd.R_slice HO_3.out
      subst eo17
      go_wp2
      go_meet
      case rel=>exact⟨_,(decide (x6_1<60)),(by first | rfl|(simp;done)|(simp[*];done)),H',⟨by have:=HK1.out;first | omega|exact Nat.le_refl _⟩,⟨(a0_ HO_3.out)⟩,⟨(a2_ HI0.out)⟩,⟨a7_⟩,⟨(a3_ HI0.out)⟩⟩
     ·rw[if_neg c16]at H
      have c16b0:decide ((x3_1.length:Int)<t237)=false:=decide_eq_false c16
      clear c16
      (first|rw[c16b0]|(simp only[i64_w,i32_w];rw[c16b0]) | skip)
      have H':=am_ H
      clear H
      obtain⟨Ao18,co18,eo18⟩:=Kd.R_slice HO_3.out
      subst eo18
      go_wp2
      go_meet
      case rel=>exact⟨_,(false),(by first | rfl|(simp;done)|(simp[*];done)),H',⟨by have:=HK1.out;first | omega|exact Nat.le_refl _⟩,⟨(a0_ HO_3.out)⟩,⟨(a2_ HI0.out)⟩,⟨a7_⟩,⟨(a3_ HI0.out)⟩⟩
    case rest=>
     clear HC15
     try clear c1
     try clear p2
     try clear c3
     try clear c4
     try clear c5
     try clear c5b0
     try clear c5b1
     try clear c6
     try clear p6
     try clear c7
     try clear c16
     try clear c16b0
     try clear p2
     try clear p6
     obtain⟨kq,x42_14,rfl,HA,HJ14,HO_3,HI0,HK,HB⟩:=hcut
     cases kq with
     | zero=>exact absurd HA.out (by simp[spec_l1Cur_sheet.j2])
     | succ kj14=>
      have H:=HA.out
      clear HA
      simp only[spec_l1Cur_sheet.j2]at H
      by_cases c19:x42_14=true
      ·subst c19
       replace H:((spec_l1Cur_hole.f s0_0 x1001_1 x1002_1).bind fun bt240=>((spec_shWith.f kj14 x3_1 bt240.1 bt240.2.1 bt240.2.2.1).bind fun bt245=>(if bt245.2=true then(spec_l1Cur_sheet.l1 kj14 bt245.1 t237 (wrap64 (x6_1+1)) s0_0 bt240.2.2.2.1 bt240.2.2.2.2) else(spec_l1Cur_sheet.l1 kj14 x3_1 t237 (wrap64 (x6_1+1)) s0_0 bt240.2.2.2.1 bt240.2.2.2.2))))=some (r1,r2,r3):=by rw[if_pos rfl]at H;exact H
       obtain⟨⟨t240,t241,t242,t243,t244⟩,A20,H⟩:=bo_ H
       try dsimp only at H
       obtain⟨⟨t245,t248⟩,A21,H⟩:=bo_ H
       try dsimp only at H
       by_cases c22:t248=true
       ·subst c22
        replace H:(spec_l1Cur_sheet.l1 kj14 t245 t237 (wrap64 (x6_1+1)) s0_0 t243 t244)=some (r1,r2,r3):=by rw[if_pos rfl]at H;exact H
        have H':=am_ H
        clear H
        go_wp2_with (first|((with_reducible refine gate_callee (f:=87) rfl ?_);refine goesL_ (some 48) rfl rfl Tryz.func87 (by kernel_rfl) rfl #[.pointer (some ⟨g,0,none⟩)] rfl gd_ ?_;(with_reducible refine(spec_l1Cur_hole.calls g s0_0 x1001_1 x1002_1 t240 t241 t242 t243 t244 w0 _ ?side1 ?side2 A20.out).mono ?_);(case side1=>exact(a2_ HI0.out));(case side2=>exact(a3_ HI0.out));rintro e w23 ⟨rfl,hi,hb,hk⟩;refine⟨_,rfl,?_⟩;replace HO_3:=am_ (Kd.R_mono (Kd.R_keep (IsS69.apart (show IsS69 w0 _ g s0_0 x1001_1 x1002_1 from(a2_ HI0.out)) ((a0_ HO_3.out)) (by decide)) hk (fun _ h=>h.2)) (fun _ h=>h.1));replace HK:=am_ (KeepBut.trans (a7_) hk (.inl rfl));replace HB:=am_ (hb);replace HI0:=am_ (hi);(try clear hb);(try clear hb2);(try clear hk);(try clear hi);obtain⟨Ao24,co24,eo24⟩:=Kd.R_slice HO_3.out;subst eo24)|((with_reducible refine gate_callee (f:=86) rfl ?_);refine goesL_ (some 49) rfl rfl Tryz.func86 (by kernel_rfl) rfl #[.slice Ao24 x3_1.length co24, .agg #[.int .i64 t240, .int .i64 t241, .int .i64 t242]] rfl gd_ ?_;(with_reducible refine(spec_shWith.calls kj14 _ _ x3_1 t240 t241 t242 t245 true _ ?side1 ?side2 A21.out).mono ?_);(case side1=>exact(a8_ HO_3.out));(case side2=>exact(Kd.R_reads' HO_3.out).2.1);rintro e w25 ⟨v246,rfl,ho0,hb⟩;refine⟨_,rfl,?_⟩;have HO247:=am_ (Kd.R_lower (Kd.R_new' ho0 (Kd.R_lt ((a0_ HO_3.out)))) (keep_size (w:=w) (g:=g) (row:=none) (a7_)));replace HO_3:=am_ (Kd.R_elder' ((a0_ HO_3.out)) (Kd.R_base ho0) hb);replace HK:=am_ (KeepBut.trans (a7_) (KeepBut.of_below hb g none) (.inl rfl));replace HB:=am_ (below_step ((a3_ HI0.out)) hb);replace HI0:=am_ (IsS69.below ((a2_ HI0.out)) hb);(try clear hb);(try clear hb2);(try clear hk);(try clear hi);(try clear ho0)))
        go_roundg kj14
        case measure=>have:=HK1.out;have:=HJ14.out;omega
        case rel=>exact⟨(t245),(wrap64 (x6_1+1)),(t243),(t244),(by first | rfl|(simp;done)|(simp[*];done)),H',⟨by have:=HK1.out;have:=HJ14.out;omega⟩,⟨(a25_ HO247.out)⟩,⟨(a2_ HI0.out)⟩,⟨a7_⟩,⟨(a3_ HI0.out)⟩⟩
       ·replace c22:=Bool.eq_false_iff.mpr c22
        subst c22
        replace H:(spec_l1Cur_sheet.l1 kj14 x3_1 t237 (wrap64 (x6_1+1)) s0_0 t243 t244)=some (r1,r2,r3):=by rw[if_neg (show ¬(false=true) by decide)]at H;exact H
        have H':=am_ H
        clear H
        go_wp2_with (first|((with_reducible refine gate_callee (f:=87) rfl ?_);refine goesL_ (some 48) rfl rfl Tryz.func87 (by kernel_rfl) rfl #[.pointer (some ⟨g,0,none⟩)] rfl gd_ ?_;(with_reducible refine(spec_l1Cur_hole.calls g s0_0 x1001_1 x1002_1 t240 t241 t242 t243 t244 w0 _ ?side1 ?side2 A20.out).mono ?_);(case side1=>exact(a2_ HI0.out));(case side2=>exact(a3_ HI0.out));rintro e w26 ⟨rfl,hi,hb,hk⟩;refine⟨_,rfl,?_⟩;replace HO_3:=am_ (Kd.R_mono (Kd.R_keep (IsS69.apart (show IsS69 w0 _ g s0_0 x1001_1 x1002_1 from(a2_ HI0.out)) ((a0_ HO_3.out)) (by decide)) hk (fun _ h=>h.2)) (fun _ h=>h.1));replace HK:=am_ (KeepBut.trans (a7_) hk (.inl rfl));replace HB:=am_ (hb);replace HI0:=am_ (hi);(try clear hb);(try clear hb2);(try clear hk);(try clear hi);obtain⟨Ao27,co27,eo27⟩:=Kd.R_slice HO_3.out;subst eo27)|((with_reducible refine gate_callee (f:=86) rfl ?_);refine goesL_ (some 49) rfl rfl Tryz.func86 (by kernel_rfl) rfl #[.slice Ao27 x3_1.length co27, .agg #[.int .i64 t240, .int .i64 t241, .int .i64 t242]] rfl gd_ ?_;(with_reducible refine(spec_shWith.calls kj14 _ _ x3_1 t240 t241 t242 t245 false _ ?side1 ?side2 A21.out).mono ?_);(case side1=>exact(a8_ HO_3.out));(case side2=>exact(Kd.R_reads' HO_3.out).2.1);rintro e w28 ⟨v246,rfl,ho0,hb⟩;refine⟨_,rfl,?_⟩;have HO247:=am_ (Kd.R_lower (Kd.R_new' ho0 (Kd.R_lt ((a0_ HO_3.out)))) (keep_size (w:=w) (g:=g) (row:=none) (a7_)));replace HO_3:=am_ (Kd.R_elder' ((a0_ HO_3.out)) (Kd.R_base ho0) hb);replace HK:=am_ (KeepBut.trans (a7_) (KeepBut.of_below hb g none) (.inl rfl));replace HB:=am_ (below_step ((a3_ HI0.out)) hb);replace HI0:=am_ (IsS69.below ((a2_ HI0.out)) hb);(try clear hb);(try clear hb2);(try clear hk);(try clear hi);(try clear ho0)))
        go_roundg kj14
        case measure=>have:=HK1.out;have:=HJ14.out;omega
        case rel=>exact⟨(x3_1),(wrap64 (x6_1+1)),(t243),(t244),(by first | rfl|(simp;done)|(simp[*];done)),H',⟨by have:=HK1.out;have:=HJ14.out;omega⟩,⟨(a25_ HO_3.out)⟩,⟨(a2_ HI0.out)⟩,⟨a7_⟩,⟨(a3_ HI0.out)⟩⟩
      ·replace c19:=Bool.eq_false_iff.mpr c19
       subst c19
       replace H:(some (x3_1,x1001_1,x1002_1))=some (r1,r2,r3):=by rw[if_neg (show ¬(false=true) by decide)]at H;exact H
       simp only[Option.some.injEq,Prod.mk.injEq]at H
       obtain⟨rfl,rfl,rfl⟩:=H
       go_wp2
       go_ret
       exact⟨_,a10_,(a0_ HO_3.out),(a2_ HI0.out),(a3_ HI0.out),a7_⟩

end Go.Proofs.YtplpjmhmochcfaaGreat.QFnDifferences
