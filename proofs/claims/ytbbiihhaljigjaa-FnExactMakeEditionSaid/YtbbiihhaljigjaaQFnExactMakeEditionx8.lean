/- Written by a program of this session (the kit's printer, with leaf contracts proved by hand put in): what each Go function computes, and that the call computes it. No condition but those that each theorem names. -/
import Derived.Test.YtbbiihhaljigjaaQFnExactMakeEditionx0
import Derived.Test.YtbbiihhaljigjaaQFnExactMakeEditionx7
namespace Go.Proofs.Ytbbiihhaljigjaa.QFnExactMakeEdition
open Go.RowKit Go.Proofs.YtbbiihhaljigjaaW.PrintWords Go.Proofs.YtbbiihhaljigjaaW.PrintLast Go.Proofs.YtbbiihhaljigjaaW.PrintMore
attribute [local go_sem] max2_int min2_int max_two min_two max_three min_three max_four min_four   -- for this text's walks alone
set_option linter.unusedVariables false
set_option linter.unusedSimpArgs false

/-! ### impl_areSheets: function 24 -/
def impl_areSheets.l0:Nat→List (List (S47))→Int→List (List (S47))→Int→Int→Option (Bool)
 | 0,_,_,_,_,_=>none
 | k+1,x0,x1,x7,x8,x9=>if x9<x8 then(if 0≤x9 then(if x9<(x7.length:Int) then((impl_IsSheet.f k (rd_L6 x7 x9)).bind fun t246=>(if t246=true then(impl_areSheets.l0 k x0 x1 x7 x8 (wrap64 (x9+1))) else(some false))) else(none)) else(none)) else(if(x0.length:Int)≥1 then(some (decide ((x0.length:Int)≤x1))) else(some false))
def impl_areSheets.f (k:Nat) (l0:List (List (S47))) (a1:Int):Option (Bool):=impl_areSheets.l0 k l0 a1 l0 (l0.length:Int) 0
theorem impl_areSheets.mono_l:∀k,(∀y0 y1 y2 y3 y4,LeO (impl_areSheets.l0 k y0 y1 y2 y3 y4) (impl_areSheets.l0 (k+1) y0 y1 y2 y3 y4))
 | 0=>fun _ _ _ _ _ r h=>by simp[impl_areSheets.l0]at h
 | k+1=>by
  have ih0:=impl_areSheets.mono_l k
  ·intro y0 y1 y2 y3 y4
   unfold impl_areSheets.l0
   repeat' first
   | (with_reducible exact ih0 _ _ _ _ _)
   | (with_reducible exact impl_IsSheet.mono _ _)
   | (with_reducible exact LeO.refl _)
   | (with_reducible exact LeO.none _)
   | (with_reducible refine LeO.ite ?_ ?_)
   | (with_reducible refine LeO.bind ?_ (fun _=>?_))
   | exact ih0 _ _ _ _ _
   | exact impl_IsSheet.mono _ _
   | exact LeO.none _
   | refine LeO.ite ?_ ?_
   | refine LeO.bind ?_ (fun _=>?_)
theorem impl_areSheets.mono:∀a0 a1 k,LeO (impl_areSheets.f k a0 a1) (impl_areSheets.f (k+1) a0 a1):=by
 intro a0 a1 k
 have ih0:=impl_areSheets.mono_l k
 unfold impl_areSheets.f
 repeat' first
  | (with_reducible exact ih0 _ _ _ _ _)
  | (with_reducible exact impl_IsSheet.mono _ _)
  | (with_reducible exact LeO.refl _)
  | (with_reducible exact LeO.none _)
  | (with_reducible refine LeO.ite ?_ ?_)
  | (with_reducible refine LeO.bind ?_ (fun _=>?_))
  | exact ih0 _ _ _ _ _
  | exact impl_IsSheet.mono _ _
  | exact LeO.none _
  | refine LeO.ite ?_ ?_
  | refine LeO.bind ?_ (fun _=>?_)
set_option maxHeartbeats 8000000 in
set_option maxRecDepth 100000 in
theorem impl_areSheets.calls (k:Nat) (A0:Option Addr) (c0:Nat) (l0:List (List (S47))) (a1:Int) (r:Bool) (w:World) (hr0:Kd.C (Kd.slice 47 k47) w A0 l0.length l0) (hc0:l0.length≤c0) (h:impl_areSheets.f k l0 a1=some r) :
 Calls Try.prog 24 #[.slice A0 l0.length c0, .int .i64 a1] w fun e w'=>e = .returned (.bool r)∧Below w.heap.size w w':=by
 have HR0:=am_ hr0
 have HC0:=am_ hc0
 clear hr0 hc0
 have HB:=am_ (Below.refl w.heap.size w)
 have H:(impl_areSheets.l0 k l0 a1 l0 (l0.length:Int) 0)=some r:=h
 clear h
 have H':=am_ H
 clear H
 go_enter Try.func24,Try.ntmps24
 go_wp2
 go_loopg [9] k (fun kq v9 w'=>∃(x9_1:Int),v9 = .int .i64 x9_1∧Aside0 (impl_areSheets.l0 kq l0 a1 l0 (l0.length:Int) x9_1=some r)∧Aside0 (kq≤k)∧Aside0 (Below w.heap.size w w'))
 case atStart=>exact⟨(0),(a6_),H',⟨Nat.le_refl _⟩,⟨a0_⟩⟩
 case round=>
  clear H'
  try clear c2
  try clear p2
  obtain⟨x9_1,rfl,HA,HK1,HB⟩:=hrel
  cases gk with
  | zero=>exact absurd HA.out (by simp[impl_areSheets.l0])
  | succ k1=>
   have H:=HA.out
   clear HA
   simp only[impl_areSheets.l0]at H
   by_cases c3:x9_1<(l0.length:Int)
   ·rw[if_pos c3]at H
    have c3b0:decide (x9_1<(l0.length:Int))=true:=decide_eq_true c3
    clear c3
    by_cases c4:0≤x9_1
    ·rw[if_pos c4]at H
     have c4b0:decide (0≤x9_1)=true:=decide_eq_true c4
     clear c4
     by_cases c5:x9_1<(l0.length:Int)
     ·rw[if_pos c5]at H
      have c5b0:decide (x9_1<(l0.length:Int))=true:=decide_eq_true c5
      clear c5
      replace H:=Option.bind_eq_some_iff.mp H
      obtain⟨t246,A60,H⟩:=H
      replace H:(if t246=true then(impl_areSheets.l0 k1 l0 a1 l0 (l0.length:Int) (wrap64 (x9_1+1))) else(some false))=some r:=H
      have A6:=am_ A60
      clear A60
      by_cases c7:t246=true
      ·subst c7
       replace H:(impl_areSheets.l0 k1 l0 a1 l0 (l0.length:Int) (wrap64 (x9_1+1)))=some r:=by rw[if_pos rfl]at H;exact H
       have H':=am_ H
       clear H
       have p245:0≤(x9_1:Int):=of_decide_eq_true (a4_)
       have q245:x9_1<(l0.length:Int):=of_decide_eq_true (a4_)
       obtain⟨ad245,A245_0,c245_0,e245,hx245_0,hl245_0,hi245_0⟩:=at_L6 HR0.out x9_1 p245 q245
       cases e245
       replace hx245_0:=(HB.out.cell (World.block_lt_of_cell? w _ hx245_0)).trans hx245_0
       have HR245_0:=am_ hi245_0
       have HC245_0:=am_ hl245_0
       clear hi245_0 hl245_0
       replace p245:=eq_true p245
       replace q245:=eq_true q245
       go_wp2_with (first | ((with_reducible refine gate_callee (f:=35) rfl ?_);refine goesL_ (some 14) rfl rfl Try.func35 (by kernel_rfl) rfl #[.slice A245_0 (rd_L6 l0 x9_1).length c245_0] rfl (by(try simp only[List.map_toArray,List.map_cons,List.map_nil]);first | done | rfl | (simp only[List.length_drop,List.length_take];rfl)) ?_;(with_reducible refine(impl_IsSheet.calls k1 _ _ (rd_L6 l0 x9_1) true _ ?side1 ?side2 A6.out).mono ?_);(case side1=>exact(a11_ HR245_0.out));(case side2=>exact HC245_0.out);rintro e w8 ⟨rfl,hb⟩;refine⟨_,rfl,?_⟩;replace HB:=am_ (below_step (a0_) hb);(try clear hb);(try clear hb2);(try clear hk);(try clear hi)))
       go_roundg k1
       case measure=>have:=HK1.out;omega
       case rel=>exact⟨(wrap64 (x9_1+1)),(a6_),H',⟨by have:=HK1.out;omega⟩,⟨a0_⟩⟩
      ·replace c7:=Bool.eq_false_iff.mpr c7
       subst c7
       replace H:(some false)=some r:=by rw[if_neg (show ¬(false=true) by decide)]at H;exact H
       obtain rfl:=Option.some.inj H
       have p245:0≤(x9_1:Int):=of_decide_eq_true (a4_)
       have q245:x9_1<(l0.length:Int):=of_decide_eq_true (a4_)
       obtain⟨ad245,A245_0,c245_0,e245,hx245_0,hl245_0,hi245_0⟩:=at_L6 HR0.out x9_1 p245 q245
       cases e245
       replace hx245_0:=(HB.out.cell (World.block_lt_of_cell? w _ hx245_0)).trans hx245_0
       have HR245_0:=am_ hi245_0
       have HC245_0:=am_ hl245_0
       clear hi245_0 hl245_0
       replace p245:=eq_true p245
       replace q245:=eq_true q245
       go_wp2_with (first | ((with_reducible refine gate_callee (f:=35) rfl ?_);refine goesL_ (some 14) rfl rfl Try.func35 (by kernel_rfl) rfl #[.slice A245_0 (rd_L6 l0 x9_1).length c245_0] rfl (by(try simp only[List.map_toArray,List.map_cons,List.map_nil]);first | done | rfl | (simp only[List.length_drop,List.length_take];rfl)) ?_;(with_reducible refine(impl_IsSheet.calls k1 _ _ (rd_L6 l0 x9_1) false _ ?side1 ?side2 A6.out).mono ?_);(case side1=>exact(a11_ HR245_0.out));(case side2=>exact HC245_0.out);rintro e w9 ⟨rfl,hb⟩;refine⟨_,rfl,?_⟩;replace HB:=am_ (below_step (a0_) hb);(try clear hb);(try clear hb2);(try clear hk);(try clear hi)))
       go_ret
       exact⟨a5_,a0_⟩
     ·rw[if_neg c5]at H
      exact absurd H (by simp)
    ·rw[if_neg c4]at H
     exact absurd H (by simp)
   ·rw[if_neg c3]at H
    have c3b0:decide (x9_1<(l0.length:Int))=false:=decide_eq_false c3
    clear c3
    by_cases c10:(l0.length:Int)≥1
    ·rw[if_pos c10]at H
     have c10b0:decide (1≤(l0.length:Int))=true:=decide_eq_true c10
     have c10b1:decide (1≤l0.length)=true:=decide_eq_true (by omega)
     clear c10
     obtain rfl:=Option.some.inj H
     go_wp2
     go_ret
     exact⟨a5_,a0_⟩
    ·rw[if_neg c10]at H
     have c10b0:decide (1≤(l0.length:Int))=false:=decide_eq_false c10
     have c10b1:decide (1≤l0.length)=false:=decide_eq_false (by omega)
     clear c10
     obtain rfl:=Option.some.inj H
     go_wp2
     go_ret
     exact⟨a5_,a0_⟩

/-! ### impl_editionLength: function 36 -/
def impl_editionLength.l0:Nat→Int→List (S44)→Int→Int→Option (Int)
 | 0,_,_,_,_=>none
 | k+1,x3,x6,x7,x8=>if x8<x7 then(if 0≤x8 then(if x8<(x6.length:Int) then(impl_editionLength.l0 k (wrap64 (x3+(wrap64 (((rd_T44 x6 x8).f2)-((rd_T44 x6 x8).f1))))) x6 x7 (wrap64 (x8+1))) else(none)) else(none)) else(some x3)
def impl_editionLength.f (k:Nat) (l0:List (S44)):Option (Int):=impl_editionLength.l0 k 0 l0 (l0.length:Int) 0
theorem impl_editionLength.mono_l:∀k,(∀y0 y1 y2 y3,LeO (impl_editionLength.l0 k y0 y1 y2 y3) (impl_editionLength.l0 (k+1) y0 y1 y2 y3))
 | 0=>fun _ _ _ _ r h=>by simp[impl_editionLength.l0]at h
 | k+1=>by
  have ih0:=impl_editionLength.mono_l k
  ·intro y0 y1 y2 y3
   unfold impl_editionLength.l0
   repeat' first
   | (with_reducible exact ih0 _ _ _ _)
   | (with_reducible exact LeO.refl _)
   | (with_reducible exact LeO.none _)
   | (with_reducible refine LeO.ite ?_ ?_)
   | (with_reducible refine LeO.bind ?_ (fun _=>?_))
   | exact ih0 _ _ _ _
   | exact LeO.none _
   | refine LeO.ite ?_ ?_
   | refine LeO.bind ?_ (fun _=>?_)
theorem impl_editionLength.mono:∀a0 k,LeO (impl_editionLength.f k a0) (impl_editionLength.f (k+1) a0):=by
 intro a0 k
 have ih0:=impl_editionLength.mono_l k
 unfold impl_editionLength.f
 repeat' first
  | (with_reducible exact ih0 _ _ _ _)
  | (with_reducible exact LeO.refl _)
  | (with_reducible exact LeO.none _)
  | (with_reducible refine LeO.ite ?_ ?_)
  | (with_reducible refine LeO.bind ?_ (fun _=>?_))
  | exact ih0 _ _ _ _
  | exact LeO.none _
  | refine LeO.ite ?_ ?_
  | refine LeO.bind ?_ (fun _=>?_)
set_option maxHeartbeats 8000000 in
set_option maxRecDepth 100000 in
theorem impl_editionLength.calls (k:Nat) (A0:Option Addr) (c0:Nat) (l0:List (S44)) (r:Int) (w:World) (hr0:Kd.C k44 w A0 l0.length l0) (hc0:l0.length≤c0) (h:impl_editionLength.f k l0=some r) :
 Calls Try.prog 36 #[.slice A0 l0.length c0] w fun e w'=>e = .returned (.int .i64 r)∧Below w.heap.size w w':=by
 have hu44:=Try.underlying44
 have HR0:=am_ hr0
 have HC0:=am_ hc0
 clear hr0 hc0
 have HB:=am_ (Below.refl w.heap.size w)
 have H:(impl_editionLength.l0 k 0 l0 (l0.length:Int) 0)=some r:=h
 clear h
 have H':=am_ H
 clear H
 go_enter Try.func36,Try.ntmps36
 go_wp2
 go_loopg [3,8] k (fun kq v3 v8 w'=>∃(x3_1:Int) (x8_1:Int),v3 = .int .i64 x3_1∧v8 = .int .i64 x8_1∧Aside0 (impl_editionLength.l0 kq x3_1 l0 (l0.length:Int) x8_1=some r)∧Aside0 (kq≤k)∧Aside0 (Below w.heap.size w w'))
 case atStart=>exact⟨(0),(0),(a6_),(a6_),H',⟨Nat.le_refl _⟩,⟨a0_⟩⟩
 case round=>
  clear H'
  obtain⟨x3_1,x8_1,rfl,rfl,HA,HK1,HB⟩:=hrel
  cases gk with
  | zero=>exact absurd HA.out (by simp[impl_editionLength.l0])
  | succ k1=>
   have H:=HA.out
   clear HA
   simp only[impl_editionLength.l0]at H
   by_cases c2:x8_1<(l0.length:Int)
   ·rw[if_pos c2]at H
    have c2b0:decide (x8_1<(l0.length:Int))=true:=decide_eq_true c2
    clear c2
    by_cases c3:0≤x8_1
    ·rw[if_pos c3]at H
     have c3b0:decide (0≤x8_1)=true:=decide_eq_true c3
     clear c3
     by_cases c4:x8_1<(l0.length:Int)
     ·rw[if_pos c4]at H
      have c4b0:decide (x8_1<(l0.length:Int))=true:=decide_eq_true c4
      clear c4
      have H':=am_ H
      clear H
      have p247:0≤(x8_1:Int):=of_decide_eq_true (a4_)
      have q247:x8_1<(l0.length:Int):=of_decide_eq_true (a4_)
      obtain⟨ad247,e247,hx247_0,hx247_1,hx247_2⟩:=at_T44 HR0.out x8_1 p247 q247
      cases e247
      replace hx247_0:=(HB.out.cell (World.block_lt_of_cell? w _ hx247_0)).trans hx247_0
      replace hx247_1:=(HB.out.cell (World.block_lt_of_cell? w _ hx247_1)).trans hx247_1
      replace hx247_2:=(HB.out.cell (World.block_lt_of_cell? w _ hx247_2)).trans hx247_2
      replace p247:=eq_true p247
      replace q247:=eq_true q247
      go_wp2_with (first | ((with_reducible refine gate_dst (N:=5) rfl ?_);refine box_event ?hg (N:=5) ?hd (cs:= #[.int .i64 0, .int .i64 0, .int .i64 0]) (t:=44) ?hr ?_;(case hd=>rfl);(case hg=>rfl);(case hr=>exact a12_);intro gb248 hg w5 hbox hb;have BK248:=am_ (hbox);have GW248:=am_ ((by rw[hg];exact(below_size (a0_)):w.heap.size≤gb248));have GE248:=am_ ((by rw[hg];exact(below_size (a0_)):w.heap.size≤gb248));replace HB:=am_ (below_step (a0_) hb);clear hb hbox hg;have hcz6_0:w5.cell? ⟨gb248,0,none⟩=some (.int .i64 0):=(blk_cell BK248.out 0).trans rfl;have hcz6_1:w5.cell? ⟨gb248,1,none⟩=some (.int .i64 0):=(blk_cell BK248.out 1).trans rfl;have hcz6_2:w5.cell? ⟨gb248,2,none⟩=some (.int .i64 0):=(blk_cell BK248.out 2).trans rfl;have hfz6_0:=blk_frozen BK248.out 0;have hfz6_1:=blk_frozen BK248.out 1;have hfz6_2:=blk_frozen BK248.out 2))
      go_roundg k1
      case measure=>have:=HK1.out;omega
      case rel=>exact⟨(wrap64 (x3_1+(wrap64 (((rd_T44 l0 x8_1).f2)-((rd_T44 l0 x8_1).f1))))),(wrap64 (x8_1+1)),(a6_),(a6_),H',⟨by have:=HK1.out;omega⟩,⟨(a1_ GE248.out)⟩⟩
     ·rw[if_neg c4]at H
      exact absurd H (by simp)
    ·rw[if_neg c3]at H
     exact absurd H (by simp)
   ·rw[if_neg c2]at H
    have c2b0:decide (x8_1<(l0.length:Int))=false:=decide_eq_false c2
    clear c2
    obtain rfl:=Option.some.inj H
    go_wp2
    go_ret
    exact⟨a5_,a0_⟩

/-! ### impl_AreParts: function 25 -/
mutual
def impl_AreParts.j0:Nat→List (S44)→Int→Bool→Option (Bool)
 | 0,_,_,_=>none
 | k+1,x0,x1,x17=>if x17=true then(some false) else(impl_AreParts.l0 k x0 x1 x0 (x0.length:Int) 0)
def impl_AreParts.l0:Nat→List (S44)→Int→List (S44)→Int→Int→Option (Bool)
 | 0,_,_,_,_,_=>none
 | k+1,x0,x1,x18,x19,x20=>if x20<x19 then(if 0≤x20 then(if x20<(x18.length:Int) then(if((rd_T44 x18 x20).f0)<0 then(some false) else(if((rd_T44 x18 x20).f0)≥x1 then(some false) else(if((rd_T44 x18 x20).f1)<0 then(some false) else(if((rd_T44 x18 x20).f1)≥((rd_T44 x18 x20).f2) then(some false) else(if((rd_T44 x18 x20).f2)>2000 then(some false) else(impl_AreParts.l0 k x0 x1 x18 x19 (wrap64 (x20+1)))))))) else(none)) else(none)) else((impl_editionLength.f k x0).bind fun t251=>(some (decide (t251≤2000))))
end
def impl_AreParts.f (k:Nat) (l0:List (S44)) (a1:Int):Option (Bool):=if a1<1 then(impl_AreParts.j0 k l0 a1 true) else(if a1>4 then(impl_AreParts.j0 k l0 a1 true) else(impl_AreParts.j0 k l0 a1 (decide ((l0.length:Int)>12))))
theorem impl_AreParts.mono_l:∀k,(∀y0 y1 y2,LeO (impl_AreParts.j0 k y0 y1 y2) (impl_AreParts.j0 (k+1) y0 y1 y2))∧(∀y0 y1 y2 y3 y4,LeO (impl_AreParts.l0 k y0 y1 y2 y3 y4) (impl_AreParts.l0 (k+1) y0 y1 y2 y3 y4))
 | 0=>⟨fun _ _ _ r h=>by simp[impl_AreParts.j0]at h,fun _ _ _ _ _ r h=>by simp[impl_AreParts.l0]at h⟩
 | k+1=>by
  obtain⟨ih0,ih1⟩:=impl_AreParts.mono_l k
  refine⟨?_,?_⟩
  ·intro y0 y1 y2
   unfold impl_AreParts.j0
   repeat' first
   | (with_reducible exact ih0 _ _ _)
   | (with_reducible exact ih1 _ _ _ _ _)
   | (with_reducible exact impl_editionLength.mono _ _)
   | (with_reducible exact LeO.refl _)
   | (with_reducible exact LeO.none _)
   | (with_reducible refine LeO.ite ?_ ?_)
   | (with_reducible refine LeO.bind ?_ (fun _=>?_))
   | exact ih0 _ _ _
   | exact ih1 _ _ _ _ _
   | exact impl_editionLength.mono _ _
   | exact LeO.none _
   | refine LeO.ite ?_ ?_
   | refine LeO.bind ?_ (fun _=>?_)
  ·intro y0 y1 y2 y3 y4
   unfold impl_AreParts.l0
   repeat' first
   | (with_reducible exact ih0 _ _ _)
   | (with_reducible exact ih1 _ _ _ _ _)
   | (with_reducible exact impl_editionLength.mono _ _)
   | (with_reducible exact LeO.refl _)
   | (with_reducible exact LeO.none _)
   | (with_reducible refine LeO.ite ?_ ?_)
   | (with_reducible refine LeO.bind ?_ (fun _=>?_))
   | exact ih0 _ _ _
   | exact ih1 _ _ _ _ _
   | exact impl_editionLength.mono _ _
   | exact LeO.none _
   | refine LeO.ite ?_ ?_
   | refine LeO.bind ?_ (fun _=>?_)
theorem impl_AreParts.mono:∀a0 a1 k,LeO (impl_AreParts.f k a0 a1) (impl_AreParts.f (k+1) a0 a1):=by
 intro a0 a1 k
 obtain⟨ih0,ih1⟩:=impl_AreParts.mono_l k
 unfold impl_AreParts.f
 repeat' first
  | (with_reducible exact ih0 _ _ _)
  | (with_reducible exact ih1 _ _ _ _ _)
  | (with_reducible exact impl_editionLength.mono _ _)
  | (with_reducible exact LeO.refl _)
  | (with_reducible exact LeO.none _)
  | (with_reducible refine LeO.ite ?_ ?_)
  | (with_reducible refine LeO.bind ?_ (fun _=>?_))
  | exact ih0 _ _ _
  | exact ih1 _ _ _ _ _
  | exact impl_editionLength.mono _ _
  | exact LeO.none _
  | refine LeO.ite ?_ ?_
  | refine LeO.bind ?_ (fun _=>?_)
set_option maxHeartbeats 8000000 in
set_option maxRecDepth 100000 in
theorem impl_AreParts.calls (k:Nat) (A0:Option Addr) (c0:Nat) (l0:List (S44)) (a1:Int) (r:Bool) (w:World) (hr0:Kd.C k44 w A0 l0.length l0) (hc0:l0.length≤c0) (h:impl_AreParts.f k l0 a1=some r) :
 Calls Try.prog 25 #[.slice A0 l0.length c0, .int .i64 a1] w fun e w'=>e = .returned (.bool r)∧Below w.heap.size w w':=by
 have hu44:=Try.underlying44
 have HR0:=am_ hr0
 have HC0:=am_ hc0
 clear hr0 hc0
 have HB:=am_ (Below.refl w.heap.size w)
 have H:(if a1<1 then(impl_AreParts.j0 k l0 a1 true) else(if a1>4 then(impl_AreParts.j0 k l0 a1 true) else(impl_AreParts.j0 k l0 a1 (decide ((l0.length:Int)>12)))))=some r:=h
 clear h
 have HC3:=am_ H
 clear H
 go_enter Try.func25,Try.ntmps25
 go_upto_region 1 with (fail)
 go_cut [17] (fun v17 wc=>∃(kq:Nat) (x17_2:Bool),v17 = .bool x17_2∧Aside0 (impl_AreParts.j0 kq l0 a1 x17_2=some r)∧Aside0 (kq≤k)∧Aside0 (Below w.heap.size w wc))
 case first=>
  have H:=HC3.out
  clear HC3
  by_cases c4:a1<1
  ·rw[if_pos c4]at H
   have c4b0:decide (a1<1)=true:=decide_eq_true c4
   clear c4
   (first | rw[c4b0] | (simp only[i64_w,i32_w];rw[c4b0]) | skip)
   have H':=am_ H
   clear H
   go_wp2
   go_meet
   case rel=>exact⟨_,(true),(a6_),H',⟨by first | omega | exact Nat.le_refl _⟩,⟨a0_⟩⟩
  ·rw[if_neg c4]at H
   have c4b0:decide (a1<1)=false:=decide_eq_false c4
   clear c4
   (first | rw[c4b0] | (simp only[i64_w,i32_w];rw[c4b0]) | skip)
   by_cases c5:a1>4
   ·rw[if_pos c5]at H
    have c5b0:decide (4<a1)=true:=decide_eq_true c5
    clear c5
    have H':=am_ H
    clear H
    go_wp2
    go_meet
    case rel=>exact⟨_,(true),(a6_),H',⟨by first | omega | exact Nat.le_refl _⟩,⟨a0_⟩⟩
   ·rw[if_neg c5]at H
    have c5b0:decide (4<a1)=false:=decide_eq_false c5
    clear c5
    have H':=am_ H
    clear H
    go_wp2
    go_meet
    case rel=>exact⟨_,(decide ((l0.length:Int)>12)),(a6_),H',⟨by first | omega | exact Nat.le_refl _⟩,⟨a0_⟩⟩
 case rest=>
  clear HC3
  try clear c2
  try clear p2
  try clear c4
  try clear c4b0
  try clear c5
  try clear c5b0
  obtain⟨kq,x17_2,rfl,HA,HJ2,HB⟩:=hcut
  cases kq with
  | zero=>exact absurd HA.out (by simp[impl_AreParts.j0])
  | succ kj2=>
   have H:=HA.out
   clear HA
   simp only[impl_AreParts.j0]at H
   by_cases c6:x17_2=true
   ·subst c6
    replace H:(some false)=some r:=by rw[if_pos rfl]at H;exact H
    obtain rfl:=Option.some.inj H
    go_wp2
    go_ret
    exact⟨a5_,a0_⟩
   ·replace c6:=Bool.eq_false_iff.mpr c6
    subst c6
    replace H:(impl_AreParts.l0 kj2 l0 a1 l0 (l0.length:Int) 0)=some r:=by rw[if_neg (show ¬(false=true) by decide)]at H;exact H
    have H':=am_ H
    clear H
    go_wp2
    go_loopg [20] kj2 (fun kq v20 w'=>∃(x20_2:Int),v20 = .int .i64 x20_2∧Aside0 (impl_AreParts.l0 kq l0 a1 l0 (l0.length:Int) x20_2=some r)∧Aside0 (kq≤kj2)∧Aside0 (Below w.heap.size w w'))
    case atStart=>exact⟨(0),(a6_),H',⟨Nat.le_refl _⟩,⟨a0_⟩⟩
    case round=>
     clear H'
     try clear c2
     try clear p2
     try clear c4
     try clear c4b0
     try clear c5
     try clear c5b0
     try clear c6
     try clear p2
     obtain⟨x20_2,rfl,HA,HK2,HB⟩:=hrel
     cases gk with
     | zero=>exact absurd HA.out (by simp[impl_AreParts.l0])
     | succ k2=>
      have H:=HA.out
      clear HA
      simp only[impl_AreParts.l0]at H
      by_cases c7:x20_2<(l0.length:Int)
      ·rw[if_pos c7]at H
       have c7b0:decide (x20_2<(l0.length:Int))=true:=decide_eq_true c7
       clear c7
       by_cases c8:0≤x20_2
       ·rw[if_pos c8]at H
        have c8b0:decide (0≤x20_2)=true:=decide_eq_true c8
        clear c8
        by_cases c9:x20_2<(l0.length:Int)
        ·rw[if_pos c9]at H
         have c9b0:decide (x20_2<(l0.length:Int))=true:=decide_eq_true c9
         clear c9
         by_cases c10:((rd_T44 l0 x20_2).f0)<0
         ·rw[if_pos c10]at H
          have c10b0:decide (((rd_T44 l0 x20_2).f0)<0)=true:=decide_eq_true c10
          clear c10
          obtain rfl:=Option.some.inj H
          have p249:0≤(x20_2:Int):=of_decide_eq_true (a4_)
          have q249:x20_2<(l0.length:Int):=of_decide_eq_true (a4_)
          obtain⟨ad249,e249,hx249_0,hx249_1,hx249_2⟩:=at_T44 HR0.out x20_2 p249 q249
          cases e249
          replace hx249_0:=(HB.out.cell (World.block_lt_of_cell? w _ hx249_0)).trans hx249_0
          replace hx249_1:=(HB.out.cell (World.block_lt_of_cell? w _ hx249_1)).trans hx249_1
          replace hx249_2:=(HB.out.cell (World.block_lt_of_cell? w _ hx249_2)).trans hx249_2
          replace p249:=eq_true p249
          replace q249:=eq_true q249
          go_wp2_with (first | ((with_reducible refine gate_dst (N:=6) rfl ?_);(try(refine gate_guard (by rfl) ?_;dsimp only));refine box_event ?hg (N:=6) ?hd (cs:= #[.int .i64 0, .int .i64 0, .int .i64 0]) (t:=44) ?hr ?_;(case hd=>rfl);(case hg=>rfl);(case hr=>exact a12_);intro gb250 hg w11 hbox hb;have BK250:=am_ (hbox);have GW250:=am_ ((by rw[hg];exact(below_size (a0_)):w.heap.size≤gb250));have GE250:=am_ ((by rw[hg];exact(below_size (a0_)):w.heap.size≤gb250));replace HB:=am_ (below_step (a0_) hb);clear hb hbox hg;have hcz12_0:w11.cell? ⟨gb250,0,none⟩=some (.int .i64 0):=(blk_cell BK250.out 0).trans rfl;have hcz12_1:w11.cell? ⟨gb250,1,none⟩=some (.int .i64 0):=(blk_cell BK250.out 1).trans rfl;have hcz12_2:w11.cell? ⟨gb250,2,none⟩=some (.int .i64 0):=(blk_cell BK250.out 2).trans rfl;have hfz12_0:=blk_frozen BK250.out 0;have hfz12_1:=blk_frozen BK250.out 1;have hfz12_2:=blk_frozen BK250.out 2))
          go_ret
          exact⟨a5_,(a1_ GE250.out)⟩
         ·rw[if_neg c10]at H
          have c10b0:decide (((rd_T44 l0 x20_2).f0)<0)=false:=decide_eq_false c10
          clear c10
          by_cases c13:((rd_T44 l0 x20_2).f0)≥a1
          ·rw[if_pos c13]at H
           have c13b0:decide (a1≤((rd_T44 l0 x20_2).f0))=true:=decide_eq_true c13
           clear c13
           obtain rfl:=Option.some.inj H
           have p249:0≤(x20_2:Int):=of_decide_eq_true (a4_)
           have q249:x20_2<(l0.length:Int):=of_decide_eq_true (a4_)
           obtain⟨ad249,e249,hx249_0,hx249_1,hx249_2⟩:=at_T44 HR0.out x20_2 p249 q249
           cases e249
           replace hx249_0:=(HB.out.cell (World.block_lt_of_cell? w _ hx249_0)).trans hx249_0
           replace hx249_1:=(HB.out.cell (World.block_lt_of_cell? w _ hx249_1)).trans hx249_1
           replace hx249_2:=(HB.out.cell (World.block_lt_of_cell? w _ hx249_2)).trans hx249_2
           replace p249:=eq_true p249
           replace q249:=eq_true q249
           go_wp2_with (first | ((with_reducible refine gate_dst (N:=6) rfl ?_);(try(refine gate_guard (by rfl) ?_;dsimp only));refine box_event ?hg (N:=6) ?hd (cs:= #[.int .i64 0, .int .i64 0, .int .i64 0]) (t:=44) ?hr ?_;(case hd=>rfl);(case hg=>rfl);(case hr=>exact a12_);intro gb250 hg w14 hbox hb;have BK250:=am_ (hbox);have GW250:=am_ ((by rw[hg];exact(below_size (a0_)):w.heap.size≤gb250));have GE250:=am_ ((by rw[hg];exact(below_size (a0_)):w.heap.size≤gb250));replace HB:=am_ (below_step (a0_) hb);clear hb hbox hg;have hcz15_0:w14.cell? ⟨gb250,0,none⟩=some (.int .i64 0):=(blk_cell BK250.out 0).trans rfl;have hcz15_1:w14.cell? ⟨gb250,1,none⟩=some (.int .i64 0):=(blk_cell BK250.out 1).trans rfl;have hcz15_2:w14.cell? ⟨gb250,2,none⟩=some (.int .i64 0):=(blk_cell BK250.out 2).trans rfl;have hfz15_0:=blk_frozen BK250.out 0;have hfz15_1:=blk_frozen BK250.out 1;have hfz15_2:=blk_frozen BK250.out 2))
           go_ret
           exact⟨a5_,(a1_ GE250.out)⟩
          ·rw[if_neg c13]at H
           have c13b0:decide (a1≤((rd_T44 l0 x20_2).f0))=false:=decide_eq_false c13
           clear c13
           by_cases c16:((rd_T44 l0 x20_2).f1)<0
           ·rw[if_pos c16]at H
            have c16b0:decide (((rd_T44 l0 x20_2).f1)<0)=true:=decide_eq_true c16
            clear c16
            obtain rfl:=Option.some.inj H
            have p249:0≤(x20_2:Int):=of_decide_eq_true (a4_)
            have q249:x20_2<(l0.length:Int):=of_decide_eq_true (a4_)
            obtain⟨ad249,e249,hx249_0,hx249_1,hx249_2⟩:=at_T44 HR0.out x20_2 p249 q249
            cases e249
            replace hx249_0:=(HB.out.cell (World.block_lt_of_cell? w _ hx249_0)).trans hx249_0
            replace hx249_1:=(HB.out.cell (World.block_lt_of_cell? w _ hx249_1)).trans hx249_1
            replace hx249_2:=(HB.out.cell (World.block_lt_of_cell? w _ hx249_2)).trans hx249_2
            replace p249:=eq_true p249
            replace q249:=eq_true q249
            go_wp2_with (first | ((with_reducible refine gate_dst (N:=6) rfl ?_);(try(refine gate_guard (by rfl) ?_;dsimp only));refine box_event ?hg (N:=6) ?hd (cs:= #[.int .i64 0, .int .i64 0, .int .i64 0]) (t:=44) ?hr ?_;(case hd=>rfl);(case hg=>rfl);(case hr=>exact a12_);intro gb250 hg w17 hbox hb;have BK250:=am_ (hbox);have GW250:=am_ ((by rw[hg];exact(below_size (a0_)):w.heap.size≤gb250));have GE250:=am_ ((by rw[hg];exact(below_size (a0_)):w.heap.size≤gb250));replace HB:=am_ (below_step (a0_) hb);clear hb hbox hg;have hcz18_0:w17.cell? ⟨gb250,0,none⟩=some (.int .i64 0):=(blk_cell BK250.out 0).trans rfl;have hcz18_1:w17.cell? ⟨gb250,1,none⟩=some (.int .i64 0):=(blk_cell BK250.out 1).trans rfl;have hcz18_2:w17.cell? ⟨gb250,2,none⟩=some (.int .i64 0):=(blk_cell BK250.out 2).trans rfl;have hfz18_0:=blk_frozen BK250.out 0;have hfz18_1:=blk_frozen BK250.out 1;have hfz18_2:=blk_frozen BK250.out 2))
            go_ret
            exact⟨a5_,(a1_ GE250.out)⟩
           ·rw[if_neg c16]at H
            have c16b0:decide (((rd_T44 l0 x20_2).f1)<0)=false:=decide_eq_false c16
            clear c16
            by_cases c19:((rd_T44 l0 x20_2).f1)≥((rd_T44 l0 x20_2).f2)
            ·rw[if_pos c19]at H
             have c19b0:decide (((rd_T44 l0 x20_2).f2)≤((rd_T44 l0 x20_2).f1))=true:=decide_eq_true c19
             clear c19
             obtain rfl:=Option.some.inj H
             have p249:0≤(x20_2:Int):=of_decide_eq_true (a4_)
             have q249:x20_2<(l0.length:Int):=of_decide_eq_true (a4_)
             obtain⟨ad249,e249,hx249_0,hx249_1,hx249_2⟩:=at_T44 HR0.out x20_2 p249 q249
             cases e249
             replace hx249_0:=(HB.out.cell (World.block_lt_of_cell? w _ hx249_0)).trans hx249_0
             replace hx249_1:=(HB.out.cell (World.block_lt_of_cell? w _ hx249_1)).trans hx249_1
             replace hx249_2:=(HB.out.cell (World.block_lt_of_cell? w _ hx249_2)).trans hx249_2
             replace p249:=eq_true p249
             replace q249:=eq_true q249
             go_wp2_with (first | ((with_reducible refine gate_dst (N:=6) rfl ?_);(try(refine gate_guard (by rfl) ?_;dsimp only));refine box_event ?hg (N:=6) ?hd (cs:= #[.int .i64 0, .int .i64 0, .int .i64 0]) (t:=44) ?hr ?_;(case hd=>rfl);(case hg=>rfl);(case hr=>exact a12_);intro gb250 hg w20 hbox hb;have BK250:=am_ (hbox);have GW250:=am_ ((by rw[hg];exact(below_size (a0_)):w.heap.size≤gb250));have GE250:=am_ ((by rw[hg];exact(below_size (a0_)):w.heap.size≤gb250));replace HB:=am_ (below_step (a0_) hb);clear hb hbox hg;have hcz21_0:w20.cell? ⟨gb250,0,none⟩=some (.int .i64 0):=(blk_cell BK250.out 0).trans rfl;have hcz21_1:w20.cell? ⟨gb250,1,none⟩=some (.int .i64 0):=(blk_cell BK250.out 1).trans rfl;have hcz21_2:w20.cell? ⟨gb250,2,none⟩=some (.int .i64 0):=(blk_cell BK250.out 2).trans rfl;have hfz21_0:=blk_frozen BK250.out 0;have hfz21_1:=blk_frozen BK250.out 1;have hfz21_2:=blk_frozen BK250.out 2))
             go_ret
             exact⟨a5_,(a1_ GE250.out)⟩
            ·rw[if_neg c19]at H
             have c19b0:decide (((rd_T44 l0 x20_2).f2)≤((rd_T44 l0 x20_2).f1))=false:=decide_eq_false c19
             clear c19
             by_cases c22:((rd_T44 l0 x20_2).f2)>2000
             ·rw[if_pos c22]at H
              have c22b0:decide (2000<((rd_T44 l0 x20_2).f2))=true:=decide_eq_true c22
              clear c22
              obtain rfl:=Option.some.inj H
              have p249:0≤(x20_2:Int):=of_decide_eq_true (a4_)
              have q249:x20_2<(l0.length:Int):=of_decide_eq_true (a4_)
              obtain⟨ad249,e249,hx249_0,hx249_1,hx249_2⟩:=at_T44 HR0.out x20_2 p249 q249
              cases e249
              replace hx249_0:=(HB.out.cell (World.block_lt_of_cell? w _ hx249_0)).trans hx249_0
              replace hx249_1:=(HB.out.cell (World.block_lt_of_cell? w _ hx249_1)).trans hx249_1
              replace hx249_2:=(HB.out.cell (World.block_lt_of_cell? w _ hx249_2)).trans hx249_2
              replace p249:=eq_true p249
              replace q249:=eq_true q249
              go_wp2_with (first | ((with_reducible refine gate_dst (N:=6) rfl ?_);(try(refine gate_guard (by rfl) ?_;dsimp only));refine box_event ?hg (N:=6) ?hd (cs:= #[.int .i64 0, .int .i64 0, .int .i64 0]) (t:=44) ?hr ?_;(case hd=>rfl);(case hg=>rfl);(case hr=>exact a12_);intro gb250 hg w23 hbox hb;have BK250:=am_ (hbox);have GW250:=am_ ((by rw[hg];exact(below_size (a0_)):w.heap.size≤gb250));have GE250:=am_ ((by rw[hg];exact(below_size (a0_)):w.heap.size≤gb250));replace HB:=am_ (below_step (a0_) hb);clear hb hbox hg;have hcz24_0:w23.cell? ⟨gb250,0,none⟩=some (.int .i64 0):=(blk_cell BK250.out 0).trans rfl;have hcz24_1:w23.cell? ⟨gb250,1,none⟩=some (.int .i64 0):=(blk_cell BK250.out 1).trans rfl;have hcz24_2:w23.cell? ⟨gb250,2,none⟩=some (.int .i64 0):=(blk_cell BK250.out 2).trans rfl;have hfz24_0:=blk_frozen BK250.out 0;have hfz24_1:=blk_frozen BK250.out 1;have hfz24_2:=blk_frozen BK250.out 2))
              go_ret
              exact⟨a5_,(a1_ GE250.out)⟩
             ·rw[if_neg c22]at H
              have c22b0:decide (2000<((rd_T44 l0 x20_2).f2))=false:=decide_eq_false c22
              clear c22
              have H':=am_ H
              clear H
              have p249:0≤(x20_2:Int):=of_decide_eq_true (a4_)
              have q249:x20_2<(l0.length:Int):=of_decide_eq_true (a4_)
              obtain⟨ad249,e249,hx249_0,hx249_1,hx249_2⟩:=at_T44 HR0.out x20_2 p249 q249
              cases e249
              replace hx249_0:=(HB.out.cell (World.block_lt_of_cell? w _ hx249_0)).trans hx249_0
              replace hx249_1:=(HB.out.cell (World.block_lt_of_cell? w _ hx249_1)).trans hx249_1
              replace hx249_2:=(HB.out.cell (World.block_lt_of_cell? w _ hx249_2)).trans hx249_2
              replace p249:=eq_true p249
              replace q249:=eq_true q249
              go_wp2_with (first | ((with_reducible refine gate_dst (N:=6) rfl ?_);(try(refine gate_guard (by rfl) ?_;dsimp only));refine box_event ?hg (N:=6) ?hd (cs:= #[.int .i64 0, .int .i64 0, .int .i64 0]) (t:=44) ?hr ?_;(case hd=>rfl);(case hg=>rfl);(case hr=>exact a12_);intro gb250 hg w25 hbox hb;have BK250:=am_ (hbox);have GW250:=am_ ((by rw[hg];exact(below_size (a0_)):w.heap.size≤gb250));have GE250:=am_ ((by rw[hg];exact(below_size (a0_)):w.heap.size≤gb250));replace HB:=am_ (below_step (a0_) hb);clear hb hbox hg;have hcz26_0:w25.cell? ⟨gb250,0,none⟩=some (.int .i64 0):=(blk_cell BK250.out 0).trans rfl;have hcz26_1:w25.cell? ⟨gb250,1,none⟩=some (.int .i64 0):=(blk_cell BK250.out 1).trans rfl;have hcz26_2:w25.cell? ⟨gb250,2,none⟩=some (.int .i64 0):=(blk_cell BK250.out 2).trans rfl;have hfz26_0:=blk_frozen BK250.out 0;have hfz26_1:=blk_frozen BK250.out 1;have hfz26_2:=blk_frozen BK250.out 2))
              go_roundg k2
              case measure=>have:=HJ2.out;have:=HK2.out;omega
              case rel=>exact⟨(wrap64 (x20_2+1)),(a6_),H',⟨by have:=HJ2.out;have:=HK2.out;omega⟩,⟨(a1_ GE250.out)⟩⟩
        ·rw[if_neg c9]at H
         exact absurd H (by simp)
       ·rw[if_neg c8]at H
        exact absurd H (by simp)
      ·rw[if_neg c7]at H
       have c7b0:decide (x20_2<(l0.length:Int))=false:=decide_eq_false c7
       clear c7
       replace H:=Option.bind_eq_some_iff.mp H
       obtain⟨t251,A270,H⟩:=H
       replace H:(some (decide (t251≤2000)))=some r:=H
       have A27:=am_ A270
       clear A270
       obtain rfl:=Option.some.inj H
       go_wp2_with (first | ((with_reducible refine gate_callee (f:=36) rfl ?_);refine goesL_ (some 52) rfl rfl Try.func36 (by kernel_rfl) rfl #[.slice A0 l0.length c0] rfl (by(try simp only[List.map_toArray,List.map_cons,List.map_nil]);first | done | rfl | (simp only[List.length_drop,List.length_take];rfl)) ?_;(with_reducible refine(impl_editionLength.calls k2 _ _ l0 t251 _ ?side1 ?side2 A27.out).mono ?_);(case side1=>exact(a11_ HR0.out));(case side2=>exact HC0.out);rintro e w28 ⟨rfl,hb⟩;refine⟨_,rfl,?_⟩;replace HB:=am_ (below_step (a0_) hb);(try clear hb);(try clear hb2);(try clear hk);(try clear hi)))
       go_ret
       exact⟨a5_,a0_⟩

-- NOT PRINTED: function 37 (impl_gridRanges)

/-! ### impl_Hole: function 45 (by hand: a copy of a slice) -/
def impl_Hole.f (l0:List S47):Option (List S47):=if l0.length<1000000000 then some l0 else none
theorem impl_Hole.info:(Try.prog.info? 47).map (fun i=>(i.zero,i.size,i.bytes))=some (some (.agg #[(.int .i64 0),(.int .i64 0),(.int .i64 0)]),3,24):=by kernel_rfl
set_option maxHeartbeats 8000000 in
set_option maxRecDepth 100000 in
theorem impl_Hole.calls (A0:Option Addr) (c0:Nat) (l0:List S47) (r:List S47) (w:World) (hr0:Kd.C k47 w A0 l0.length l0) (hc0:l0.length≤c0) (h:impl_Hole.f l0=some r) :
 Calls Try.prog 45 #[.slice A0 l0.length c0] w fun e w'=>∃v0_:Value,e = .returned (v0_)∧Kd.R k47 47 w' w.heap.size (fun _=>True) v0_ r∧Below w.heap.size w w':=by
 unfold impl_Hole.f at h
 by_cases hlen:l0.length<1000000000
 ·rw[if_pos hlen]at h
  obtain rfl:=Option.some.inj h
  clear h
  cases A0 with
  | none=>
   have hz:l0 = []:=by
    rcases Nat.eq_zero_or_pos l0.length with h0 | h0
    ·exact List.eq_nil_of_length_eq_zero h0
    ·obtain⟨ad,e,_⟩:=hr0.2.2 h0
     cases e
   subst hz
   have hq:∀W:World,(binOp .eql 26 (.slice none 0 c0) (.slice none 0 0)).run Try.prog W = .ok (.bool true) W:=fun W=>Go.run_eql_slice_nil W 26 47 none 0 c0 Try.underlying26
   clear hr0 hc0 hlen
   go_enter Try.func45,Try.ntmps45
   go_wp2
   go_ret
   exact⟨_,rfl,Kd.R_nil _ _ _ _ _,Below.refl _ _⟩
  | some ad=>
   have hq:∀W:World,(binOp .eql 26 (.slice (some ad) l0.length c0) (.slice none 0 0)).run Try.prog W = .ok (.bool false) W:=fun W=>Go.run_eql_slice_nil W 26 47 (some ad) l0.length c0 Try.underlying26
   have HR0:=am_ hr0
   have HC0:=am_ hc0
   have HL:=am_ hlen
   clear hr0 hc0 hlen
   have HB:=am_ (Below.refl w.heap.size w)
   go_enter Try.func45,Try.ntmps45
   go_wp2_with (first | ((with_reducible refine gate_dst (N:=5) rfl ?_);refine Kd.R_lit k47 _ 47 ?hg (N:=5) ?hd (xs:=([]:List S47)) (inner:=[]) (ok:=fun _=>True) (okp:=fun _=>True) ?hr ?hp (fun _ hk=>hk) trivial (Below.refl _ _) (Nat.le_refl _) (by simp) ?_;(case hd=>rfl);(case hg=>rfl);(case hr=>exact a12_);(case hp=>exact(Reps.none _ _));intro v112 w3 ho4 hb hg_ hnew_;clear hg_ hnew_;have HO113:=am_ (Kd.R_lower ho4 (below_size (a0_)));replace HB:=am_ (below_step (a0_) hb);clear hb ho4) | ((with_reducible refine gate_builtin (b:= .append) (xs:= #[.tmp 5, .tmp 6]) rfl ?_);at_builtin;refine Kd.R_append_rows k47 (w0:=w) w.heap.size rfl (.tmp 5) (.tmp 6) 26 47 (.agg #[(.int .i64 0),(.int .i64 0),(.int .i64 0)]) 24 rfl Try.underlying26 impl_Hole.info rfl (by decide) (by omega) v112 [] l0 _ _ _ (fun _=>True) (fun _=>False) rfl rfl ?aO ?aR (fun _ _ h=>h) (fun _ h=>h.elim) ?aF ?aB ?aS ?aL ?_;(case aR=>exact(a11_ HR0.out));(case aB=>exact(a0_));(case aF=>exact(fun _ _=>trivial));(case aO=>exact((a2_ HO113.out)));(case aS=>exact(below_size (a0_)));(case aL=>have:=HL.out;simp only[List.length_nil];omega);intro v115 w5 ho hb hg hat;have n0_:=am_ (hb);have n1_:=am_ (ho);clear HB HO113;have HB:=n0_;have HO116:=n1_;clear n0_ n1_ ho hb hg hat))
   go_ret
   refine⟨_,rfl,?_,a0_⟩
   have HX:=HO116.out
   rw[List.nil_append]at HX
   exact(by(with_reducible repeat (first | apply Kd.R_alloc | apply Kd.R_drewN | apply Kd.R_drew));exact HX)
 ·rw[if_neg hlen]at h
  exact absurd h (by simp)


-- NOT PRINTED: function 51 (reflectlite_ValueOf)

-- NOT PRINTED: function 52 (reflectlite_Swapper)

-- NOT PRINTED: function 65 (sort_insertionSort_func)

-- NOT PRINTED: function 68 (sort_swapRange_func)

-- NOT PRINTED: function 67 (sort_rotate_func)

-- NOT PRINTED: function 66 (sort_symMerge_func)

-- NOT PRINTED: function 53 (sort_stable_func)

-- NOT PRINTED: function 54 (reflectlite_Value_Len)

-- NOT PRINTED: function 46 (sort_SliceStable)

end Go.Proofs.Ytbbiihhaljigjaa.QFnExactMakeEdition
