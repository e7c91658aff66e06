/- Written by a program of this session (the kit's printer, with leaf contracts proved by hand put in): what each Go function computes, and that the call computes it. No condition but those that each theorem names. -/
import Derived.Test.YtkkhcemkppmgdaaDoorQFnPartsx0
import Derived.Test.YtkkhcemkppmgdaaDoorQFnPartsx2
import Derived.Test.YtkkhcemkppmgdaaDoorQFnPartsx3
import Derived.Test.YtkkhcemkppmgdaaDoorQFnPartsx4
import Derived.Test.YtkkhcemkppmgdaaDoorQFnPartsx14
namespace Go.Proofs.YtkkhcemkppmgdaaDoor.QFnParts
open Go.RowKit Go.Proofs.YtkkhcemkppmgdaaDoorW.PrintWords Go.Proofs.YtkkhcemkppmgdaaDoorW.PrintLast Go.Proofs.YtkkhcemkppmgdaaDoorW.PrintMore
attribute [local go_sem] max2_int min2_int max_two min_two max_three min_three max_four min_four   -- for this text's walks alone
set_option linter.unusedVariables false
set_option linter.unusedSimpArgs false

/-! ### impl_StepsFrom: function 42 (by hand: the parts of one source, by a closure that holds the source) -/
/-- What the closure tells of a hole: is it taken out. -/
def impl_StepsFrom.out (t : Int) (x : S93) : Bool := x.f0 != t
theorem impl_StepsFrom.step (l : List S93) (kk : Nat) (h : kk < l.length) : l.drop kk = rd_T93 l (kk : Int) :: l.drop (kk + 1) := by
 rw [List.drop_eq_getElem_cons h]
 congr 1
 simp [rd_T93, List.getD_eq_getElem?_getD, List.getElem?_eq_getElem h]
set_option maxHeartbeats 8000000 in
set_option maxRecDepth 100000 in
theorem impl_StepsFrom.clo (B : Nat) (t : Int) (x : S93) (b : Bool) (W : World) (hB : B < W.heap.size) (hc : W.cell? ⟨B, 0, none⟩ = some (.int .i64 t)) (hb : impl_StepsFrom.out t x = b) :
 Calls Tryd.prog 100 #[.agg #[.int .i64 x.f0, .int .i64 x.f1, .int .i64 x.f2], .pointer (some ⟨B, 0, none⟩)] W fun e w' => e = .returned (.bool b) ∧ Below W.heap.size W w' := by
 have hc2 : ∀ o : Obj, (W.alloc o).cell? ⟨B, 0, none⟩ = some (.int .i64 t) := fun o => (World.cell?_alloc_lt _ _ _ hB).trans hc
 go_enter Tryd.func100, Tryd.ntmps100
 go_wp2
 go_ret
 exact ⟨by rw [← hb]; rfl, by repeat (first|(with_reducible first|exact Below.refl _ _|apply below_alloc|apply pw_below_drewN|apply below_drew1)|exact Below.refl _ _)⟩
def impl_StepsFrom.at (p : S93 → Bool) : Int → List S93 → Int
 | _, [] => -1
 | i, x :: l => if p x = true then i else impl_StepsFrom.at p (i + 1) l
theorem impl_StepsFrom.at_spec (p : S93 → Bool) (l : List S93) : ∀ i : Int, (impl_StepsFrom.at p i l = -1 ∧ l.filter (fun x => !p x) = l) ∨ ∃ pre x suf, l = pre ++ x :: suf ∧ impl_StepsFrom.at p i l = i + pre.length ∧ pre.filter (fun x => !p x) = pre ∧ p x = true := by
 induction l with
 | nil => intro i; exact .inl ⟨rfl, rfl⟩
 | cons x l ih =>
  intro i
  by_cases c : p x = true
  ·exact .inr ⟨[], x, l, rfl, by simp [impl_StepsFrom.at, c], rfl, c⟩
  ·rcases ih (i + 1) with ⟨h1, h2⟩ | ⟨pre, y, suf, h1, h2, h3, h4⟩
   ·exact .inl ⟨by rw [impl_StepsFrom.at, if_neg c, h1], by rw [List.filter_cons_of_pos (by simpa using c), h2]⟩
   ·exact .inr ⟨x :: pre, y, suf, by rw [h1]; rfl, by rw [impl_StepsFrom.at, if_neg c, h2, List.length_cons]; omega, by rw [List.filter_cons_of_pos (by simpa using c), h3], h4⟩
set_option maxHeartbeats 8000000 in
set_option maxRecDepth 100000 in
theorem impl_StepsFrom.first (A0 : Option Addr) (c0 : Nat) (l0 : List S93) (B : Nat) (t : Int) (w : World) (hB : B < w.heap.size) (hcB : w.cell? ⟨B, 0, none⟩ = some (.int .i64 t)) (hr0 : Kd.C k93 w A0 l0.length l0) :
 Calls Tryd.prog 118 #[.slice A0 l0.length c0, .func (.func 100) #[] #[.pointer (some ⟨B, 0, none⟩)]] w fun e w' => e = .returned (.int .i64 (impl_StepsFrom.at (impl_StepsFrom.out t) 0 l0)) ∧ Below w.heap.size w w' := by
 have HR0 := Aside0.mk hr0
 have HCB := Aside0.mk hcB
 clear hr0 hcB
 have hmax := HR0.out.2.1
 have eg := enters_of (P := Tryd.prog) Tryd.func100 (by kernel_rfl) rfl
 go_enter Tryd.func118, Tryd.ntmps118
 go_wp2
 (try simp only [Act.put, List.setIfInBounds_toArray, List.set_cons_zero, List.set_cons_succ])
 go_loopg [5, 8] l0.length (fun gg _ s8 wr => ∃ kk : Nat, kk ≤ l0.length ∧ l0.length - kk ≤ gg ∧ s8 = .int .i64 kk ∧ Aside0 (Below w.heap.size w wr) ∧ Aside0 (impl_StepsFrom.at (impl_StepsFrom.out t) 0 l0 = impl_StepsFrom.at (impl_StepsFrom.out t) kk (l0.drop kk)))
 case atStart => exact ⟨0, Nat.zero_le _, by omega, rfl, ⟨Below.refl _ w⟩, ⟨rfl⟩⟩
 case round =>
  obtain ⟨kk, hkk, hg, rfl, HB, HI⟩ := hrel
  by_cases hlt : kk < l0.length
  ·have hltz : (kk : Int) < (l0.length : Int) := by omega
   obtain ⟨ad, e1, hx0, hx1, hx2⟩ := at_T93 HR0.out (kk : Int) (by omega) hltz
   cases e1
   simp only [Int.toNat_natCast] at hx0 hx1 hx2
   replace hx0 := (HB.out.cell (World.block_lt_of_cell? w _ hx0)).trans hx0
   replace hx1 := (HB.out.cell (World.block_lt_of_cell? w _ hx1)).trans hx1
   replace hx2 := (HB.out.cell (World.block_lt_of_cell? w _ hx2)).trans hx2
   have hdrop := impl_StepsFrom.step l0 kk hlt
   have hsz : w.heap.size ≤ wr.heap.size := HB.out.size
   cases hq : impl_StepsFrom.out t (rd_T93 l0 (kk : Int)) with
   | true =>
    have hcall := impl_StepsFrom.clo B t (rd_T93 l0 (kk : Int)) true wr (by omega) (pw_cell_below HB.out HCB.out) hq
    have HD : Aside0 (impl_StepsFrom.at (impl_StepsFrom.out t) 0 l0 = (kk : Int)) := ⟨by rw [HI.out, hdrop]; simp only [impl_StepsFrom.at]; rw [if_pos hq]⟩
    clear hq hdrop HI
    go_wp2_with (go_at_call 100; refine hcall.mono ?_; rintro e w' ⟨rfl, hb'⟩)
    go_ret
    exact ⟨by rw [HD.out]; rfl, below_then HB.out hsz hb'⟩
   | false =>
    have hcall := impl_StepsFrom.clo B t (rd_T93 l0 (kk : Int)) false wr (by omega) (pw_cell_below HB.out HCB.out) hq
    have HD : Aside0 (impl_StepsFrom.at (impl_StepsFrom.out t) 0 l0 = impl_StepsFrom.at (impl_StepsFrom.out t) ((kk + 1 : Nat) : Int) (l0.drop (kk + 1))) := ⟨by rw [HI.out, hdrop]; simp only [impl_StepsFrom.at]; rw [if_neg (by rw [hq]; decide)]; simp⟩
    clear hq hdrop HI
    go_wp2_with (go_at_call 100; refine hcall.mono ?_; rintro e w' ⟨rfl, hb'⟩)
    go_roundg (l0.length - (kk + 1))
    case measure => omega
    case rel => exact ⟨kk + 1, by omega, by omega, by go_num, ⟨below_then HB.out hsz hb'⟩, HD⟩
  ·have hltz : ¬ (kk : Int) < (l0.length : Int) := by omega
   have hkl : kk = l0.length := by omega
   have HD : Aside0 (impl_StepsFrom.at (impl_StepsFrom.out t) 0 l0 = -1) := ⟨by rw [HI.out, hkl, List.drop_length]; rfl⟩
   clear HI hkl
   go_wp2
   go_ret
   exact ⟨by rw [HD.out]; rfl, HB.out⟩
/-- The tail is cleared: zero cells are written, whatever they are. -/
theorem impl_StepsFrom.clear (W : World) (g o n c : Nat) (hn : 0 < n) (hc : ∀ j, j < n * 3 → (W.cell? ⟨g, o + j, none⟩).isSome = true) (hf : ∀ j, j < n * 3 → W.frozen? ⟨g, o + j, none⟩ = false) :
 ∃ zs : List Value, zs.length = n * 3 ∧ ∀ ty, (Builtin.clear_ #[46] ty #[.slice (some ⟨g, o, none⟩) n c]).run Tryd.prog W = .ok (.tuple #[]) (W.setCells g o zs) := by
 have hv : ∀ w, (zeroValue 93).run Tryd.prog w = .ok (.agg #[(.int .i64 0), (.int .i64 0), (.int .i64 0)]) w := by intro w; go_simp
 have hl : (Builtin.zeroCells (Value.cells (.agg #[(.int .i64 0), (.int .i64 0), (.int .i64 0)])) n).toList.length = n * 3 := by simp [Builtin.zeroCells, Value.cells]
 have h1 : ∀ v ∈ (Builtin.zeroCells (Value.cells (.agg #[(.int .i64 0), (.int .i64 0), (.int .i64 0)])) n).toList, v.oneCell' = true := by
  intro v hv'
  simp only [Builtin.zeroCells, Array.toList_map, List.mem_map] at hv'
  obtain ⟨i, _, rfl⟩ := hv'
  have hs : (Value.cells (.agg #[(.int .i64 0), (.int .i64 0), (.int .i64 0)])).size = 3 := rfl
  rw [hs]
  rcases (show i % 3 = 0 ∨ i % 3 = 1 ∨ i % 3 = 2 by omega) with h | h | h <;> rw [h] <;> rfl
 have hst := run_storeCells_cells (P := Tryd.prog) g o (Builtin.zeroCells (Value.cells (.agg #[(.int .i64 0), (.int .i64 0), (.int .i64 0)])) n).toList 0 W (by simpa only [hl, Nat.add_zero] using hc) (by simpa only [hl, Nat.add_zero] using hf) h1
 simp only [Nat.add_zero] at hst
 refine ⟨_, hl, fun ty => ?_⟩
 obtain ⟨m, rfl⟩ : ∃ m, n = m + 1 := ⟨n - 1, by omega⟩
 simp [Builtin.clear_, run_underlying Tryd.underlying46, hv, hst]
/-- What stands behind the first i elements may be written over: the first i are a row still. -/
theorem impl_StepsFrom.cut (W : World) (base g n cap i : Nat) (ys : List S93) (zs : List Value) (HO : Kd.R k93 93 W base (fun _ => True) (.slice (some ⟨g, 0, none⟩) n cap) ys) (hi : i ≤ n) (hz : i * 3 + zs.length ≤ cap * 3) :
 Kd.R k93 93 (W.setCells g (i * 3) zs) base (fun _ => True) (.slice (some ⟨g, 0, none⟩) i cap) (ys.take i) := by
 have hn := (Kd.R_reads' HO).1
 obtain ⟨hok, inner, hown, hr⟩ := Kd.R_take (m := i) HO (by omega)
 have hsz : (k93).sz = 3 := rfl
 have hlt : (ys.take i).length = i := by rw [List.length_take]; omega
 rcases hown.2 with ⟨hv, _⟩ | ⟨g', cap', cur, hv, hb, hh, hnc, hcm, hcs, htake⟩
 ·cases hv
 injection hv with ha _ hc
 injection ha with ha
 injection ha with hg
 subst hg; subst hc
 rw [hsz] at hcs htake
 obtain ⟨cur', h3, h4, h5⟩ := setCells_row zs (i * 3) W cur hh (by omega)
 have hfar : ∀ k', k' ≠ g → (W.setCells g (i * 3) zs).heap[k']? = W.heap[k']? := fun k' hk' => setCells_far zs _ k' hk'
 refine ⟨hok, inner, ⟨hown.1, .inr ⟨g, cap, cur', by rw [hlt], hb, h3, hnc, hcm, by rw [h4, hcs, hsz], ?_⟩⟩, hr.imp_ (fun p q hp => Kd.M_move _ (fun k' hk' => hfar k' (fun he => hk'.2 (by rw [he]; simp [Value.ownBlock]))) hp)⟩
 rw [hsz, hlt, h5]
 rw [hlt] at htake
 rw [← htake, List.append_assoc, List.take_append_of_le_length (by rw [List.length_take, Array.length_toList]; omega)]
 rw [List.take_take, Nat.min_self]
theorem impl_StepsFrom.takeset (ys : List S93) (i : Nat) (y : S93) (h : i < ys.length) : (ys.set i y).take (i + 1) = ys.take i ++ [y] := by
 obtain ⟨pre, x, suf, rfl, rfl⟩ : ∃ pre x suf, ys = pre ++ x :: suf ∧ pre.length = i := ⟨ys.take i, ys[i], ys.drop (i + 1), by simp, by simp; omega⟩
 rw [List.set_append_right _ _ (Nat.le_refl _)]
 rw [List.take_append, List.take_of_length_le (by omega), List.take_left]
 simp
set_option maxHeartbeats 2000000 in
set_option maxRecDepth 100000 in
theorem impl_StepsFrom.del (B : Nat) (t : Int) (w1 : World) (hB : B < w1.heap.size) (hcB : w1.cell? ⟨B, 0, none⟩ = some (.int .i64 t)) (W : World) (v : Value) (xs : List S93)
 (hO : Kd.R k93 93 W w1.heap.size (fun _ => True) v xs) (hBW : Below w1.heap.size w1 W) :
 Calls Tryd.prog 98 #[v, .func (.func 100) #[] #[.pointer (some ⟨B, 0, none⟩)]] W fun e w' => ∃ v0, e = .returned v0 ∧ Kd.R k93 93 w' w1.heap.size (fun _ => True) v0 (xs.filter fun x => !impl_StepsFrom.out t x) ∧ Below w1.heap.size w1 w' := by
 obtain ⟨A0, c0, rfl, hc0, hC0⟩ := Kd.R_reads hO
 have hlt1 : w1.heap.size ≤ W.heap.size := hBW.size
 have HCB := Aside0.mk hcB
 have HO := Aside0.mk hO
 have HB := Aside0.mk hBW
 have hmax := hC0.2.1
 have eg := enters_of (P := Tryd.prog) Tryd.func100 (by kernel_rfl) rfl
 have hcall := impl_StepsFrom.first A0 c0 xs B t W (by omega) (pw_cell_below hBW hcB) hC0
 clear hcB hO hBW hC0
 rcases impl_StepsFrom.at_spec (impl_StepsFrom.out t) xs 0 with ⟨h1, h2⟩ | ⟨pre, x0, suf, h1, h2, h3, h4⟩
 ·rw [h1] at hcall
  have HF := Aside0.mk h2
  clear h1 h2
  go_enter Tryd.func98, Tryd.ntmps98
  go_wp2_with (go_at_call 118; refine hcall.mono ?_; rintro e w' ⟨rfl, hb'⟩)
  go_ret
  exact ⟨_, rfl, by rw [HF.out]; exact Kd.R_below HO.out hb', below_step HB.out hb'⟩
 ·rw [h2, Int.zero_add] at hcall
  have hxl : xs.length = pre.length + (suf.length + 1) := by rw [h1]; simp
  have HF := Aside0.mk h1
  have HF3 := Aside0.mk h3
  have HF4 := Aside0.mk h4
  clear h1 h2 h3 h4
  obtain ⟨g, cap, eq1, hbase, hglt, hcap⟩ := Kd.R_form HO.out (by omega)
  obtain ⟨rfl, rfl⟩ : A0 = some ⟨g, 0, none⟩ ∧ c0 = cap := by injection eq1 with e1 e2 e3; exact ⟨e1, e3⟩
  clear eq1
  have HXL := Aside0.mk hxl
  have hw1 : wrap64 ((pre.length : Int) + 1) = ((pre.length + 1 : Nat) : Int) := by unfold wrap64; omega
  have HW1 := Aside0.mk hw1
  clear hxl hw1
  have hne1 : ((pre.length : Int) == -1) = false := beq_eq_false_iff_ne.2 (by omega)
  go_enter Tryd.func98, Tryd.ntmps98
  go_wp2_with (go_at_call 118; refine hcall.mono ?_; rintro e w2 ⟨rfl, hb'⟩; have n0_ := Aside0.mk (Kd.R_below HO.out hb'); have n1_ := Aside0.mk (below_step HB.out hb'); clear HO HB hb' hcall; have HO := n0_; have HB := n1_; clear n0_ n1_)
  (try simp only [Act.put, List.setIfInBounds_toArray, List.set_cons_zero, List.set_cons_succ])
  go_loopg [5, 6, 7] xs.length (fun gg s5 s6 _ wr => ∃ (i j : Nat) (ys : List S93), s5 = .int .i64 i ∧ s6 = .int .i64 j ∧ i < j ∧ j ≤ xs.length ∧ xs.length - j ≤ gg ∧ ys.length = xs.length ∧ Aside0 (ys.take i = (xs.take j).filter fun x => !impl_StepsFrom.out t x) ∧ Aside0 (ys.drop j = xs.drop j) ∧ Aside0 (Kd.R k93 93 wr w1.heap.size (fun _ => True) (.slice (some ⟨g, 0, none⟩) xs.length c0) ys) ∧ Aside0 (Below w1.heap.size w1 wr))
  case atStart => have hxl := HXL.out; exact ⟨pre.length, pre.length + 1, xs, rfl, by first|(rw [HW1.out];done)|(simp only [HW1.out];done) | go_num, by omega, by omega, by omega, rfl, ⟨by rw [HF.out, List.take_left, List.take_append, List.take_of_length_le (by omega)]; simp [HF3.out, HF4.out]⟩, ⟨rfl⟩, HO, HB⟩
  case round =>
   obtain ⟨i, j, ys, rfl, rfl, hij, hjn, hgg, hyl, HT, HD, HO, HB⟩ := hrel
   have hsz : w1.heap.size ≤ wr.heap.size := HB.out.size
   by_cases hlt : j < xs.length
   ·have hltz : (j : Int) < (xs.length : Int) := by omega
    have hiz : (i : Int) < (xs.length : Int) := by omega
    obtain ⟨ce, hcl, hM, hcc, hfr⟩ := Kd.R_elem HO.out z93 (j : Int) (by omega) (by omega)
    obtain rfl := k93_openM hM
    have hx0 := hcc 0 _ rfl
    have hx1 := hcc 1 _ rfl
    have hx2 := hcc 2 _ rfl
    clear hcl hM hcc hfr
    simp only [Int.toNat_natCast, show (k93).sz = 3 from rfl, Nat.add_zero] at hx0 hx1 hx2
    obtain ⟨y, hy⟩ : ∃ y, y = ys.getD j z93 := ⟨_, rfl⟩
    rw [← hy] at hx0 hx1 hx2
    have hyx : xs.drop j = y :: xs.drop (j + 1) := by
     rw [← HD.out, List.drop_eq_getElem_cons (by omega), hy]
     have e1 : ys.drop (j + 1) = xs.drop (j + 1) := by
      have := congrArg (List.drop 1) HD.out
      rwa [List.drop_drop, List.drop_drop] at this
     rw [e1, List.getD_eq_getElem?_getD, List.getElem?_eq_getElem (by omega)]; rfl
    have hD1 : ys.drop (j + 1) = xs.drop (j + 1) := by
     have := congrArg (List.drop 1) HD.out
     rwa [List.drop_drop, List.drop_drop] at this
    have hT1 : xs.take (j + 1) = xs.take j ++ [y] := by
     have e2 : xs[j]? = some y := by
      have := congrArg (fun q => q[0]?) hyx
      simpa using this
     rw [List.take_add_one, e2]; rfl
    have HYX := Aside0.mk hT1
    have HD1 := Aside0.mk hD1
    clear hy hyx hT1 hD1
    have hB3 : B < wr.heap.size := by omega
    have hw1 : wrap64 ((j : Int) + 1) = ((j + 1 : Nat) : Int) := by unfold wrap64; omega
    have hw2 : wrap64 ((i : Int) + 1) = ((i + 1 : Nat) : Int) := by unfold wrap64; omega
    have HW1 := Aside0.mk hw1
    have HW2 := Aside0.mk hw2
    clear hw1 hw2
    cases hq : impl_StepsFrom.out t y with
    | true =>
     have HQ := Aside0.mk hq
     clear hq
     go_wp2_with (first
      |((with_reducible refine gate_dst (N := 7) rfl ?_); refine box_event ?hg (N := 7) ?hd (cs := #[.int .i64 0, .int .i64 0, .int .i64 0]) (t := 93) ?hr ?_;(case hd => rfl);(case hg => rfl);(case hr => first|(go_simp;done)|(go_simp; rfl)); intro gb hgb w2 hbox hb; have n0_ := Aside0.mk (Kd.R_below (Kd.R_elderB HO.out gb (Nat.le_of_eq hgb.symm)) hb); have n1_ := Aside0.mk (below_step HB.out hb); have BK := Aside0.mk hbox; have GB := Aside0.mk (show w1.heap.size ≤ gb by rw [hgb]; exact HB.out.size); have GW := Aside0.mk (show B < w2.heap.size from Nat.lt_of_lt_of_le hB3 hb.size); clear HO HB; have HO := n0_; have HB := n1_; clear n0_ n1_ hb hbox hgb hB3 hx0 hx1 hx2; have hcz0 : w2.cell? ⟨gb, 0, none⟩ = some (.int .i64 0) := (blk_cell BK.out 0).trans rfl; have hcz1 : w2.cell? ⟨gb, 1, none⟩ = some (.int .i64 0) := (blk_cell BK.out 1).trans rfl; have hcz2 : w2.cell? ⟨gb, 2, none⟩ = some (.int .i64 0) := (blk_cell BK.out 2).trans rfl; have hfz0 := blk_frozen BK.out 0; have hfz1 := blk_frozen BK.out 1; have hfz2 := blk_frozen BK.out 2)
      |((with_reducible refine gate_store (t := 93) (p := 7) rfl ?_); refine store_event (t := 93) (p := 7) (v := ?vo_w3) (w1 := (((w2.setCell ⟨gb, 0, none⟩ (.int .i64 y.f0)).setCell ⟨gb, 1, none⟩ (.int .i64 y.f1)).setCell ⟨gb, 2, none⟩ (.int .i64 y.f2))) ?hg ?ho ?hn ?hr ?_;(case ho => rfl);(case hg => rfl);(case hn => rfl);(case hr => first|(go_simp;done)|(go_simp; rfl)); intro w3 hw; have BK3 : Aside0 (w3.heap[gb]? = some (.cells #[.int .i64 y.f0, .int .i64 y.f1, .int .i64 y.f2] 93 (0, 0))) := ⟨by rw [hw]; exact (blk_set (blk_set (blk_set BK.out 0 _) 1 _) 2 _).trans rfl⟩; have n0_ := Aside0.mk (show Kd.R k93 93 w3 w1.heap.size (fun k => True ∧ k ≠ gb) (.slice (some ⟨g, 0, none⟩) xs.length c0) ys from by rw [hw]; exact Kd.R_far (Kd.R_far (Kd.R_far HO.out (p := ⟨gb, 0, none⟩) (fun k hk => hk.2) _) (p := ⟨gb, 1, none⟩) (fun k hk => hk.2) _) (p := ⟨gb, 2, none⟩) (fun k hk => hk.2) _); have n1_ := Aside0.mk (show Below w1.heap.size w1 w3 from by rw [hw]; exact below_set (below_set (below_set HB.out GB.out) GB.out) GB.out); have GW3 := Aside0.mk (show B < w3.heap.size from Nat.lt_of_lt_of_le hB n1_.out.size); clear HO HB BK GW; have HO := n0_; have HB := n1_; clear n0_ n1_ hw hcz0 hcz1 hcz2 hfz0 hfz1 hfz2; have hv0 : w3.cell? ⟨gb, 0, none⟩ = some (.int .i64 y.f0) := (blk_cell BK3.out 0).trans rfl; have hv1 : w3.cell? ⟨gb, 1, none⟩ = some (.int .i64 y.f1) := (blk_cell BK3.out 1).trans rfl; have hv2 : w3.cell? ⟨gb, 2, none⟩ = some (.int .i64 y.f2) := (blk_cell BK3.out 2).trans rfl)
      |(go_at_call 100; refine (impl_StepsFrom.clo B t y true _ GW3.out (pw_cell_below HB.out HCB.out) HQ.out).mono ?_; rintro e w4 ⟨rfl, hb4⟩; have n0_ := Aside0.mk (Kd.R_below HO.out hb4); have n1_ := Aside0.mk (below_step HB.out hb4); clear HO HB; have HO := n0_; have HB := n1_; clear n0_ n1_ hb4 hv0 hv1 hv2))
     go_roundg (xs.length - (j + 1))
     case measure => omega
     case rel => exact ⟨i, j + 1, ys, rfl, by first|(rw [HW1.out];done)|(simp only [HW1.out];done) | go_num, by omega, by omega, Nat.le_refl _, hyl, ⟨by rw [HYX.out, List.filter_append, ← HT.out]; simp [HQ.out]⟩, HD1, ⟨Kd.R_mono HO.out (fun _ _ => trivial)⟩, HB⟩
    | false =>
     have HQ := Aside0.mk hq
     clear hq
     go_wp2_with (first
      |((with_reducible refine gate_dst (N := 7) rfl ?_); refine box_event ?hg (N := 7) ?hd (cs := #[.int .i64 0, .int .i64 0, .int .i64 0]) (t := 93) ?hr ?_;(case hd => rfl);(case hg => rfl);(case hr => first|(go_simp;done)|(go_simp; rfl)); intro gb hgb w2 hbox hb; have n0_ := Aside0.mk (Kd.R_below (Kd.R_elderB HO.out gb (Nat.le_of_eq hgb.symm)) hb); have n1_ := Aside0.mk (below_step HB.out hb); have BK := Aside0.mk hbox; have GB := Aside0.mk (show w1.heap.size ≤ gb by rw [hgb]; exact HB.out.size); have GW := Aside0.mk (show B < w2.heap.size from Nat.lt_of_lt_of_le hB3 hb.size); clear HO HB; have HO := n0_; have HB := n1_; clear n0_ n1_ hb hbox hgb hB3 hx0 hx1 hx2; have hcz0 : w2.cell? ⟨gb, 0, none⟩ = some (.int .i64 0) := (blk_cell BK.out 0).trans rfl; have hcz1 : w2.cell? ⟨gb, 1, none⟩ = some (.int .i64 0) := (blk_cell BK.out 1).trans rfl; have hcz2 : w2.cell? ⟨gb, 2, none⟩ = some (.int .i64 0) := (blk_cell BK.out 2).trans rfl; have hfz0 := blk_frozen BK.out 0; have hfz1 := blk_frozen BK.out 1; have hfz2 := blk_frozen BK.out 2)
      |((with_reducible refine gate_store (t := 93) (p := 7) rfl ?_); refine store_event (t := 93) (p := 7) (v := ?vo_w3) (w1 := (((w2.setCell ⟨gb, 0, none⟩ (.int .i64 y.f0)).setCell ⟨gb, 1, none⟩ (.int .i64 y.f1)).setCell ⟨gb, 2, none⟩ (.int .i64 y.f2))) ?hg ?ho ?hn ?hr ?_;(case ho => rfl);(case hg => rfl);(case hn => rfl);(case hr => first|(go_simp;done)|(go_simp; rfl)); intro w3 hw; have BK3 : Aside0 (w3.heap[gb]? = some (.cells #[.int .i64 y.f0, .int .i64 y.f1, .int .i64 y.f2] 93 (0, 0))) := ⟨by rw [hw]; exact (blk_set (blk_set (blk_set BK.out 0 _) 1 _) 2 _).trans rfl⟩; have n0_ := Aside0.mk (show Kd.R k93 93 w3 w1.heap.size (fun k => True ∧ k ≠ gb) (.slice (some ⟨g, 0, none⟩) xs.length c0) ys from by rw [hw]; exact Kd.R_far (Kd.R_far (Kd.R_far HO.out (p := ⟨gb, 0, none⟩) (fun k hk => hk.2) _) (p := ⟨gb, 1, none⟩) (fun k hk => hk.2) _) (p := ⟨gb, 2, none⟩) (fun k hk => hk.2) _); have n1_ := Aside0.mk (show Below w1.heap.size w1 w3 from by rw [hw]; exact below_set (below_set (below_set HB.out GB.out) GB.out) GB.out); have GW3 := Aside0.mk (show B < w3.heap.size from Nat.lt_of_lt_of_le hB n1_.out.size); clear HO HB BK GW; have HO := n0_; have HB := n1_; clear n0_ n1_ hw hcz0 hcz1 hcz2 hfz0 hfz1 hfz2; have hv0 : w3.cell? ⟨gb, 0, none⟩ = some (.int .i64 y.f0) := (blk_cell BK3.out 0).trans rfl; have hv1 : w3.cell? ⟨gb, 1, none⟩ = some (.int .i64 y.f1) := (blk_cell BK3.out 1).trans rfl; have hv2 : w3.cell? ⟨gb, 2, none⟩ = some (.int .i64 y.f2) := (blk_cell BK3.out 2).trans rfl)
      |(go_at_call 100; refine (impl_StepsFrom.clo B t y false _ GW3.out (pw_cell_below HB.out HCB.out) HQ.out).mono ?_; rintro e w4 ⟨rfl, hb4⟩; have n0_ := Aside0.mk (Kd.R_below HO.out hb4); have n1_ := Aside0.mk (below_step HB.out hb4); clear HO HB; have HO := n0_; have HB := n1_; clear n0_ n1_; replace hv0 := pw_cell_below hb4 hv0; replace hv1 := pw_cell_below hb4 hv1; replace hv2 := pw_cell_below hb4 hv2; clear hb4; obtain ⟨ce, hcl, hM, hcc, hfr⟩ := Kd.R_elem HO.out z93 (i : Int) (Int.natCast_nonneg i) hiz; obtain rfl := k93_openM hM; have HP := Aside0.mk (Kd.R_seg (Kd.R_mono HO.out (ok' := fun _ => True) (fun _ _ => trivial)) (i : Int) (Int.natCast_nonneg i) hiz (seg := [.int .i64 y.f0, .int .i64 y.f1, .int .i64 y.f2]) (j := 0) hcl hcc (show 3 ≤ 3 from by decide) (x' := y) (okp := fun k => True ∧ k ≠ g) (k93_mkM _ _ _ y) (fun _ hk => hk)); have he0 := hcc 0 _ rfl; have he1 := hcc 1 _ rfl; have he2 := hcc 2 _ rfl; have hf0 := hfr 0; have hf1 := hfr 1; have hf2 := hfr 2; clear hcl hM hcc hfr; simp only [Int.toNat_natCast, show (k93).sz = 3 from rfl, Nat.add_zero] at he0 he1 he2 hf0 hf1 hf2)
      |((with_reducible refine gate_store (t := 93) (p := 33) rfl ?_); refine store_event (t := 93) (p := 33) (v := ?vo_w5) (w1 := (((w4.setCell ⟨g, i * 3, none⟩ (.int .i64 y.f0)).setCell ⟨g, i * 3 + 1, none⟩ (.int .i64 y.f1)).setCell ⟨g, i * 3 + 2, none⟩ (.int .i64 y.f2))) ?hg ?ho ?hn ?hr ?_;(case ho => rfl);(case hg => rfl);(case hn => rfl);(case hr => first|(go_simp;done)|(go_simp; rfl)); intro w5 hw; have n0_ := Aside0.mk (show Kd.R k93 93 w5 w1.heap.size (fun _ => True) (.slice (some ⟨g, 0, none⟩) xs.length c0) (ys.set i y) from by rw [hw]; exact HP.out.1); have n1_ := Aside0.mk (show Below w1.heap.size w1 w5 from by rw [hw]; exact below_set (below_set (below_set HB.out hbase) hbase) hbase); clear HO HB HP; have HO := n0_; have HB := n1_; clear n0_ n1_ hw he0 he1 he2 hf0 hf1 hf2 hv0 hv1 hv2))
     go_roundg (xs.length - (j + 1))
     case measure => omega
     case rel => exact ⟨i + 1, j + 1, ys.set i y, by first|(rw [HW2.out];done)|(simp only [HW2.out];done) | go_num, by first|(rw [HW1.out];done)|(simp only [HW1.out];done) | go_num, by omega, by omega, Nat.le_refl _, by rw [List.length_set]; exact hyl, ⟨by rw [HYX.out, List.filter_append, ← HT.out, impl_StepsFrom.takeset ys i y (by omega)]; simp [HQ.out]⟩, ⟨by rw [List.drop_set_of_lt (by omega)]; exact HD1.out⟩, HO, HB⟩
   ·obtain rfl : j = xs.length := by omega
    have hltz : ¬ (xs.length : Int) < (xs.length : Int) := by omega
    have hn0 : 0 < xs.length - i := by omega
    have hic : i ≤ c0 := by omega
    have hicz : (i : Int) ≤ (c0 : Int) := by omega
    have hinz : (i : Int) ≤ (xs.length : Int) := by omega
    have hne2 : ¬ c0 = i := by omega
    obtain ⟨cur, hcur, hcs⟩ : ∃ cur, wr.heap[g]? = some (.cells cur 93 (0, 0)) ∧ cur.size = c0 * 3 := by
     obtain ⟨_, inner, hown, _⟩ := HO.out
     rcases hown.2 with ⟨hv, _⟩ | ⟨g', cap', cur, hv, hb, hh, hnc, hcm, hcs, htake⟩
     ·cases hv
     injection hv with ha _ hc
     injection ha with ha
     injection ha with hg
     subst hg; subst hc
     exact ⟨cur, hh, hcs⟩
    obtain ⟨zs, hzl, hcl⟩ := impl_StepsFrom.clear wr g (i * 3) (xs.length - i) (c0 - i) hn0 (fun q hq => by rw [blk_cell hcur, Array.getElem?_eq_getElem (by omega)]; rfl) (fun q hq => blk_frozen hcur _)
    have hz2 : i * 3 + zs.length ≤ c0 * 3 := by omega
    have HX := Aside0.mk (impl_StepsFrom.cut wr w1.heap.size g xs.length c0 i ys zs HO.out (by omega) hz2)
    have HBX : Aside0 (Below w1.heap.size w1 (wr.setCells g (i * 3) zs)) := ⟨by
     obtain ⟨s1, s2, s3, s4⟩ := setCells_same g zs (i * 3) wr
     exact pw_below_grown HB.out (some g) hsz ⟨s1, s2, s3, by rw [s4]; exact Nat.le_refl _, fun k _ hk => setCells_far _ _ k (fun he => hk (by rw [he]))⟩ (fun k hk => by injection hk with hk; rw [← hk]; exact hbase)⟩
    have HTX : Aside0 (ys.take i = xs.filter fun x => !impl_StepsFrom.out t x) := ⟨by rw [HT.out, List.take_length]⟩
    clear HT HD hcur hcs hzl hz2
    go_wp2
    go_ret
    exact ⟨_, rfl, by rw [← HTX.out]; exact HX.out, HBX.out⟩
def impl_StepsFrom.f (k : Nat) (l0 : List S93) (a1 : Int) : Option (Int × Bool) := (impl_isEdition.f k l0).bind fun t => (if t = true then (if a1 < 0 then (some (0, false)) else (if a1 ≥ 4 then (some (0, false)) else (if l0.length < 1000000000 then ((impl_editionLength.f k (l0.filter fun x => !impl_StepsFrom.out a1 x)).bind fun s => (some (s, true))) else none))) else (some (0, false)))
theorem impl_StepsFrom.mono : ∀ a0 a1 k, LeO (impl_StepsFrom.f k a0 a1) (impl_StepsFrom.f (k + 1) a0 a1) := by
 intro a0 a1 k
 unfold impl_StepsFrom.f
 repeat' first
  |(with_reducible exact impl_isEdition.mono _ _)
  |(with_reducible exact impl_editionLength.mono _ _)
  |(with_reducible exact LeO.refl _)
  |(with_reducible exact LeO.none _)
  |(with_reducible refine LeO.ite ?_ ?_)
  |(with_reducible refine LeO.bind ?_ (fun _ => ?_))
set_option maxHeartbeats 8000000 in
set_option maxRecDepth 100000 in
theorem impl_StepsFrom.calls (k : Nat) (A0 : Option Addr) (c0 : Nat) (l0 : List S93) (a1 : Int) (r1 : Int) (r2 : Bool) (w : World) (hr0 : Kd.C k93 w A0 l0.length l0) (hc0 : l0.length ≤ c0) (h : impl_StepsFrom.f k l0 a1 = some (r1, r2)) :
 Calls Tryd.prog 42 #[.slice A0 l0.length c0, .int .i64 a1] w fun e w' => e = .returned (.tuple #[.int .i64 r1, .bool r2]) ∧ Below w.heap.size w w' := by
 have HR0 := Aside0.mk hr0
 have HC0 := Aside0.mk hc0
 clear hr0 hc0
 replace h := Option.bind_eq_some_iff.mp h
 obtain ⟨t1, q1, H⟩ := h
 have A1 := Aside0.mk q1
 clear q1
 cases t1 with
 | false =>
  rw [if_neg (by decide)] at H
  simp only [Option.some.injEq, Prod.mk.injEq] at H
  obtain ⟨rfl, rfl⟩ := H
  go_enter Tryd.func42, Tryd.ntmps42
  go_wp2_with (go_at_call 83; refine (impl_isEdition.calls k A0 c0 l0 false _ (Kd.C_below HR0.out (below_alloc (Below.refl _ _) _)) HC0.out A1.out).mono ?_; rintro e w1 ⟨rfl, hb⟩; have HB1 := Aside0.mk hb; clear hb)
  go_ret2
  exact ⟨rfl, below_then (below_alloc (Below.refl _ _) _) (by simp) HB1.out⟩
 | true =>
  rw [if_pos rfl] at H
  by_cases n0 : a1 < 0
  ·rw [if_pos n0] at H
   simp only [Option.some.injEq, Prod.mk.injEq] at H
   obtain ⟨rfl, rfl⟩ := H
   have b0 : decide (a1 < 0) = true := decide_eq_true n0
   clear n0
   go_enter Tryd.func42, Tryd.ntmps42
   go_wp2_with (go_at_call 83; refine (impl_isEdition.calls k A0 c0 l0 true _ (Kd.C_below HR0.out (below_alloc (Below.refl _ _) _)) HC0.out A1.out).mono ?_; rintro e w1 ⟨rfl, hb⟩; have HB1 := Aside0.mk hb; have HX := pw_cell_below hb (blk_cell (blk_new w _) 0); clear hb)
   go_ret2
   exact ⟨rfl, below_then (below_alloc (Below.refl _ _) _) (by simp) HB1.out⟩
  rw [if_neg n0] at H
  have b0 : decide (a1 < 0) = false := decide_eq_false n0
  clear n0
  by_cases n1 : a1 ≥ 4
  ·rw [if_pos n1] at H
   simp only [Option.some.injEq, Prod.mk.injEq] at H
   obtain ⟨rfl, rfl⟩ := H
   have b1 : decide (4 ≤ a1) = true := decide_eq_true n1
   clear n1
   go_enter Tryd.func42, Tryd.ntmps42
   go_wp2_with (go_at_call 83; refine (impl_isEdition.calls k A0 c0 l0 true _ (Kd.C_below HR0.out (below_alloc (Below.refl _ _) _)) HC0.out A1.out).mono ?_; rintro e w1 ⟨rfl, hb⟩; have HB1 := Aside0.mk hb; have HX := pw_cell_below hb (blk_cell (blk_new w _) 0); clear hb)
   go_ret2
   exact ⟨rfl, below_then (below_alloc (Below.refl _ _) _) (by simp) HB1.out⟩
  rw [if_neg n1] at H
  have b1 : decide (4 ≤ a1) = false := decide_eq_false n1
  clear n1
  by_cases hlen : l0.length < 1000000000
  ·rw [if_pos hlen] at H
   have hcl : impl_Part_99.f l0 = some l0 := if_pos hlen
   have HCL := Aside0.mk hcl
   clear hcl hlen
   replace H := Option.bind_eq_some_iff.mp H
   obtain ⟨s, q2, H⟩ := H
   simp only [Option.some.injEq, Prod.mk.injEq] at H
   obtain ⟨rfl, rfl⟩ := H
   have A2 := Aside0.mk q2
   clear q2
   go_enter Tryd.func42, Tryd.ntmps42
   go_wp2_with (first
    |(go_at_call 83; refine (impl_isEdition.calls k A0 c0 l0 true _ (Kd.C_below HR0.out (below_alloc (Below.refl _ _) _)) HC0.out A1.out).mono ?_; rintro e w1 ⟨rfl, hb⟩; have HX := pw_cell_below hb (blk_cell (blk_new w _) 0); have HS := Aside0.mk (show w.heap.size < w1.heap.size from Nat.lt_of_lt_of_le (by simp) hb.size); have HB1 := Aside0.mk (below_then (below_alloc (Below.refl _ _) _) (by simp) hb); clear hb)
    |(go_at_call 99; refine (impl_Part_99.calls A0 c0 l0 l0 _ (Kd.C_below HR0.out HB1.out) HC0.out HCL.out).mono ?_; rintro e w2 ⟨v2, rfl, ho, hb⟩; have HO2 := Aside0.mk ho; have HB2 := Aside0.mk hb; have HX1 := HX; clear ho hb)
    |(go_at_call 98; refine (impl_StepsFrom.del w.heap.size a1 w1 HS.out HX w2 v2 l0 HO2.out HB2.out).mono ?_; rintro e w3 ⟨v3, rfl, ho, hb⟩; obtain ⟨A7, c7, e7⟩ := Kd.R_slice ho; subst e7; have HO3 := Aside0.mk ho; have HB3 := Aside0.mk hb; clear ho hb)
    |(go_at_call 84; refine (impl_editionLength.calls k _ _ (l0.filter fun x => !impl_StepsFrom.out a1 x) s _ (Kd.R_reads' HO3.out).2.2 (Kd.R_reads' HO3.out).2.1 A2.out).mono ?_; rintro e w4 ⟨rfl, hb⟩; have HB4 := Aside0.mk hb; clear hb))
   go_ret2
   exact ⟨rfl, below_then HB1.out HB1.out.size (below_step HB3.out HB4.out)⟩
  ·rw [if_neg hlen] at H
   exact absurd H (by simp)


/-! ### spec_StepsFrom: function 43 -/
mutual
def spec_StepsFrom.j0 : Nat → List (S93) → Int → Bool → Option (Int × Bool)
 | 0, _, _, _ => none
 | k + 1, x0, x1, x16 => if x16 = true then (some (0, false)) else (spec_StepsFrom.l0 k x1 0 x0 (x0.length : Int) 0)
def spec_StepsFrom.l0 : Nat → Int → Int → List (S93) → Int → Int → Option (Int × Bool)
 | 0, _, _, _, _, _ => none
 | k + 1, x1, x6, x17, x18, x19 => if x19 < x18 then (if 0 ≤ x19 then (if x19 < (x17.length : Int) then (if ((rd_T93 x17 x19).f0) = x1 then (spec_StepsFrom.l0 k x1 (wrap64 (x6 + (wrap64 (((rd_T93 x17 x19).f2) - ((rd_T93 x17 x19).f1))))) x17 x18 (wrap64 (x19 + 1))) else (spec_StepsFrom.l0 k x1 x6 x17 x18 (wrap64 (x19 + 1)))) else (none)) else (none)) else (some (x6, true))
end
def spec_StepsFrom.f (k : Nat) (l0 : List (S93)) (a1 : Int) : Option (Int × Bool) := (spec_edGood.f k l0).bind fun t520 => (if t520 = true then ((spec_l1In.f a1 0 3).bind fun t521 => (spec_StepsFrom.j0 k l0 a1 (!t521))) else (spec_StepsFrom.j0 k l0 a1 true))
theorem spec_StepsFrom.mono_l : ∀ k, (∀ y0 y1 y2, LeO (spec_StepsFrom.j0 k y0 y1 y2) (spec_StepsFrom.j0 (k + 1) y0 y1 y2)) ∧ (∀ y0 y1 y2 y3 y4, LeO (spec_StepsFrom.l0 k y0 y1 y2 y3 y4) (spec_StepsFrom.l0 (k + 1) y0 y1 y2 y3 y4))
 | 0 => ⟨fun _ _ _ r h => by simp [spec_StepsFrom.j0] at h, fun _ _ _ _ _ r h => by simp [spec_StepsFrom.l0] at h⟩
 | k + 1 => by
  obtain ⟨ih0, ih1⟩ := spec_StepsFrom.mono_l k
  refine ⟨?_, ?_⟩
  ·intro y0 y1 y2
   unfold spec_StepsFrom.j0
   repeat' first
   |(with_reducible exact ih0 _ _ _)
   |(with_reducible exact ih1 _ _ _ _ _)
   |(with_reducible exact spec_edGood.mono _ _)
   |(with_reducible exact LeO.refl _)
   |(with_reducible exact LeO.none _)
   |(with_reducible refine LeO.ite ?_ ?_)
   |(with_reducible refine LeO.bind ?_ (fun _ => ?_))
   |exact ih0 _ _ _
   |exact ih1 _ _ _ _ _
   |exact spec_edGood.mono _ _
   |exact LeO.none _
    | refine LeO.ite ?_ ?_
    | refine LeO.bind ?_ (fun _ => ?_)
  ·intro y0 y1 y2 y3 y4
   unfold spec_StepsFrom.l0
   repeat' first
   |(with_reducible exact ih0 _ _ _)
   |(with_reducible exact ih1 _ _ _ _ _)
   |(with_reducible exact spec_edGood.mono _ _)
   |(with_reducible exact LeO.refl _)
   |(with_reducible exact LeO.none _)
   |(with_reducible refine LeO.ite ?_ ?_)
   |(with_reducible refine LeO.bind ?_ (fun _ => ?_))
   |exact ih0 _ _ _
   |exact ih1 _ _ _ _ _
   |exact spec_edGood.mono _ _
   |exact LeO.none _
    | refine LeO.ite ?_ ?_
    | refine LeO.bind ?_ (fun _ => ?_)
theorem spec_StepsFrom.mono : ∀ a0 a1 k, LeO (spec_StepsFrom.f k a0 a1) (spec_StepsFrom.f (k + 1) a0 a1) := by
 intro a0 a1 k
 obtain ⟨ih0, ih1⟩ := spec_StepsFrom.mono_l k
 unfold spec_StepsFrom.f
 repeat' first
  |(with_reducible exact ih0 _ _ _)
  |(with_reducible exact ih1 _ _ _ _ _)
  |(with_reducible exact spec_edGood.mono _ _)
  |(with_reducible exact LeO.refl _)
  |(with_reducible exact LeO.none _)
  |(with_reducible refine LeO.ite ?_ ?_)
  |(with_reducible refine LeO.bind ?_ (fun _ => ?_))
  |exact ih0 _ _ _
  |exact ih1 _ _ _ _ _
  |exact spec_edGood.mono _ _
  |exact LeO.none _
   | refine LeO.ite ?_ ?_
   | refine LeO.bind ?_ (fun _ => ?_)
set_option maxHeartbeats 8000000 in
set_option maxRecDepth 100000 in
theorem spec_StepsFrom.calls (k : Nat) (A0 : Option Addr) (c0 : Nat) (l0 : List (S93)) (a1 : Int) (r1 : Int) (r2 : Bool) (w : World) (hr0 : Kd.C k93 w A0 l0.length l0) (hc0 : l0.length ≤ c0) (h : spec_StepsFrom.f k l0 a1 = some (r1, r2)) :
 Calls Tryd.prog 43 #[.slice A0 l0.length c0, .int .i64 a1] w fun e w' => e = .returned (.tuple #[.int .i64 r1, .bool r2]) ∧ Below w.heap.size w w' := by
 have hu93 := Tryd.underlying93
 have HR0 := Aside0.mk hr0
 have HC0 := Aside0.mk hc0
 clear hr0 hc0
 have HB := Aside0.mk (Below.refl w.heap.size w)
 have H : ((spec_edGood.f k l0).bind fun t520 => (if t520 = true then ((spec_l1In.f a1 0 3).bind fun t521 => (spec_StepsFrom.j0 k l0 a1 (!t521))) else (spec_StepsFrom.j0 k l0 a1 true))) = some (r1, r2) := h
 clear h
 have HC3 := Aside0.mk H
 clear H
 go_enter Tryd.func43, Tryd.ntmps43
 go_upto_region 1 with (fail)
 go_cut [16] (fun v16 wc => ∃ (kq : Nat) (x16_2 : Bool), v16 = .bool x16_2 ∧ Aside0 (spec_StepsFrom.j0 kq l0 a1 x16_2 = some (r1, r2)) ∧ Aside0 (kq ≤ k) ∧ Aside0 (Below w.heap.size w wc))
 case first =>
  have H := HC3.out
  clear HC3
  replace H := Option.bind_eq_some_iff.mp H
  obtain ⟨t520, A40, H⟩ := H
  try dsimp only at H
  have A4 := Aside0.mk A40
  clear A40
  by_cases c5 : t520 = true
  ·subst c5
   have H1 : ((spec_l1In.f a1 0 3).bind fun t521 => (spec_StepsFrom.j0 k l0 a1 (!t521))) = some (r1, r2) := by rw [if_pos rfl] at H; exact H
   clear H
   have H := H1
   clear H1
   replace H := Option.bind_eq_some_iff.mp H
   obtain ⟨t521, A60, H⟩ := H
   try dsimp only at H
   have A6 := Aside0.mk A60
   clear A60
   have H' := Aside0.mk H
   clear H
   go_wp2_with (first|((with_reducible refine gate_callee (f := 93) rfl ?_); refine goesL_ (some 10) rfl rfl Tryd.func93 (by kernel_rfl) rfl #[.slice A0 l0.length c0] rfl (by (try simp only [List.map_toArray, List.map_cons, List.map_nil]); first | done | rfl|(simp only [List.length_drop, List.length_take]; rfl)) ?_; (with_reducible refine (spec_edGood.calls k _ _ l0 true _ ?side1 ?side2 A4.out).mono ?_);(case side1 => exact (a11_ HR0.out));(case side2 => exact HC0.out); rintro e w7 ⟨rfl, hb⟩; refine ⟨_, rfl, ?_⟩; have n0_ := Aside0.mk (below_step (a0_) hb); clear HB; have HB := n0_; clear n0_; (try clear hb); (try clear hb2); (try clear hk); (try clear hi))|(go_at_call 87; (with_reducible refine (spec_l1In.calls a1 0 3 t521 _ A6.out).mono ?_); rintro e w' ⟨rfl, ⟨nd, rfl⟩⟩))
   go_meet
   case rel => exact ⟨_, (!t521), (by first | rfl|(simp;done)|(simp [*];done)), H', ⟨by first | omega|exact Nat.le_refl _⟩, ⟨a0_⟩⟩
  ·replace c5 := Bool.eq_false_iff.mpr c5
   subst c5
   have H1 : (spec_StepsFrom.j0 k l0 a1 true) = some (r1, r2) := by rw [if_neg (show ¬ (false = true) by decide)] at H; exact H
   clear H
   have H := H1
   clear H1
   have H' := Aside0.mk H
   clear H
   go_wp2_with (first|((with_reducible refine gate_callee (f := 93) rfl ?_); refine goesL_ (some 10) rfl rfl Tryd.func93 (by kernel_rfl) rfl #[.slice A0 l0.length c0] rfl (by (try simp only [List.map_toArray, List.map_cons, List.map_nil]); first | done | rfl|(simp only [List.length_drop, List.length_take]; rfl)) ?_; (with_reducible refine (spec_edGood.calls k _ _ l0 false _ ?side1 ?side2 A4.out).mono ?_);(case side1 => exact (a11_ HR0.out));(case side2 => exact HC0.out); rintro e w8 ⟨rfl, hb⟩; refine ⟨_, rfl, ?_⟩; have n0_ := Aside0.mk (below_step (a0_) hb); clear HB; have HB := n0_; clear n0_; (try clear hb); (try clear hb2); (try clear hk); (try clear hi)))
   go_meet
   case rel => exact ⟨_, (true), (by first | rfl|(simp;done)|(simp [*];done)), H', ⟨by first | omega|exact Nat.le_refl _⟩, ⟨a0_⟩⟩
 case rest =>
  clear HC3
  try clear p2
  try clear c4
  try clear c5
  obtain ⟨kq, x16_2, rfl, HA, HJ2, HB⟩ := hcut
  cases kq with
  | zero => exact absurd HA.out (by simp [spec_StepsFrom.j0])
  | succ kj2 =>
   have H := HA.out
   clear HA
   simp only [spec_StepsFrom.j0] at H
   by_cases c9 : x16_2 = true
   ·subst c9
    have H1 : (some (0, false)) = some (r1, r2) := by rw [if_pos rfl] at H; exact H
    clear H
    have H := H1
    clear H1
    simp only [Option.some.injEq, Prod.mk.injEq] at H
    obtain ⟨rfl, rfl⟩ := H
    go_wp2
    go_ret2
    exact ⟨a5_, a0_⟩
   ·replace c9 := Bool.eq_false_iff.mpr c9
    subst c9
    have H1 : (spec_StepsFrom.l0 kj2 a1 0 l0 (l0.length : Int) 0) = some (r1, r2) := by rw [if_neg (show ¬ (false = true) by decide)] at H; exact H
    clear H
    have H := H1
    clear H1
    have H' := Aside0.mk H
    clear H
    go_wp2
    (try simp only [Act.put, List.setIfInBounds_toArray, List.set_cons_zero, List.set_cons_succ])
    go_loopg [6, 19] kj2 (fun kq v6 v19 w' => ∃ (x6_2 : Int) (x19_2 : Int), v6 = .int .i64 x6_2 ∧ v19 = .int .i64 x19_2 ∧ Aside0 (spec_StepsFrom.l0 kq a1 x6_2 l0 (l0.length : Int) x19_2 = some (r1, r2)) ∧ Aside0 (kq ≤ kj2) ∧ Aside0 (Below w.heap.size w w'))
    case atStart => exact ⟨(0), (0), (by first | rfl|(simp;done)|(simp [*];done)), (by first | rfl|(simp;done)|(simp [*];done)), H', ⟨Nat.le_refl _⟩, ⟨a0_⟩⟩
    case round =>
     clear H'
     try clear p2
     try clear c4
     try clear c5
     try clear c9
     try clear p2
     obtain ⟨x6_2, x19_2, rfl, rfl, HA, HK2, HB⟩ := hrel
     cases gk with
     | zero => exact absurd HA.out (by simp [spec_StepsFrom.l0])
     | succ k2 =>
      have H := HA.out
      clear HA
      simp only [spec_StepsFrom.l0] at H
      by_cases c10 : x19_2 < (l0.length : Int)
      ·rw [if_pos c10] at H
       have c10b0 : decide (x19_2 < (l0.length : Int)) = true := decide_eq_true c10
       clear c10
       by_cases c11 : 0 ≤ x19_2
       ·rw [if_pos c11] at H
        have c11b0 : decide (0 ≤ x19_2) = true := decide_eq_true c11
        clear c11
        by_cases c12 : x19_2 < (l0.length : Int)
        ·rw [if_pos c12] at H
         have c12b0 : decide (x19_2 < (l0.length : Int)) = true := decide_eq_true c12
         clear c12
         by_cases c13 : ((rd_T93 l0 x19_2).f0) = a1
         ·rw [if_pos c13] at H
          have c13b0 : (((rd_T93 l0 x19_2).f0) == a1) = true := beq_iff_eq.mpr c13
          have c13b1 : (((rd_T93 l0 x19_2).f0) != a1) = false := bne_eq_false_iff_eq.mpr c13
          clear c13
          have H' := Aside0.mk H
          clear H
          have p522 : 0 ≤ (x19_2 : Int) := of_decide_eq_true (a7_)
          have q522 : x19_2 < (l0.length : Int) := of_decide_eq_true (a7_)
          obtain ⟨ad522, e522, hx522_0, hx522_1, hx522_2⟩ := at_T93 HR0.out x19_2 p522 q522
          cases e522
          replace hx522_0 := (HB.out.cell (World.block_lt_of_cell? w _ hx522_0)).trans hx522_0
          replace hx522_1 := (HB.out.cell (World.block_lt_of_cell? w _ hx522_1)).trans hx522_1
          replace hx522_2 := (HB.out.cell (World.block_lt_of_cell? w _ hx522_2)).trans hx522_2
          replace p522 := eq_true p522
          replace q522 := eq_true q522
          go_wp2_with (first|((with_reducible refine gate_dst (N := 8) rfl ?_); refine box_event ?hg (N := 8) ?hd (cs := #[.int .i64 0, .int .i64 0, .int .i64 0]) (t := 93) ?hr ?_;(case hd => rfl);(case hg => rfl);(case hr => first|(go_simp;done)|(go_simp; rfl)); intro gb523 hg w14 hbox hb; have n0_ := Aside0.mk (below_step (a0_) hb); have n1_ := Aside0.mk (hbox); have n2_ := Aside0.mk ((by rw [hg]; exact (below_size (a0_)) : w.heap.size ≤ gb523)); have n3_ := Aside0.mk ((by rw [hg]; exact (below_size (a0_)) : w.heap.size ≤ gb523)); clear HB; have HB := n0_; have BK523 := n1_; have GW523 := n2_; have GE523 := n3_; clear n0_ n1_ n2_ n3_; clear hb hbox hg; have hcz15_0 : w14.cell? ⟨gb523, 0, none⟩ = some (.int .i64 0) := (blk_cell BK523.out 0).trans rfl; have hcz15_1 : w14.cell? ⟨gb523, 1, none⟩ = some (.int .i64 0) := (blk_cell BK523.out 1).trans rfl; have hcz15_2 : w14.cell? ⟨gb523, 2, none⟩ = some (.int .i64 0) := (blk_cell BK523.out 2).trans rfl; have hfz15_0 := blk_frozen BK523.out 0; have hfz15_1 := blk_frozen BK523.out 1; have hfz15_2 := blk_frozen BK523.out 2))
          go_roundg k2
          case measure => have := HJ2.out; have := HK2.out; omega
          case rel => exact ⟨(wrap64 (x6_2 + (wrap64 (((rd_T93 l0 x19_2).f2) - ((rd_T93 l0 x19_2).f1))))), (wrap64 (x19_2 + 1)), (by first | rfl|(simp;done)|(simp [*];done)), (by first | rfl|(simp;done)|(simp [*];done)), H', ⟨by have := HJ2.out; have := HK2.out; omega⟩, ⟨(a8_ GE523.out)⟩⟩
         ·rw [if_neg c13] at H
          have c13b0 : (((rd_T93 l0 x19_2).f0) == a1) = false := beq_eq_false_iff_ne.mpr c13
          have c13b1 : (((rd_T93 l0 x19_2).f0) != a1) = true := bne_iff_ne.mpr c13
          have H' := Aside0.mk H
          clear H
          have p522 : 0 ≤ (x19_2 : Int) := of_decide_eq_true (a7_)
          have q522 : x19_2 < (l0.length : Int) := of_decide_eq_true (a7_)
          obtain ⟨ad522, e522, hx522_0, hx522_1, hx522_2⟩ := at_T93 HR0.out x19_2 p522 q522
          cases e522
          replace hx522_0 := (HB.out.cell (World.block_lt_of_cell? w _ hx522_0)).trans hx522_0
          replace hx522_1 := (HB.out.cell (World.block_lt_of_cell? w _ hx522_1)).trans hx522_1
          replace hx522_2 := (HB.out.cell (World.block_lt_of_cell? w _ hx522_2)).trans hx522_2
          replace p522 := eq_true p522
          replace q522 := eq_true q522
          go_wp2_with (first|((with_reducible refine gate_dst (N := 8) rfl ?_); refine box_event ?hg (N := 8) ?hd (cs := #[.int .i64 0, .int .i64 0, .int .i64 0]) (t := 93) ?hr ?_;(case hd => rfl);(case hg => rfl);(case hr => first|(go_simp;done)|(go_simp; rfl)); intro gb523 hg w16 hbox hb; have n0_ := Aside0.mk (below_step (a0_) hb); have n1_ := Aside0.mk (hbox); have n2_ := Aside0.mk ((by rw [hg]; exact (below_size (a0_)) : w.heap.size ≤ gb523)); have n3_ := Aside0.mk ((by rw [hg]; exact (below_size (a0_)) : w.heap.size ≤ gb523)); clear HB; have HB := n0_; have BK523 := n1_; have GW523 := n2_; have GE523 := n3_; clear n0_ n1_ n2_ n3_; clear hb hbox hg; have hcz17_0 : w16.cell? ⟨gb523, 0, none⟩ = some (.int .i64 0) := (blk_cell BK523.out 0).trans rfl; have hcz17_1 : w16.cell? ⟨gb523, 1, none⟩ = some (.int .i64 0) := (blk_cell BK523.out 1).trans rfl; have hcz17_2 : w16.cell? ⟨gb523, 2, none⟩ = some (.int .i64 0) := (blk_cell BK523.out 2).trans rfl; have hfz17_0 := blk_frozen BK523.out 0; have hfz17_1 := blk_frozen BK523.out 1; have hfz17_2 := blk_frozen BK523.out 2))
          go_roundg k2
          case measure => have := HJ2.out; have := HK2.out; omega
          case rel => exact ⟨(x6_2), (wrap64 (x19_2 + 1)), (by first | rfl|(simp;done)|(simp [*];done)), (by first | rfl|(simp;done)|(simp [*];done)), H', ⟨by have := HJ2.out; have := HK2.out; omega⟩, ⟨(a8_ GE523.out)⟩⟩
        ·rw [if_neg c12] at H
         exact absurd H (by simp)
       ·rw [if_neg c11] at H
        exact absurd H (by simp)
      ·rw [if_neg c10] at H
       have c10b0 : decide (x19_2 < (l0.length : Int)) = false := decide_eq_false c10
       clear c10
       simp only [Option.some.injEq, Prod.mk.injEq] at H
       obtain ⟨rfl, rfl⟩ := H
       go_wp2
       go_ret2
       exact ⟨a5_, a0_⟩

/-! ### laws_pIn: function 44 -/
def laws_pIn.l0 : Nat → Int → List Int → Int → Int → Option (Bool)
 | 0, _, _, _, _ => none
 | k + 1, x1, x7, x8, x9 => if x9 < x8 then (if 0 ≤ x9 then (if x9 < (x7.length : Int) then (if (rd x7 x9) = x1 then (some true) else (laws_pIn.l0 k x1 x7 x8 (wrap64 (x9 + 1)))) else (none)) else (none)) else (some false)
def laws_pIn.f (k : Nat) (l0 : List Int) (a1 : Int) : Option (Bool) := laws_pIn.l0 k a1 l0 (l0.length : Int) 0
theorem laws_pIn.mono_l : ∀ k, (∀ y0 y1 y2 y3, LeO (laws_pIn.l0 k y0 y1 y2 y3) (laws_pIn.l0 (k + 1) y0 y1 y2 y3))
 | 0 => fun _ _ _ _ r h => by simp [laws_pIn.l0] at h
 | k + 1 => by
  have ih0 := laws_pIn.mono_l k
  ·intro y0 y1 y2 y3
   unfold laws_pIn.l0
   repeat' first
   |(with_reducible exact ih0 _ _ _ _)
   |(with_reducible exact LeO.refl _)
   |(with_reducible exact LeO.none _)
   |(with_reducible refine LeO.ite ?_ ?_)
   |(with_reducible refine LeO.bind ?_ (fun _ => ?_))
   |exact ih0 _ _ _ _
   |exact LeO.none _
    | refine LeO.ite ?_ ?_
    | refine LeO.bind ?_ (fun _ => ?_)
theorem laws_pIn.mono : ∀ a0 a1 k, LeO (laws_pIn.f k a0 a1) (laws_pIn.f (k + 1) a0 a1) := by
 intro a0 a1 k
 have ih0 := laws_pIn.mono_l k
 unfold laws_pIn.f
 repeat' first
  |(with_reducible exact ih0 _ _ _ _)
  |(with_reducible exact LeO.refl _)
  |(with_reducible exact LeO.none _)
  |(with_reducible refine LeO.ite ?_ ?_)
  |(with_reducible refine LeO.bind ?_ (fun _ => ?_))
  |exact ih0 _ _ _ _
  |exact LeO.none _
   | refine LeO.ite ?_ ?_
   | refine LeO.bind ?_ (fun _ => ?_)
set_option maxHeartbeats 8000000 in
set_option maxRecDepth 100000 in
theorem laws_pIn.calls (k : Nat) (A0 : Option Addr) (c0 : Nat) (l0 : List Int) (a1 : Int) (r : Bool) (w : World) (hr0 : Kd.C (Kd.int .i64) w A0 l0.length l0) (hc0 : l0.length ≤ c0) (h : laws_pIn.f k l0 a1 = some r) :
 Calls Tryd.prog 44 #[.slice A0 l0.length c0, .int .i64 a1] w fun e w' => e = .returned (.bool r) ∧ Drawn0 w w' := by
 have HR0 := Aside0.mk hr0
 have HC0 := Aside0.mk hc0
 clear hr0 hc0
 have H : (laws_pIn.l0 k a1 l0 (l0.length : Int) 0) = some r := h
 clear h
 have H' := Aside0.mk H
 clear H
 go_enter Tryd.func44, Tryd.ntmps44
 go_wp2
 (try simp only [Act.put, List.setIfInBounds_toArray, List.set_cons_zero, List.set_cons_succ])
 go_loopg [9] k (fun kq v9 w' => ∃ (x9_1 : Int), v9 = .int .i64 x9_1 ∧ Aside0 (laws_pIn.l0 kq a1 l0 (l0.length : Int) x9_1 = some r) ∧ Aside0 (kq ≤ k) ∧ Drawn0 w w')
 case atStart => exact ⟨(0), (by first | rfl|(simp;done)|(simp [*];done)), H', ⟨Nat.le_refl _⟩, a18_⟩
 case round =>
  clear H'
  try clear p2
  obtain ⟨x9_1, rfl, HA, HK1, ⟨m1, rfl⟩⟩ := hrel
  cases gk with
  | zero => exact absurd HA.out (by simp [laws_pIn.l0])
  | succ k1 =>
   have H := HA.out
   clear HA
   simp only [laws_pIn.l0] at H
   by_cases c3 : x9_1 < (l0.length : Int)
   ·rw [if_pos c3] at H
    have c3b0 : decide (x9_1 < (l0.length : Int)) = true := decide_eq_true c3
    clear c3
    by_cases c4 : 0 ≤ x9_1
    ·rw [if_pos c4] at H
     have c4b0 : decide (0 ≤ x9_1) = true := decide_eq_true c4
     clear c4
     by_cases c5 : x9_1 < (l0.length : Int)
     ·rw [if_pos c5] at H
      have c5b0 : decide (x9_1 < (l0.length : Int)) = true := decide_eq_true c5
      clear c5
      by_cases c6 : (rd l0 x9_1) = a1
      ·rw [if_pos c6] at H
       have c6b0 : ((rd l0 x9_1) == a1) = true := beq_iff_eq.mpr c6
       have c6b1 : ((rd l0 x9_1) != a1) = false := bne_eq_false_iff_eq.mpr c6
       clear c6
       obtain rfl := Option.some.inj H
       have p524 : 0 ≤ (x9_1 : Int) := of_decide_eq_true (a7_)
       have q524 : x9_1 < (l0.length : Int) := of_decide_eq_true (a7_)
       obtain ⟨ad524, e524, hx524_0⟩ := Kd.at_int HR0.out x9_1 p524 q524
       cases e524
       replace p524 := eq_true p524
       replace q524 := eq_true q524
       go_wp2
       go_ret
       exact ⟨by first | rfl|(simp;done)|(simp [*];done), a18_⟩
      ·rw [if_neg c6] at H
       have c6b0 : ((rd l0 x9_1) == a1) = false := beq_eq_false_iff_ne.mpr c6
       have c6b1 : ((rd l0 x9_1) != a1) = true := bne_iff_ne.mpr c6
       have H' := Aside0.mk H
       clear H
       have p524 : 0 ≤ (x9_1 : Int) := of_decide_eq_true (a7_)
       have q524 : x9_1 < (l0.length : Int) := of_decide_eq_true (a7_)
       obtain ⟨ad524, e524, hx524_0⟩ := Kd.at_int HR0.out x9_1 p524 q524
       cases e524
       replace p524 := eq_true p524
       replace q524 := eq_true q524
       go_wp2
       go_roundg k1
       case measure => have := HK1.out; omega
       case rel => exact ⟨(wrap64 (x9_1 + 1)), (by first | rfl|(simp;done)|(simp [*];done)), H', ⟨by have := HK1.out; omega⟩, a18_⟩
     ·rw [if_neg c5] at H
      exact absurd H (by simp)
    ·rw [if_neg c4] at H
     exact absurd H (by simp)
   ·rw [if_neg c3] at H
    have c3b0 : decide (x9_1 < (l0.length : Int)) = false := decide_eq_false c3
    clear c3
    obtain rfl := Option.some.inj H
    go_wp2
    go_ret
    exact ⟨by first | rfl|(simp;done)|(simp [*];done), a18_⟩

/-! ### spec_DrawSourceAt: function 45 -/
def spec_DrawSourceAt.f (k : Nat) (l0 : List Int) : Option ((List (S93)) × Int) := (spec_l1Cur_parts.f k l0 0 0 3).bind fun bt526 => ((spec_l1Cur_editionStep.f k l0 bt526.2.1 bt526.2.2 bt526.1).bind fun bt531 => (some (bt526.1, bt531.1)))
theorem spec_DrawSourceAt.mono : ∀ a0 k, LeO (spec_DrawSourceAt.f k a0) (spec_DrawSourceAt.f (k + 1) a0) := by
 intro a0 k
 unfold spec_DrawSourceAt.f
 repeat' first
  |(with_reducible exact spec_l1Cur_editionStep.mono _ _ _ _ _)
  |(with_reducible exact spec_l1Cur_parts.mono _ _ _ _ _)
  |(with_reducible exact LeO.refl _)
  |(with_reducible exact LeO.none _)
  |(with_reducible refine LeO.ite ?_ ?_)
  |(with_reducible refine LeO.bind ?_ (fun _ => ?_))
  |exact spec_l1Cur_editionStep.mono _ _ _ _ _
  |exact spec_l1Cur_parts.mono _ _ _ _ _
  |exact LeO.none _
   | refine LeO.ite ?_ ?_
   | refine LeO.bind ?_ (fun _ => ?_)
set_option maxHeartbeats 8000000 in
set_option maxRecDepth 100000 in
theorem spec_DrawSourceAt.calls (k : Nat) (A0 : Option Addr) (c0 : Nat) (l0 : List Int) (r1 : List (S93)) (r2 : Int) (w : World) (hr0 : Kd.C (Kd.int .u8) w A0 l0.length l0) (hc0 : l0.length ≤ c0) (h : spec_DrawSourceAt.f k l0 = some (r1, r2)) :
 Calls Tryd.prog 45 #[.slice A0 l0.length c0] w fun e w' => ∃ v0_ : Value, e = .returned (.tuple #[v0_, .int .i64 r2]) ∧ Kd.R k93 93 w' w.heap.size (fun _ => True) v0_ r1 ∧ Below w.heap.size w w' := by
 have hu66 := Tryd.underlying66
 have HR0 := Aside0.mk hr0
 have HC0 := Aside0.mk hc0
 clear hr0 hc0
 have HB := Aside0.mk (Below.refl w.heap.size w)
 have H : ((spec_l1Cur_parts.f k l0 0 0 3).bind fun bt526 => ((spec_l1Cur_editionStep.f k l0 bt526.2.1 bt526.2.2 bt526.1).bind fun bt531 => (some (bt526.1, bt531.1)))) = some (r1, r2) := h
 clear h
 replace H := Option.bind_eq_some_iff.mp H
 obtain ⟨⟨t526, t529, t530⟩, A20, H⟩ := H
 try dsimp only at H
 have A2 := Aside0.mk A20
 clear A20
 replace H := Option.bind_eq_some_iff.mp H
 obtain ⟨⟨t531, t532, t533⟩, A30, H⟩ := H
 try dsimp only at H
 have A3 := Aside0.mk A30
 clear A30
 simp only [Option.some.injEq, Prod.mk.injEq] at H
 obtain ⟨rfl, rfl⟩ := H
 go_enter Tryd.func45, Tryd.ntmps45
 go_wp2_with (first|((with_reducible refine gate_dst (N := 8) rfl ?_); refine box_event ?hg (N := 8) ?hd (cs := #[.slice A0 l0.length c0, .int .i64 0, .int .u64 0]) (t := 66) ?hr ?_;(case hd => rfl);(case hg => rfl);(case hr => first|(go_simp;done)|(go_simp; rfl)); intro g525 hg w4 hbox hb; have n0_ := Aside0.mk (below_step (a0_) hb); have n1_ := Aside0.mk ((⟨_, _, hbox, by rw [hg]; exact (below_size (a0_)), HR0.out⟩ : IsS66 w w4 g525 l0 0 0)); clear HB; have HB := n0_; have HI525 := n1_; clear n0_ n1_; clear hb hbox hg)|((with_reducible refine gate_callee (f := 79) rfl ?_); refine goesL_ (some 10) rfl rfl Tryd.func79 (by kernel_rfl) rfl #[.pointer (some ⟨g525, 0, none⟩), .int .i64 3] rfl (by (try simp only [List.map_toArray, List.map_cons, List.map_nil]); first | done | rfl|(simp only [List.length_drop, List.length_take]; rfl)) ?_; (with_reducible refine (spec_l1Cur_parts.calls k g525 l0 0 0 3 t526 t529 t530 w _ ?side1 ?side2 A2.out).mono ?_);(case side1 => exact (a1_ HI525.out));(case side2 => exact (a3_ HI525.out)); rintro e w5 ⟨v527, rfl, ho0, hi, hb, hk⟩; refine ⟨_, rfl, ?_⟩; have n0_ := Aside0.mk (Kd.R_lower ho0 (below_size ((a3_ HI525.out)))); have n1_ := Aside0.mk (hb); have n2_ := Aside0.mk (hi); clear HB; clear HI525; have HO528 := n0_; have HB := n1_; have HI525 := n2_; clear n0_ n1_ n2_; (try clear hb); (try clear hb2); (try clear hk); (try clear hi); (try clear ho0); obtain ⟨Ao6, co6, eo6⟩ := Kd.R_slice HO528.out; subst eo6)|((with_reducible refine gate_callee (f := 80) rfl ?_); refine goesL_ (some 14) rfl rfl Tryd.func80 (by kernel_rfl) rfl #[.pointer (some ⟨g525, 0, none⟩), .slice Ao6 t526.length co6] rfl (by (try simp only [List.map_toArray, List.map_cons, List.map_nil]); first | done | rfl|(simp only [List.length_drop, List.length_take]; rfl)) ?_; (with_reducible refine (spec_l1Cur_editionStep.calls k g525 l0 t529 t530 _ _ t526 t531 t532 t533 w _ ?side1 ?side2 ?side3 ?side4 A3.out).mono ?_);(case side1 => exact (a1_ HI525.out));(case side2 => exact (a3_ HI525.out));(case side3 => exact Kd.C_foot_own (IsS66.apart (show IsS66 w _ g525 l0 t529 t530 from (a1_ HI525.out)) ((a2_ HO528.out)) (by decide)) (fun _ h_ => h_.2));(case side4 => exact (Kd.R_reads' HO528.out).2.1); rintro e w7 ⟨rfl, hi, hb, hk⟩; refine ⟨_, rfl, ?_⟩; have n0_ := Aside0.mk (Kd.R_mono (Kd.R_keep (IsS66.apart (show IsS66 w _ g525 l0 t529 t530 from (a1_ HI525.out)) ((a2_ HO528.out)) (by decide)) hk (fun _ h => h.2)) (fun _ h => h.1)); have n1_ := Aside0.mk (hb); have n2_ := Aside0.mk (hi); clear HO528; clear HB; clear HI525; have HO528 := n0_; have HB := n1_; have HI525 := n2_; clear n0_ n1_ n2_; (try clear hb); (try clear hb2); (try clear hk); (try clear hi)))
 go_ret2
 exact ⟨_, a5_, (a2_ HO528.out), (a3_ HI525.out)⟩

/-! ### spec_DrawStepsFrom: function 46 -/
def spec_DrawStepsFrom.f (k : Nat) (l0 : List Int) : Option ((List (S93)) × Int) := (spec_l1Cur_parts.f k l0 0 0 3).bind fun bt535 => ((spec_l1Cur_among.f l0 bt535.2.1 bt535.2.2 (([4, (-1)] : List Int))).bind fun bt543 => ((spec_l1Cur_among.f l0 bt543.2.1 bt543.2.2 (([0, 1, 2, 3, bt543.1] : List Int))).bind fun bt549 => (some (bt535.1, bt549.1))))
theorem spec_DrawStepsFrom.mono : ∀ a0 k, LeO (spec_DrawStepsFrom.f k a0) (spec_DrawStepsFrom.f (k + 1) a0) := by
 intro a0 k
 unfold spec_DrawStepsFrom.f
 repeat' first
  |(with_reducible exact spec_l1Cur_parts.mono _ _ _ _ _)
  |(with_reducible exact LeO.refl _)
  |(with_reducible exact LeO.none _)
  |(with_reducible refine LeO.ite ?_ ?_)
  |(with_reducible refine LeO.bind ?_ (fun _ => ?_))
  |exact spec_l1Cur_parts.mono _ _ _ _ _
  |exact LeO.none _
   | refine LeO.ite ?_ ?_
   | refine LeO.bind ?_ (fun _ => ?_)
set_option maxHeartbeats 8000000 in
set_option maxRecDepth 100000 in
theorem spec_DrawStepsFrom.calls (k : Nat) (A0 : Option Addr) (c0 : Nat) (l0 : List Int) (r1 : List (S93)) (r2 : Int) (w : World) (hr0 : Kd.C (Kd.int .u8) w A0 l0.length l0) (hc0 : l0.length ≤ c0) (h : spec_DrawStepsFrom.f k l0 = some (r1, r2)) :
 Calls Tryd.prog 46 #[.slice A0 l0.length c0] w fun e w' => ∃ v0_ : Value, e = .returned (.tuple #[v0_, .int .i64 r2]) ∧ Kd.R k93 93 w' w.heap.size (fun _ => True) v0_ r1 ∧ Below w.heap.size w w' := by
 have hu66 := Tryd.underlying66
 have HR0 := Aside0.mk hr0
 have HC0 := Aside0.mk hc0
 clear hr0 hc0
 have HB := Aside0.mk (Below.refl w.heap.size w)
 have H : ((spec_l1Cur_parts.f k l0 0 0 3).bind fun bt535 => ((spec_l1Cur_among.f l0 bt535.2.1 bt535.2.2 (([4, (-1)] : List Int))).bind fun bt543 => ((spec_l1Cur_among.f l0 bt543.2.1 bt543.2.2 (([0, 1, 2, 3, bt543.1] : List Int))).bind fun bt549 => (some (bt535.1, bt549.1))))) = some (r1, r2) := h
 clear h
 replace H := Option.bind_eq_some_iff.mp H
 obtain ⟨⟨t535, t538, t539⟩, A20, H⟩ := H
 try dsimp only at H
 have A2 := Aside0.mk A20
 clear A20
 obtain ⟨y540, hy540⟩ : ∃ y_ : List Int, y_ = (([4, (-1)] : List Int)) := ⟨_, rfl⟩
 replace H : ((spec_l1Cur_among.f l0 t538 t539 y540).bind fun bt543 => ((spec_l1Cur_among.f l0 bt543.2.1 bt543.2.2 (([0, 1, 2, 3, bt543.1] : List Int))).bind fun bt549 => (some (t535, bt549.1)))) = some (r1, r2) := by first|(rw [hy540]; with_reducible exact H)|(have H2_ := (Option.bind_some _ _).symm.trans H; rw [hy540]; with_reducible exact H2_)|(have H2_ := (Option.bind_some _ _).symm.trans H; with_reducible exact H2_) | with_reducible exact H|(rw [hy540]; exact H)|exact H
 have Ny540 := Aside0.mk hy540
 clear hy540
 replace H := Option.bind_eq_some_iff.mp H
 obtain ⟨⟨t543, t544, t545⟩, A30, H⟩ := H
 try dsimp only at H
 have A3 := Aside0.mk A30
 clear A30
 obtain ⟨y546, hy546⟩ : ∃ y_ : List Int, y_ = (([0, 1, 2, 3, t543] : List Int)) := ⟨_, rfl⟩
 replace H : ((spec_l1Cur_among.f l0 t544 t545 y546).bind fun bt549 => (some (t535, bt549.1))) = some (r1, r2) := by first|(rw [hy546]; with_reducible exact H)|(have H2_ := (Option.bind_some _ _).symm.trans H; rw [hy546]; with_reducible exact H2_)|(have H2_ := (Option.bind_some _ _).symm.trans H; with_reducible exact H2_) | with_reducible exact H|(rw [hy546]; exact H)|exact H
 have Ny546 := Aside0.mk hy546
 clear hy546
 replace H := Option.bind_eq_some_iff.mp H
 obtain ⟨⟨t549, t550, t551⟩, A40, H⟩ := H
 try dsimp only at H
 have A4 := Aside0.mk A40
 clear A40
 simp only [Option.some.injEq, Prod.mk.injEq] at H
 obtain ⟨rfl, rfl⟩ := H
 go_enter Tryd.func46, Tryd.ntmps46
 go_wp2_with (first|((with_reducible refine gate_dst (N := 7) rfl ?_); refine box_event ?hg (N := 7) ?hd (cs := #[.slice A0 l0.length c0, .int .i64 0, .int .u64 0]) (t := 66) ?hr ?_;(case hd => rfl);(case hg => rfl);(case hr => first|(go_simp;done)|(go_simp; rfl)); intro g534 hg w5 hbox hb; have n0_ := Aside0.mk (below_step (a0_) hb); have n1_ := Aside0.mk ((⟨_, _, hbox, by rw [hg]; exact (below_size (a0_)), HR0.out⟩ : IsS66 w w5 g534 l0 0 0)); clear HB; have HB := n0_; have HI534 := n1_; clear n0_ n1_; clear hb hbox hg)|((with_reducible refine gate_callee (f := 79) rfl ?_); refine goesL_ (some 9) rfl rfl Tryd.func79 (by kernel_rfl) rfl #[.pointer (some ⟨g534, 0, none⟩), .int .i64 3] rfl (by (try simp only [List.map_toArray, List.map_cons, List.map_nil]); first | done | rfl|(simp only [List.length_drop, List.length_take]; rfl)) ?_; (with_reducible refine (spec_l1Cur_parts.calls k g534 l0 0 0 3 t535 t538 t539 w _ ?side1 ?side2 A2.out).mono ?_);(case side1 => exact (a1_ HI534.out));(case side2 => exact (a3_ HI534.out)); rintro e w6 ⟨v536, rfl, ho0, hi, hb, hk⟩; refine ⟨_, rfl, ?_⟩; have n0_ := Aside0.mk (Kd.R_lower ho0 (below_size ((a3_ HI534.out)))); have n1_ := Aside0.mk (hb); have n2_ := Aside0.mk (hi); clear HB; clear HI534; have HO537 := n0_; have HB := n1_; have HI534 := n2_; clear n0_ n1_ n2_; (try clear hb); (try clear hb2); (try clear hk); (try clear hi); (try clear ho0))|((with_reducible refine gate_dst (N := 12) rfl ?_); refine Kd.R_lit (Kd.int .i64) _ 3 ?hg (N := 12) ?hd (xs := ([4, (-1)] : List Int)) (inner := [.int .i64 4, .int .i64 (-1)]) (ok := fun _ => True) (okp := fun _ => True) ?hr ?hp (fun _ hk => hk) trivial (Below.refl _ _) (Nat.le_refl _) (by simp) ?_;(case hd => rfl);(case hg => rfl);(case hr => first|(go_simp;done)|(go_simp; rfl));(case hp => exact (Reps.one (show Kd.M (Kd.int .i64) _ _ _ 4 [.int .i64 4] from rfl) (Reps.one (show Kd.M (Kd.int .i64) _ _ _ (-1) [.int .i64 (-1)] from rfl) (Reps.none _ _)))); intro v541 w7 ho8 hb hg_ hnew_; clear hg_ hnew_; (first|rw [← Ny540.out] at ho8|(simp only [Int.reduceToNat] at ho8; rw [← Ny540.out] at ho8)); have n0_ := Aside0.mk (Kd.R_below ((a2_ HO537.out)) hb); have n1_ := Aside0.mk (Kd.R_lower ho8 (below_size ((a3_ HI534.out)))); have n2_ := Aside0.mk (IsS66.below ((a1_ HI534.out)) hb); have n3_ := Aside0.mk (below_step ((a3_ HI534.out)) hb); clear HO537; clear HI534; clear HB; have HO537 := n0_; have HO542 := n1_; have HI534 := n2_; have HB := n3_; clear n0_ n1_ n2_ n3_; clear hb ho8; obtain ⟨Ao9, co9, eo9⟩ := Kd.R_slice HO542.out; subst eo9)|((with_reducible refine gate_callee (f := 74) rfl ?_); refine goesL_ (some 13) rfl rfl Tryd.func74 (by kernel_rfl) rfl #[.pointer (some ⟨g534, 0, none⟩), .slice Ao9 y540.length co9] rfl (by (try simp only [List.map_toArray, List.map_cons, List.map_nil]); first | done | rfl|(simp only [List.length_drop, List.length_take]; rfl)) ?_; (with_reducible refine (spec_l1Cur_among.calls g534 l0 t538 t539 _ _ y540 t543 t544 t545 w _ ?side1 ?side2 ?side3 ?side4 ?side5 A3.out).mono ?_);(case side1 => exact (a1_ HI534.out));(case side2 => exact (a3_ HI534.out));(case side3 => exact (a9_ HO542.out));(case side4 => exact (Kd.R_reads' HO542.out).2.1);(case side5 => exact far_slice (IsS66.own_ne HI534.out HO542.out (by decide))); rintro e w10 ⟨rfl, hi, hb, hk⟩; refine ⟨_, rfl, ?_⟩; have n0_ := Aside0.mk (Kd.R_mono (Kd.R_keep (IsS66.apart (show IsS66 w _ g534 l0 t538 t539 from (a1_ HI534.out)) ((a2_ HO537.out)) (by decide)) hk (fun _ h => h.2)) (fun _ h => h.1)); have n1_ := Aside0.mk (Kd.R_mono (Kd.R_keep (IsS66.apart (show IsS66 w _ g534 l0 t538 t539 from (a1_ HI534.out)) ((a2_ HO542.out)) (by decide)) hk (fun _ h => h.2)) (fun _ h => h.1)); have n2_ := Aside0.mk (hb); have n3_ := Aside0.mk (hi); clear HO537; clear HO542; clear HB; clear HI534; have HO537 := n0_; have HO542 := n1_; have HB := n2_; have HI534 := n3_; clear n0_ n1_ n2_ n3_; (try clear hb); (try clear hb2); (try clear hk); (try clear hi))|((with_reducible refine gate_dst (N := 14) rfl ?_); refine Kd.R_lit (Kd.int .i64) _ 3 ?hg (N := 14) ?hd (xs := ([0, 1, 2, 3, t543] : List Int)) (inner := [.int .i64 0, .int .i64 1, .int .i64 2, .int .i64 3, .int .i64 t543]) (ok := fun _ => True) (okp := fun _ => True) ?hr ?hp (fun _ hk => hk) trivial (Below.refl _ _) (Nat.le_refl _) (by simp) ?_;(case hd => rfl);(case hg => rfl);(case hr => first|(go_simp;done)|(go_simp; rfl));(case hp => exact (Reps.one (show Kd.M (Kd.int .i64) _ _ _ 0 [.int .i64 0] from rfl) (Reps.one (show Kd.M (Kd.int .i64) _ _ _ 1 [.int .i64 1] from rfl) (Reps.one (show Kd.M (Kd.int .i64) _ _ _ 2 [.int .i64 2] from rfl) (Reps.one (show Kd.M (Kd.int .i64) _ _ _ 3 [.int .i64 3] from rfl) (Reps.one (show Kd.M (Kd.int .i64) _ _ _ t543 [.int .i64 t543] from rfl) (Reps.none _ _))))))); intro v547 w11 ho12 hb hg_ hnew_; clear hg_ hnew_; (first|rw [← Ny546.out] at ho12|(simp only [Int.reduceToNat] at ho12; rw [← Ny546.out] at ho12)); have n0_ := Aside0.mk (Kd.R_below ((a2_ HO537.out)) hb); have n1_ := Aside0.mk (Kd.R_elder' ((a2_ HO542.out)) (Kd.R_base ho12) hb); have n2_ := Aside0.mk (Kd.R_lower (Kd.R_new' ho12 (Kd.R_lt ((a2_ HO542.out)))) (below_size ((a3_ HI534.out)))); have n3_ := Aside0.mk (IsS66.below ((a1_ HI534.out)) hb); have n4_ := Aside0.mk (below_step ((a3_ HI534.out)) hb); clear HO537; clear HO542; clear HI534; clear HB; have HO537 := n0_; have HO542 := n1_; have HO548 := n2_; have HI534 := n3_; have HB := n4_; clear n0_ n1_ n2_ n3_ n4_; clear hb ho12; obtain ⟨Ao13, co13, eo13⟩ := Kd.R_slice HO548.out; subst eo13)|((with_reducible refine gate_callee (f := 74) rfl ?_); refine goesL_ (some 15) rfl rfl Tryd.func74 (by kernel_rfl) rfl #[.pointer (some ⟨g534, 0, none⟩), .slice Ao13 y546.length co13] rfl (by (try simp only [List.map_toArray, List.map_cons, List.map_nil]); first | done | rfl|(simp only [List.length_drop, List.length_take]; rfl)) ?_; (with_reducible refine (spec_l1Cur_among.calls g534 l0 t544 t545 _ _ y546 t549 t550 t551 w _ ?side1 ?side2 ?side3 ?side4 ?side5 A4.out).mono ?_);(case side1 => exact (a1_ HI534.out));(case side2 => exact (a3_ HI534.out));(case side3 => exact (a9_ HO548.out));(case side4 => exact (Kd.R_reads' HO548.out).2.1);(case side5 => exact far_slice (IsS66.own_ne HI534.out HO548.out (by decide))); rintro e w14 ⟨rfl, hi, hb, hk⟩; refine ⟨_, rfl, ?_⟩; have n0_ := Aside0.mk (Kd.R_mono (Kd.R_keep (IsS66.apart (show IsS66 w _ g534 l0 t544 t545 from (a1_ HI534.out)) ((a2_ HO537.out)) (by decide)) hk (fun _ h => h.2)) (fun _ h => h.1)); have n1_ := Aside0.mk (Kd.R_mono (Kd.R_keep (IsS66.apart (show IsS66 w _ g534 l0 t544 t545 from (a1_ HI534.out)) ((a2_ HO542.out)) (by decide)) hk (fun _ h => h.2)) (fun _ h => h.1)); have n2_ := Aside0.mk (Kd.R_mono (Kd.R_keep (IsS66.apart (show IsS66 w _ g534 l0 t544 t545 from (a1_ HI534.out)) ((a2_ HO548.out)) (by decide)) hk (fun _ h => h.2)) (fun _ h => h.1)); have n3_ := Aside0.mk (hb); have n4_ := Aside0.mk (hi); clear HO537; clear HO542; clear HO548; clear HB; clear HI534; have HO537 := n0_; have HO542 := n1_; have HO548 := n2_; have HB := n3_; have HI534 := n4_; clear n0_ n1_ n2_ n3_ n4_; (try clear hb); (try clear hb2); (try clear hk); (try clear hi)))
 go_ret2
 exact ⟨_, a5_, (a2_ HO537.out), (a3_ HI534.out)⟩

/-! ### spec_DrawAreParts: function 47 -/
def spec_DrawAreParts.f (k : Nat) (l0 : List Int) : Option ((List (S93)) × Int) := (spec_l1Cur_among.f l0 0 0 (([0, 5] : List Int))).bind fun bt556 => ((spec_l1Cur_among.f l0 bt556.2.1 bt556.2.2 (([1, 2, 3, 4, bt556.1] : List Int))).bind fun bt562 => ((spec_l1Cur_parts.f k l0 bt562.2.1 bt562.2.2 bt562.1).bind fun bt565 => (some (bt565.1, bt562.1))))
theorem spec_DrawAreParts.mono : ∀ a0 k, LeO (spec_DrawAreParts.f k a0) (spec_DrawAreParts.f (k + 1) a0) := by
 intro a0 k
 unfold spec_DrawAreParts.f
 repeat' first
  |(with_reducible exact spec_l1Cur_parts.mono _ _ _ _ _)
  |(with_reducible exact LeO.refl _)
  |(with_reducible exact LeO.none _)
  |(with_reducible refine LeO.ite ?_ ?_)
  |(with_reducible refine LeO.bind ?_ (fun _ => ?_))
  |exact spec_l1Cur_parts.mono _ _ _ _ _
  |exact LeO.none _
   | refine LeO.ite ?_ ?_
   | refine LeO.bind ?_ (fun _ => ?_)
set_option maxHeartbeats 8000000 in
set_option maxRecDepth 100000 in
theorem spec_DrawAreParts.calls (k : Nat) (A0 : Option Addr) (c0 : Nat) (l0 : List Int) (r1 : List (S93)) (r2 : Int) (w : World) (hr0 : Kd.C (Kd.int .u8) w A0 l0.length l0) (hc0 : l0.length ≤ c0) (h : spec_DrawAreParts.f k l0 = some (r1, r2)) :
 Calls Tryd.prog 47 #[.slice A0 l0.length c0] w fun e w' => ∃ v0_ : Value, e = .returned (.tuple #[v0_, .int .i64 r2]) ∧ Kd.R k93 93 w' w.heap.size (fun _ => True) v0_ r1 ∧ Below w.heap.size w w' := by
 have hu66 := Tryd.underlying66
 have HR0 := Aside0.mk hr0
 have HC0 := Aside0.mk hc0
 clear hr0 hc0
 have HB := Aside0.mk (Below.refl w.heap.size w)
 have H : ((spec_l1Cur_among.f l0 0 0 (([0, 5] : List Int))).bind fun bt556 => ((spec_l1Cur_among.f l0 bt556.2.1 bt556.2.2 (([1, 2, 3, 4, bt556.1] : List Int))).bind fun bt562 => ((spec_l1Cur_parts.f k l0 bt562.2.1 bt562.2.2 bt562.1).bind fun bt565 => (some (bt565.1, bt562.1))))) = some (r1, r2) := h
 clear h
 obtain ⟨y553, hy553⟩ : ∃ y_ : List Int, y_ = (([0, 5] : List Int)) := ⟨_, rfl⟩
 replace H : ((spec_l1Cur_among.f l0 0 0 y553).bind fun bt556 => ((spec_l1Cur_among.f l0 bt556.2.1 bt556.2.2 (([1, 2, 3, 4, bt556.1] : List Int))).bind fun bt562 => ((spec_l1Cur_parts.f k l0 bt562.2.1 bt562.2.2 bt562.1).bind fun bt565 => (some (bt565.1, bt562.1))))) = some (r1, r2) := by first|(rw [hy553]; with_reducible exact H)|(have H2_ := (Option.bind_some _ _).symm.trans H; rw [hy553]; with_reducible exact H2_)|(have H2_ := (Option.bind_some _ _).symm.trans H; with_reducible exact H2_) | with_reducible exact H|(rw [hy553]; exact H)|exact H
 have Ny553 := Aside0.mk hy553
 clear hy553
 replace H := Option.bind_eq_some_iff.mp H
 obtain ⟨⟨t556, t557, t558⟩, A20, H⟩ := H
 try dsimp only at H
 have A2 := Aside0.mk A20
 clear A20
 obtain ⟨y559, hy559⟩ : ∃ y_ : List Int, y_ = (([1, 2, 3, 4, t556] : List Int)) := ⟨_, rfl⟩
 replace H : ((spec_l1Cur_among.f l0 t557 t558 y559).bind fun bt562 => ((spec_l1Cur_parts.f k l0 bt562.2.1 bt562.2.2 bt562.1).bind fun bt565 => (some (bt565.1, bt562.1)))) = some (r1, r2) := by first|(rw [hy559]; with_reducible exact H)|(have H2_ := (Option.bind_some _ _).symm.trans H; rw [hy559]; with_reducible exact H2_)|(have H2_ := (Option.bind_some _ _).symm.trans H; with_reducible exact H2_) | with_reducible exact H|(rw [hy559]; exact H)|exact H
 have Ny559 := Aside0.mk hy559
 clear hy559
 replace H := Option.bind_eq_some_iff.mp H
 obtain ⟨⟨t562, t563, t564⟩, A30, H⟩ := H
 try dsimp only at H
 have A3 := Aside0.mk A30
 clear A30
 replace H := Option.bind_eq_some_iff.mp H
 obtain ⟨⟨t565, t568, t569⟩, A40, H⟩ := H
 try dsimp only at H
 have A4 := Aside0.mk A40
 clear A40
 simp only [Option.some.injEq, Prod.mk.injEq] at H
 obtain ⟨rfl, rfl⟩ := H
 go_enter Tryd.func47, Tryd.ntmps47
 go_wp2_with (first|((with_reducible refine gate_dst (N := 8) rfl ?_); refine box_event ?hg (N := 8) ?hd (cs := #[.slice A0 l0.length c0, .int .i64 0, .int .u64 0]) (t := 66) ?hr ?_;(case hd => rfl);(case hg => rfl);(case hr => first|(go_simp;done)|(go_simp; rfl)); intro g552 hg w5 hbox hb; have n0_ := Aside0.mk (below_step (a0_) hb); have n1_ := Aside0.mk ((⟨_, _, hbox, by rw [hg]; exact (below_size (a0_)), HR0.out⟩ : IsS66 w w5 g552 l0 0 0)); clear HB; have HB := n0_; have HI552 := n1_; clear n0_ n1_; clear hb hbox hg)|((with_reducible refine gate_dst (N := 11) rfl ?_); refine Kd.R_lit (Kd.int .i64) _ 3 ?hg (N := 11) ?hd (xs := ([0, 5] : List Int)) (inner := [.int .i64 0, .int .i64 5]) (ok := fun _ => True) (okp := fun _ => True) ?hr ?hp (fun _ hk => hk) trivial (Below.refl _ _) (Nat.le_refl _) (by simp) ?_;(case hd => rfl);(case hg => rfl);(case hr => first|(go_simp;done)|(go_simp; rfl));(case hp => exact (Reps.one (show Kd.M (Kd.int .i64) _ _ _ 0 [.int .i64 0] from rfl) (Reps.one (show Kd.M (Kd.int .i64) _ _ _ 5 [.int .i64 5] from rfl) (Reps.none _ _)))); intro v554 w6 ho7 hb hg_ hnew_; clear hg_ hnew_; (first|rw [← Ny553.out] at ho7|(simp only [Int.reduceToNat] at ho7; rw [← Ny553.out] at ho7)); have n0_ := Aside0.mk (Kd.R_lower ho7 (below_size ((a3_ HI552.out)))); have n1_ := Aside0.mk (IsS66.below ((a1_ HI552.out)) hb); have n2_ := Aside0.mk (below_step ((a3_ HI552.out)) hb); clear HI552; clear HB; have HO555 := n0_; have HI552 := n1_; have HB := n2_; clear n0_ n1_ n2_; clear hb ho7; obtain ⟨Ao8, co8, eo8⟩ := Kd.R_slice HO555.out; subst eo8)|((with_reducible refine gate_callee (f := 74) rfl ?_); refine goesL_ (some 12) rfl rfl Tryd.func74 (by kernel_rfl) rfl #[.pointer (some ⟨g552, 0, none⟩), .slice Ao8 y553.length co8] rfl (by (try simp only [List.map_toArray, List.map_cons, List.map_nil]); first | done | rfl|(simp only [List.length_drop, List.length_take]; rfl)) ?_; (with_reducible refine (spec_l1Cur_among.calls g552 l0 0 0 _ _ y553 t556 t557 t558 w _ ?side1 ?side2 ?side3 ?side4 ?side5 A2.out).mono ?_);(case side1 => exact (a1_ HI552.out));(case side2 => exact (a3_ HI552.out));(case side3 => exact (a9_ HO555.out));(case side4 => exact (Kd.R_reads' HO555.out).2.1);(case side5 => exact far_slice (IsS66.own_ne HI552.out HO555.out (by decide))); rintro e w9 ⟨rfl, hi, hb, hk⟩; refine ⟨_, rfl, ?_⟩; have n0_ := Aside0.mk (Kd.R_mono (Kd.R_keep (IsS66.apart (show IsS66 w _ g552 l0 0 0 from (a1_ HI552.out)) ((a2_ HO555.out)) (by decide)) hk (fun _ h => h.2)) (fun _ h => h.1)); have n1_ := Aside0.mk (hb); have n2_ := Aside0.mk (hi); clear HO555; clear HB; clear HI552; have HO555 := n0_; have HB := n1_; have HI552 := n2_; clear n0_ n1_ n2_; (try clear hb); (try clear hb2); (try clear hk); (try clear hi))|((with_reducible refine gate_dst (N := 13) rfl ?_); refine Kd.R_lit (Kd.int .i64) _ 3 ?hg (N := 13) ?hd (xs := ([1, 2, 3, 4, t556] : List Int)) (inner := [.int .i64 1, .int .i64 2, .int .i64 3, .int .i64 4, .int .i64 t556]) (ok := fun _ => True) (okp := fun _ => True) ?hr ?hp (fun _ hk => hk) trivial (Below.refl _ _) (Nat.le_refl _) (by simp) ?_;(case hd => rfl);(case hg => rfl);(case hr => first|(go_simp;done)|(go_simp; rfl));(case hp => exact (Reps.one (show Kd.M (Kd.int .i64) _ _ _ 1 [.int .i64 1] from rfl) (Reps.one (show Kd.M (Kd.int .i64) _ _ _ 2 [.int .i64 2] from rfl) (Reps.one (show Kd.M (Kd.int .i64) _ _ _ 3 [.int .i64 3] from rfl) (Reps.one (show Kd.M (Kd.int .i64) _ _ _ 4 [.int .i64 4] from rfl) (Reps.one (show Kd.M (Kd.int .i64) _ _ _ t556 [.int .i64 t556] from rfl) (Reps.none _ _))))))); intro v560 w10 ho11 hb hg_ hnew_; clear hg_ hnew_; (first|rw [← Ny559.out] at ho11|(simp only [Int.reduceToNat] at ho11; rw [← Ny559.out] at ho11)); have n0_ := Aside0.mk (Kd.R_elder' ((a2_ HO555.out)) (Kd.R_base ho11) hb); have n1_ := Aside0.mk (Kd.R_lower (Kd.R_new' ho11 (Kd.R_lt ((a2_ HO555.out)))) (below_size ((a3_ HI552.out)))); have n2_ := Aside0.mk (IsS66.below ((a1_ HI552.out)) hb); have n3_ := Aside0.mk (below_step ((a3_ HI552.out)) hb); clear HO555; clear HI552; clear HB; have HO555 := n0_; have HO561 := n1_; have HI552 := n2_; have HB := n3_; clear n0_ n1_ n2_ n3_; clear hb ho11; obtain ⟨Ao12, co12, eo12⟩ := Kd.R_slice HO561.out; subst eo12)|((with_reducible refine gate_callee (f := 74) rfl ?_); refine goesL_ (some 14) rfl rfl Tryd.func74 (by kernel_rfl) rfl #[.pointer (some ⟨g552, 0, none⟩), .slice Ao12 y559.length co12] rfl (by (try simp only [List.map_toArray, List.map_cons, List.map_nil]); first | done | rfl|(simp only [List.length_drop, List.length_take]; rfl)) ?_; (with_reducible refine (spec_l1Cur_among.calls g552 l0 t557 t558 _ _ y559 t562 t563 t564 w _ ?side1 ?side2 ?side3 ?side4 ?side5 A3.out).mono ?_);(case side1 => exact (a1_ HI552.out));(case side2 => exact (a3_ HI552.out));(case side3 => exact (a9_ HO561.out));(case side4 => exact (Kd.R_reads' HO561.out).2.1);(case side5 => exact far_slice (IsS66.own_ne HI552.out HO561.out (by decide))); rintro e w13 ⟨rfl, hi, hb, hk⟩; refine ⟨_, rfl, ?_⟩; have n0_ := Aside0.mk (Kd.R_mono (Kd.R_keep (IsS66.apart (show IsS66 w _ g552 l0 t557 t558 from (a1_ HI552.out)) ((a2_ HO555.out)) (by decide)) hk (fun _ h => h.2)) (fun _ h => h.1)); have n1_ := Aside0.mk (Kd.R_mono (Kd.R_keep (IsS66.apart (show IsS66 w _ g552 l0 t557 t558 from (a1_ HI552.out)) ((a2_ HO561.out)) (by decide)) hk (fun _ h => h.2)) (fun _ h => h.1)); have n2_ := Aside0.mk (hb); have n3_ := Aside0.mk (hi); clear HO555; clear HO561; clear HB; clear HI552; have HO555 := n0_; have HO561 := n1_; have HB := n2_; have HI552 := n3_; clear n0_ n1_ n2_ n3_; (try clear hb); (try clear hb2); (try clear hk); (try clear hi))|((with_reducible refine gate_callee (f := 79) rfl ?_); refine goesL_ (some 17) rfl rfl Tryd.func79 (by kernel_rfl) rfl #[.pointer (some ⟨g552, 0, none⟩), .int .i64 t562] rfl (by (try simp only [List.map_toArray, List.map_cons, List.map_nil]); first | done | rfl|(simp only [List.length_drop, List.length_take]; rfl)) ?_; (with_reducible refine (spec_l1Cur_parts.calls k g552 l0 t563 t564 t562 t565 t568 t569 w _ ?side1 ?side2 A4.out).mono ?_);(case side1 => exact (a1_ HI552.out));(case side2 => exact (a3_ HI552.out)); rintro e w14 ⟨v566, rfl, ho0, hi, hb, hk⟩; refine ⟨_, rfl, ?_⟩; have n0_ := Aside0.mk (Kd.R_mono (Kd.R_keep (IsS66.apart (show IsS66 w _ g552 l0 t563 t564 from (a1_ HI552.out)) ((a2_ HO555.out)) (by decide)) hk (fun _ h => h.2)) (fun _ h => h.1)); have n1_ := Aside0.mk (Kd.R_mono (Kd.R_keep (IsS66.apart (show IsS66 w _ g552 l0 t563 t564 from (a1_ HI552.out)) ((a2_ HO561.out)) (by decide)) hk (fun _ h => h.2)) (fun _ h => h.1)); have n2_ := Aside0.mk (Kd.R_lower ho0 (below_size ((a3_ HI552.out)))); have n3_ := Aside0.mk (hb); have n4_ := Aside0.mk (hi); clear HO555; clear HO561; clear HB; clear HI552; have HO555 := n0_; have HO561 := n1_; have HO567 := n2_; have HB := n3_; have HI552 := n4_; clear n0_ n1_ n2_ n3_ n4_; (try clear hb); (try clear hb2); (try clear hk); (try clear hi); (try clear ho0)))
 go_ret2
 exact ⟨_, a5_, (a2_ HO567.out), (a3_ HI552.out)⟩

end Go.Proofs.YtkkhcemkppmgdaaDoor.QFnParts
