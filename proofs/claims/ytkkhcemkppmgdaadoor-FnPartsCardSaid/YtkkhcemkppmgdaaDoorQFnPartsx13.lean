/- Written by a program of this session (the kit's printer, with leaf contracts proved by hand put in): what each Go function computes, and that the call computes it. No condition but those that each theorem names. -/
import Derived.Test.YtkkhcemkppmgdaaDoorQFnPartsx0
import Derived.Test.YtkkhcemkppmgdaaDoorQFnPartsx3
import Derived.Test.YtkkhcemkppmgdaaDoorQFnPartsx4
import Derived.Test.YtkkhcemkppmgdaaDoorQFnPartsx6
namespace Go.Proofs.YtkkhcemkppmgdaaDoor.QFnParts
open Go.RowKit Go.Proofs.YtkkhcemkppmgdaaDoorW.PrintWords Go.Proofs.YtkkhcemkppmgdaaDoorW.PrintLast Go.Proofs.YtkkhcemkppmgdaaDoorW.PrintMore
attribute [local go_sem] max2_int min2_int max_two min_two max_three min_three max_four min_four   -- for this text's walks alone
set_option linter.unusedVariables false
set_option linter.unusedSimpArgs false

-- NOT PRINTED: function 127 (slices_pdqsortOrdered_int)

-- NOT PRINTED: function 122 (slices_Sort_int_int)

-- NOT PRINTED: function 114 (sort_Ints)

-- NOT PRINTED: function 115 (slices_Compact_int_int)

/-! ### impl_sortedSet: function 92 (by hand: the numbers in order, each once) -/
def impl_sortedSet.f (l0 : List Int) : Option (List Int) := if l0.length < 1000000000 then some (Go.Lib.compact (l0.mergeSort fun x y => decide (x ≤ y))) else none
theorem impl_sortedSet.reps {W : World} {base : Nat} {okp : Nat → Prop} {xs : List Int} {inner : List Value} (h : Reps ((Kd.int .i64).M W base okp) 1 xs inner) : inner = xs.map (Value.int .i64) := by
 obtain ⟨hl, hr⟩ := h
 refine List.ext_getElem? (fun j => ?_)
 rcases Nat.lt_or_ge j xs.length with hj | hj
 ·have h1 : (inner.drop (j * 1)).take 1 = [Value.int .i64 xs[j]] := hr j _ (List.getElem?_eq_getElem hj)
  have h2 := congrArg (fun q => q[0]?) h1
  simp only [Nat.mul_one, List.getElem?_take, List.getElem?_drop, Nat.add_zero, List.getElem?_cons_zero] at h2
  rw [List.getElem?_map, List.getElem?_eq_getElem hj]
  simpa using h2
 ·rw [List.getElem?_eq_none (by omega), List.getElem?_eq_none (by simpa using hj)]
theorem impl_sortedSet.mk (W : World) (base : Nat) (okp : Nat → Prop) (xs : List Int) : Reps ((Kd.int .i64).M W base okp) 1 xs (xs.map (Value.int .i64)) := by
 refine ⟨by simp, fun j p hp => ?_⟩
 show ((xs.map (Value.int .i64)).drop (j * 1)).take 1 = [Value.int .i64 p]
 have hj : j < xs.length := by
  rcases Nat.lt_or_ge j xs.length with h | h
  ·exact h
  ·rw [List.getElem?_eq_none h] at hp; cases hp
 rw [List.getElem?_eq_getElem hj] at hp
 injection hp with hp
 rw [Nat.mul_one, List.drop_eq_getElem_cons (by simpa using hj)]
 simp [hp]
/-- An own row of numbers: its block and cells. -/
theorem impl_sortedSet.open_ {W : World} {base g n cap : Nat} {okp : Nat → Prop} {xs : List Int} (HO : Kd.R (Kd.int .i64) 3 W base okp (.slice (some ⟨g, 0, none⟩) n cap) xs) :
 ∃ cur, W.heap[g]? = some (.cells cur 3 (0, 0)) ∧ base ≤ g ∧ n = xs.length ∧ n ≤ cap ∧ cap ≤ maxLen ∧ cur.size = cap ∧ cur.toList.take n = xs.map (Value.int .i64) ∧ okp g := by
 have hn := (Kd.R_reads' HO).1
 obtain ⟨hok, inner, hown, hr⟩ := HO
 have hi := impl_sortedSet.reps hr
 rcases hown.2 with ⟨hv, _⟩ | ⟨g', cap', cur, hv, hb, hh, hnc, hcm, hcs, htake⟩
 ·cases hv
 injection hv with ha hnn hc
 injection ha with ha
 injection ha with hg
 subst hg; subst hc
 refine ⟨cur, hh, hb, hn, by omega, hcm, by have h := hcs; rwa [show (Kd.int IntKind.i64).sz = 1 from rfl, Nat.mul_one] at h, ?_, hok _ rfl⟩
 rw [← hi, ← htake, hn]
 show _ = List.take (xs.length * 1) _
 rw [Nat.mul_one]
theorem impl_sortedSet.holds {W : World} {base g n cap : Nat} {okp : Nat → Prop} {xs : List Int} (HO : Kd.R (Kd.int .i64) 3 W base okp (.slice (some ⟨g, 0, none⟩) n cap) xs) :
 Go.Sort.Holds (Value.int .i64) W g 0 xs.toArray ∧ g < W.heap.size ∧ xs.length ≤ cap := by
 obtain ⟨cur, hh, hb, hn, hnc, hcm, hcs, ht, _⟩ := impl_sortedSet.open_ HO
 refine ⟨fun j hj => ?_, ?_, by omega⟩
 ·have hj' : j < xs.length := by simpa using hj
  rw [Nat.zero_add]
  refine ⟨?_, blk_frozen hh _⟩
  rw [blk_cell hh]
  have h2 := congrArg (fun q => q[j]?) ht
  simp only [List.getElem?_take, List.getElem?_map] at h2
  rw [if_pos (by omega), List.getElem?_eq_getElem hj'] at h2
  rw [Array.getElem?_toList] at h2
  rw [h2, getElem!_pos xs.toArray j hj]
  rfl
 ·rcases Nat.lt_or_ge g W.heap.size with h | h
  ·exact h
  ·rw [Array.getElem?_eq_none h] at hh; cases hh
/-- The row is written anew, blocks lie behind: the first m are a row still. -/
theorem impl_sortedSet.row (W : World) (base g n cap q m : Nat) (os : Array Obj) (xs ys : List Int) (HO : Kd.R (Kd.int .i64) 3 W base (fun _ => True) (.slice (some ⟨g, 0, none⟩) n cap) xs) (hy : ys.length = xs.length) (hm : m ≤ xs.length) :
 Kd.R (Kd.int .i64) 3 (Go.Sort.grow (Go.Sort.putRow (Value.int .i64) (Go.Sort.ahead W q) g 0 ys.toArray) os) base (fun _ => True) (.slice (some ⟨g, 0, none⟩) m cap) (ys.take m) ∧ Below base W (Go.Sort.grow (Go.Sort.putRow (Value.int .i64) (Go.Sort.ahead W q) g 0 ys.toArray) os) := by
 obtain ⟨hH, hg, hc⟩ := impl_sortedSet.holds HO
 obtain ⟨cur, hh, hb, hn, hnc, hcm, hcs, ht, _⟩ := impl_sortedSet.open_ HO
 have hheap : (Go.Sort.grow (Go.Sort.putRow (Value.int .i64) (Go.Sort.ahead W q) g 0 ys.toArray) os).heap[g]? = some (.cells (Go.Sort.putCells (Value.int .i64) 0 ys.toArray cur) 3 (0, 0)) := by
  rw [Go.Sort.heap_grow_old _ _ (by simpa using hg)]
  simp [Go.Sort.putRow, Go.Sort.mapBlock, Array.getElem?_modify, hh, Go.Sort.onCells]
 have hlt : (ys.take m).length = m := by rw [List.length_take]; omega
 refine ⟨⟨fun _ _ => trivial, (ys.take m).map (Value.int .i64), ⟨by simp [Kd.int, Kd.scalar], .inr ⟨g, cap, _, by rw [hlt], hb, hheap, by omega, hcm, by simp [Go.Sort.putCells, hcs, Kd.int, Kd.scalar], ?_⟩⟩, impl_sortedSet.mk _ _ _ _⟩, ?_⟩
 ·refine List.ext_getElem? (fun j => ?_)
  show ((Go.Sort.putCells (Value.int .i64) 0 ys.toArray cur).toList.take ((ys.take m).length * 1))[j]? = _
  rw [hlt, Nat.mul_one, List.getElem?_take, List.getElem?_map, List.getElem?_take]
  by_cases hj : j < m
  ·rw [if_pos hj, if_pos hj]
   have h1 : j < cur.size := by omega
   have h2 : j < ys.length := by omega
   simp [Go.Sort.putCells, Array.getElem?_eq_getElem h1, h2]
  ·rw [if_neg hj, if_neg hj]; rfl
 ·refine ⟨rfl, rfl, rfl, by simp, fun k hk => ?_⟩
  rw [Go.Sort.heap_grow_old _ _ (by simp; omega)]
  have hne : g ≠ k := by omega
  simp [Go.Sort.putRow, Go.Sort.mapBlock, Array.getElem?_modify, hne]
theorem impl_sortedSet.sort (g cap base : Nat) (xs : List Int) (W : World) (HO : Kd.R (Kd.int .i64) 3 W base (fun _ => True) (.slice (some ⟨g, 0, none⟩) xs.length cap) xs) (hlen : xs.length < 1000000000) :
 Calls Tryd.prog 114 #[.slice (some ⟨g, 0, none⟩) xs.length cap] W fun e w' => e = .returned (.tuple #[]) ∧ Kd.R (Kd.int .i64) 3 w' base (fun _ => True) (.slice (some ⟨g, 0, none⟩) xs.length cap) (xs.mergeSort fun x y => decide (x ≤ y)) ∧ Below base W w' := by
 obtain ⟨hH, hg, hc⟩ := impl_sortedSet.holds HO
 have hs : (xs.mergeSort fun x y => decide (x ≤ y)).length = xs.length := List.length_mergeSort xs
 have hcall : Calls Tryd.prog 114 #[.slice (some ⟨g, 0, none⟩) xs.length cap] W _ := Tryd.sort_Ints g 0 cap xs W hH hg (by omega)
 refine hcall.mono ?_
 rintro e w' ⟨rfl, q, os, rfl⟩
 have h := impl_sortedSet.row W base g xs.length cap q xs.length os xs _ HO hs (Nat.le_refl _)
 rw [List.take_of_length_le (by omega)] at h
 exact ⟨rfl, h⟩
theorem impl_sortedSet.comp (g cap base : Nat) (zs : List Int) (n : Nat) (hn : n = zs.length) (W : World) (HO : Kd.R (Kd.int .i64) 3 W base (fun _ => True) (.slice (some ⟨g, 0, none⟩) n cap) zs) :
 Calls Tryd.prog 115 #[.slice (some ⟨g, 0, none⟩) n cap] W fun e w' => ∃ v, e = .returned v ∧ Kd.R (Kd.int .i64) 3 w' base (fun _ => True) v (Go.Lib.compact zs) ∧ Below base W w' := by
 subst hn
 obtain ⟨hH, hg, hc⟩ := impl_sortedSet.holds HO
 obtain ⟨cur, hh, hb, hn, hnc, hcm, hcs, ht, _⟩ := impl_sortedSet.open_ HO
 have hm : cap ≤ 9223372036854775807 := by simpa [maxLen] using hcm
 have hcall : Calls Tryd.prog 115 #[.slice (some ⟨g, 0, none⟩) zs.length cap] W _ := Tryd.slices_Compact_int g 0 cap zs W hH (by omega) hc
 refine hcall.mono ?_
 rintro e w' ⟨rfl, q, rfl⟩
 have hle : (Go.Lib.compact zs).length ≤ zs.length := by
  unfold Go.Lib.compact Go.Lib.compactUpTo
  rw [List.length_map]
  refine Nat.le_trans (List.length_filter_le _ _) ?_
  simp
 have h := impl_sortedSet.row W base g zs.length cap q (Go.Lib.compact zs).length #[] zs (Go.Lib.compact zs ++ List.replicate (zs.length - (Go.Lib.compact zs).length) 0) HO (by simp; omega) hle
 rw [List.take_left] at h
 simp only [Go.Sort.grow_empty] at h
 exact ⟨_, rfl, h⟩
theorem impl_sortedSet.shape {W : World} {base : Nat} {okp : Nat → Prop} {v : Value} {xs : List Int} (HO : Kd.R (Kd.int .i64) 3 W base okp v xs) : (v = .slice none 0 0 ∧ xs = []) ∨ ∃ g cap, v = .slice (some ⟨g, 0, none⟩) xs.length cap := by
 obtain ⟨_, inner, hown, _⟩ := HO
 rcases hown.2 with ⟨hv, hn⟩ | ⟨g, cap, cur, hv, _⟩
 ·exact .inl ⟨hv, List.eq_nil_of_length_eq_zero hn⟩
 ·exact .inr ⟨g, cap, hv⟩
theorem impl_sortedSet.sortV (v : Value) (base : Nat) (xs : List Int) (W : World) (HO : Kd.R (Kd.int .i64) 3 W base (fun _ => True) v xs) (hlen : xs.length < 1000000000) :
 Calls Tryd.prog 114 #[v] W fun e w' => e = .returned (.tuple #[]) ∧ Kd.R (Kd.int .i64) 3 w' base (fun _ => True) v (xs.mergeSort fun x y => decide (x ≤ y)) ∧ Below base W w' := by
 rcases impl_sortedSet.shape HO with ⟨rfl, rfl⟩ | ⟨g, cap, rfl⟩
 ·have hcall : Calls Tryd.prog 114 #[.slice none 0 0] W _ := Tryd.sort_Ints_none none 0 W
  refine hcall.mono ?_
  rintro e w' ⟨rfl, rfl⟩
  exact ⟨rfl, by rw [List.mergeSort_nil]; exact HO, Below.refl _ _⟩
 ·exact impl_sortedSet.sort g cap base xs W HO hlen
theorem impl_sortedSet.compV (v : Value) (base : Nat) (xs : List Int) (W : World) (HO : Kd.R (Kd.int .i64) 3 W base (fun _ => True) v xs) :
 Calls Tryd.prog 115 #[v] W fun e w' => ∃ v1, e = .returned v1 ∧ Kd.R (Kd.int .i64) 3 w' base (fun _ => True) v1 (Go.Lib.compact xs) ∧ Below base W w' := by
 rcases impl_sortedSet.shape HO with ⟨rfl, rfl⟩ | ⟨g, cap, rfl⟩
 ·have hcall : Calls Tryd.prog 115 #[.slice none 0 0] W _ := Tryd.slices_Compact_int_empty none 0 W
  refine hcall.mono ?_
  rintro e w' ⟨rfl, rfl⟩
  exact ⟨_, rfl, HO, Below.refl _ _⟩
 ·exact impl_sortedSet.comp g cap base xs xs.length rfl W HO
set_option maxHeartbeats 4000000 in
set_option maxRecDepth 100000 in
theorem impl_sortedSet.calls (A0 : Option Addr) (c0 : Nat) (l0 : List Int) (r : List Int) (w : World) (hr0 : Kd.C (Kd.int .i64) w A0 l0.length l0) (hc0 : l0.length ≤ c0) (h : impl_sortedSet.f l0 = some r) :
 Calls Tryd.prog 92 #[.slice A0 l0.length c0] w fun e w' => ∃ v0_ : Value, e = .returned (v0_) ∧ Kd.R (Kd.int .i64) 3 w' w.heap.size (fun _ => True) v0_ r ∧ Below w.heap.size w w' := by
 unfold impl_sortedSet.f at h
 by_cases hlen : l0.length < 1000000000
 ·rw [if_pos hlen] at h
  obtain rfl := Option.some.inj h
  have hcl : slices_Clone_int_int.f l0 = some l0 := if_pos hlen
  have HL := Aside0.mk hlen
  clear h hlen
  have HR0 := Aside0.mk hr0
  have HC0 := Aside0.mk hc0
  have HCL := Aside0.mk hcl
  clear hr0 hc0 hcl
  go_enter Tryd.func92, Tryd.ntmps92
  go_wp2_with (first
   |(go_at_call 113; refine (slices_Clone_int_int.calls A0 c0 l0 l0 _ HR0.out HC0.out HCL.out).mono ?_; rintro e w2 ⟨v2, rfl, ho, hb⟩; have HO := Aside0.mk ho; have HB2 := Aside0.mk hb; clear ho hb)
   |(go_at_call 114; refine (impl_sortedSet.sortV v2 w.heap.size l0 w2 HO.out HL.out).mono ?_; rintro e w3 ⟨rfl, ho, hb⟩; have HO3 := Aside0.mk ho; have HB3 := Aside0.mk (HB2.out.trans hb); clear ho hb)
   |(go_at_call 115; refine (impl_sortedSet.compV v2 w.heap.size _ w3 HO3.out).mono ?_; rintro e w4 ⟨v4, rfl, ho, hb⟩; have HO4 := Aside0.mk ho; have HB4 := Aside0.mk (HB3.out.trans hb); clear ho hb))
  go_ret
  exact ⟨_, rfl, HO4.out, HB4.out⟩
 ·rw [if_neg hlen] at h
  exact absurd h (by simp)


/-! ### impl_UsedSources: function 36 -/
def impl_UsedSources.l0 : Nat → List Int → List (S93) → Int → Int → Option (List Int × Bool)
 | 0, _, _, _, _ => none
 | k + 1, x4, x11, x12, x13 => if x13 < x12 then (if 0 ≤ x13 then (if x13 < (x11.length : Int) then (if x4.length < 17592186044416 then (impl_UsedSources.l0 k (x4 ++ [(rd_T93 x11 x13).f0]) x11 x12 (wrap64 (x13 + 1))) else (none)) else (none)) else (none)) else ((impl_sortedSet.f x4).bind fun t450 => (some (t450, true)))
def impl_UsedSources.f (k : Nat) (l0 : List (S93)) : Option (List Int × Bool) := (impl_isEdition.f k l0).bind fun t441 => (if t441 = true then (impl_UsedSources.l0 k (([] : List Int)) l0 (l0.length : Int) 0) else (some (([] : List Int), false)))
theorem impl_UsedSources.mono_l : ∀ k, (∀ y0 y1 y2 y3, LeO (impl_UsedSources.l0 k y0 y1 y2 y3) (impl_UsedSources.l0 (k + 1) y0 y1 y2 y3))
 | 0 => fun _ _ _ _ r h => by simp [impl_UsedSources.l0] at h
 | k + 1 => by
  have ih0 := impl_UsedSources.mono_l k
  ·intro y0 y1 y2 y3
   unfold impl_UsedSources.l0
   repeat' first
   |(with_reducible exact ih0 _ _ _ _)
   |(with_reducible exact impl_isEdition.mono _ _)
   |(with_reducible exact LeO.refl _)
   |(with_reducible exact LeO.none _)
   |(with_reducible refine LeO.ite ?_ ?_)
   |(with_reducible refine LeO.bind ?_ (fun _ => ?_))
   |exact ih0 _ _ _ _
   |exact impl_isEdition.mono _ _
   |exact LeO.none _
    | refine LeO.ite ?_ ?_
    | refine LeO.bind ?_ (fun _ => ?_)
theorem impl_UsedSources.mono : ∀ a0 k, LeO (impl_UsedSources.f k a0) (impl_UsedSources.f (k + 1) a0) := by
 intro a0 k
 have ih0 := impl_UsedSources.mono_l k
 unfold impl_UsedSources.f
 repeat' first
  |(with_reducible exact ih0 _ _ _ _)
  |(with_reducible exact impl_isEdition.mono _ _)
  |(with_reducible exact LeO.refl _)
  |(with_reducible exact LeO.none _)
  |(with_reducible refine LeO.ite ?_ ?_)
  |(with_reducible refine LeO.bind ?_ (fun _ => ?_))
  |exact ih0 _ _ _ _
  |exact impl_isEdition.mono _ _
  |exact LeO.none _
   | refine LeO.ite ?_ ?_
   | refine LeO.bind ?_ (fun _ => ?_)
set_option maxHeartbeats 8000000 in
set_option maxRecDepth 100000 in
theorem impl_UsedSources.calls (k : Nat) (A0 : Option Addr) (c0 : Nat) (l0 : List (S93)) (r1 : List Int) (r2 : Bool) (w : World) (hr0 : Kd.C k93 w A0 l0.length l0) (hc0 : l0.length ≤ c0) (h : impl_UsedSources.f k l0 = some (r1, r2)) :
 Calls Tryd.prog 36 #[.slice A0 l0.length c0] w fun e w' => ∃ v0_ : Value, e = .returned (.tuple #[v0_, .bool r2]) ∧ Kd.R (Kd.int .i64) 3 w' w.heap.size (fun _ => True) v0_ r1 ∧ Below w.heap.size w w' := by
 have hu93 := Tryd.underlying93
 have HR0 := Aside0.mk hr0
 have HC0 := Aside0.mk hc0
 clear hr0 hc0
 have HB := Aside0.mk (Below.refl w.heap.size w)
 have H : ((impl_isEdition.f k l0).bind fun t441 => (if t441 = true then (impl_UsedSources.l0 k (([] : List Int)) l0 (l0.length : Int) 0) else (some (([] : List Int), false)))) = some (r1, r2) := h
 clear h
 replace H := Option.bind_eq_some_iff.mp H
 obtain ⟨t441, A20, H⟩ := H
 try dsimp only at H
 have A2 := Aside0.mk A20
 clear A20
 by_cases c3 : t441 = true
 ·subst c3
  have H1 : (impl_UsedSources.l0 k (([] : List Int)) l0 (l0.length : Int) 0) = some (r1, r2) := by rw [if_pos rfl] at H; exact H
  clear H
  have H := H1
  clear H1
  obtain ⟨y442, hy442⟩ : ∃ y_ : List Int, y_ = (([] : List Int)) := ⟨_, rfl⟩
  replace H : (impl_UsedSources.l0 k y442 l0 (l0.length : Int) 0) = some (r1, r2) := by first|(rw [hy442]; with_reducible exact H)|(have H2_ := (Option.bind_some _ _).symm.trans H; rw [hy442]; with_reducible exact H2_)|(have H2_ := (Option.bind_some _ _).symm.trans H; with_reducible exact H2_) | with_reducible exact H|(rw [hy442]; exact H)|exact H
  have Ny442 := Aside0.mk hy442
  clear hy442
  have H' := Aside0.mk H
  clear H
  go_enter Tryd.func36, Tryd.ntmps36
  go_wp2_with (first|((with_reducible refine gate_callee (f := 83) rfl ?_); refine goesL_ (some 8) rfl rfl Tryd.func83 (by kernel_rfl) rfl #[.slice A0 l0.length c0] rfl (by (try simp only [List.map_toArray, List.map_cons, List.map_nil]); first | done | rfl|(simp only [List.length_drop, List.length_take]; rfl)) ?_; (with_reducible refine (impl_isEdition.calls k _ _ l0 true _ ?side1 ?side2 A2.out).mono ?_);(case side1 => exact (a10_ HR0.out));(case side2 => exact HC0.out); rintro e w4 ⟨rfl, hb⟩; refine ⟨_, rfl, ?_⟩; have n0_ := Aside0.mk (below_step (a0_) hb); clear HB; have HB := n0_; clear n0_; (try clear hb); (try clear hb2); (try clear hk); (try clear hi))|((with_reducible refine gate_dst (N := 10) rfl ?_); refine Kd.R_lit (Kd.int .i64) _ 3 ?hg (N := 10) ?hd (xs := ([] : List Int)) (inner := []) (ok := fun _ => True) (okp := fun _ => True) ?hr ?hp (fun _ hk => hk) trivial (Below.refl _ _) (Nat.le_refl _) (by simp) ?_;(case hd => rfl);(case hg => rfl);(case hr => first|(go_simp;done)|(go_simp; rfl));(case hp => exact (Reps.none _ _)); intro v443 w5 ho6 hb hg_ hnew_; clear hg_ hnew_; (first|rw [← Ny442.out] at ho6|(simp only [Int.reduceToNat] at ho6; rw [← Ny442.out] at ho6)); have n0_ := Aside0.mk (Kd.R_lower ho6 (below_size (a0_))); have n1_ := Aside0.mk (below_step (a0_) hb); clear HB; have HO444 := n0_; have HB := n1_; clear n0_ n1_; clear hb ho6))
  (try simp only [Act.put, List.setIfInBounds_toArray, List.set_cons_zero, List.set_cons_succ])
  go_loopg [4, 13] k (fun kq v4 v13 w' => ∃ (x4_1 : List Int) (x13_1 : Int), v13 = .int .i64 x13_1 ∧ Aside0 (impl_UsedSources.l0 kq x4_1 l0 (l0.length : Int) x13_1 = some (r1, r2)) ∧ Aside0 (kq ≤ k) ∧ Aside0 (Kd.R (Kd.int .i64) 3 w' w.heap.size (fun _ => True) v4 x4_1) ∧ Aside0 (Below w.heap.size w w'))
  case atStart => exact ⟨(y442), (0), (by first | rfl|(simp;done)|(simp [*];done)), H', ⟨Nat.le_refl _⟩, ⟨(a2_ HO444.out)⟩, ⟨a0_⟩⟩
  case round =>
   clear H'
   try clear p2
   try clear c3
   obtain ⟨x4_1, x13_1, rfl, HA, HK1, HO_4, HB⟩ := hrel
   cases gk with
   | zero => exact absurd HA.out (by simp [impl_UsedSources.l0])
   | succ k1 =>
    have H := HA.out
    clear HA
    simp only [impl_UsedSources.l0] at H
    by_cases c7 : x13_1 < (l0.length : Int)
    ·rw [if_pos c7] at H
     have c7b0 : decide (x13_1 < (l0.length : Int)) = true := decide_eq_true c7
     clear c7
     by_cases c8 : 0 ≤ x13_1
     ·rw [if_pos c8] at H
      have c8b0 : decide (0 ≤ x13_1) = true := decide_eq_true c8
      clear c8
      by_cases c9 : x13_1 < (l0.length : Int)
      ·rw [if_pos c9] at H
       have c9b0 : decide (x13_1 < (l0.length : Int)) = true := decide_eq_true c9
       clear c9
       by_cases c10 : x4_1.length < 17592186044416
       ·rw [if_pos c10] at H
        have LMc10 := Aside0.mk c10
        clear c10
        obtain ⟨y447, hy447⟩ : ∃ y_ : List Int, y_ = (x4_1 ++ [(rd_T93 l0 x13_1).f0]) := ⟨_, rfl⟩
        replace H : (impl_UsedSources.l0 k1 y447 l0 (l0.length : Int) (wrap64 (x13_1 + 1))) = some (r1, r2) := by first|(rw [hy447]; with_reducible exact H)|(have H2_ := (Option.bind_some _ _).symm.trans H; rw [hy447]; with_reducible exact H2_)|(have H2_ := (Option.bind_some _ _).symm.trans H; with_reducible exact H2_) | with_reducible exact H|(rw [hy447]; exact H)|exact H
        have Ny447 := Aside0.mk hy447
        clear hy447
        have H' := Aside0.mk H
        clear H
        have p445 : 0 ≤ (x13_1 : Int) := of_decide_eq_true (a7_)
        have q445 : x13_1 < (l0.length : Int) := of_decide_eq_true (a7_)
        obtain ⟨ad445, e445, hx445_0, hx445_1, hx445_2⟩ := at_T93 HR0.out x13_1 p445 q445
        cases e445
        replace hx445_0 := (HB.out.cell (World.block_lt_of_cell? w _ hx445_0)).trans hx445_0
        replace hx445_1 := (HB.out.cell (World.block_lt_of_cell? w _ hx445_1)).trans hx445_1
        replace hx445_2 := (HB.out.cell (World.block_lt_of_cell? w _ hx445_2)).trans hx445_2
        replace p445 := eq_true p445
        replace q445 := eq_true q445
        go_wp2_with (first|((with_reducible refine gate_dst (N := 6) rfl ?_); refine box_event ?hg (N := 6) ?hd (cs := #[.int .i64 0, .int .i64 0, .int .i64 0]) (t := 93) ?hr ?_;(case hd => rfl);(case hg => rfl);(case hr => first|(go_simp;done)|(go_simp; rfl)); intro gb446 hg w11 hbox hb; have n0_ := Aside0.mk (Kd.R_below ((a2_ HO_4.out)) hb); have n1_ := Aside0.mk (below_step (a0_) hb); have n2_ := Aside0.mk (hbox); have n3_ := Aside0.mk ((by rw [hg]; exact (below_size (a0_)) : w.heap.size ≤ gb446)); have n4_ := Aside0.mk ((by rw [hg]; exact (below_size (a0_)) : w.heap.size ≤ gb446)); clear HO_4; clear HB; have HO_4 := n0_; have HB := n1_; have BK446 := n2_; have GW446 := n3_; have GE446 := n4_; clear n0_ n1_ n2_ n3_ n4_; clear hb hbox hg; have hcz12_0 : w11.cell? ⟨gb446, 0, none⟩ = some (.int .i64 0) := (blk_cell BK446.out 0).trans rfl; have hcz12_1 : w11.cell? ⟨gb446, 1, none⟩ = some (.int .i64 0) := (blk_cell BK446.out 1).trans rfl; have hcz12_2 : w11.cell? ⟨gb446, 2, none⟩ = some (.int .i64 0) := (blk_cell BK446.out 2).trans rfl; have hfz12_0 := blk_frozen BK446.out 0; have hfz12_1 := blk_frozen BK446.out 1; have hfz12_2 := blk_frozen BK446.out 2)|((with_reducible refine gate_builtin (b := .append) (xs := #[.tmp 17, .tmp 20]) rfl ?_); at_builtin; refine Kd.R_append (Kd.int .i64) (w0 := w) w.heap.size rfl (.tmp 17) (.tmp 20) 28 3 (.int .i64 0) 8 rfl Tryd.underlying28 info3 rfl (by decide) (by omega) u4 x4_1 ((rd_T93 l0 x13_1).f0) [.int .i64 ((rd_T93 l0 x13_1).f0)] (fun _ => True) (fun _ => False) rfl (by first|(go_simp;done)|(go_simp; rfl)) ?aP (fun _ hk => hk.elim) ?aF ?aO ?aB ?aS ?aL ?_;(case aP => exact rfl);(case aB => exact ((a8_ GE446.out)));(case aF => exact (fun _ _ => trivial));(case aO => exact (by (with_reducible repeat (first|apply Kd.R_alloc|apply Kd.R_drewN|apply Kd.R_drew)); exact Kd.R_mono (Kd.R_far (p := ⟨gb446, 2, none⟩) (Kd.R_far (p := ⟨gb446, 1, none⟩) (Kd.R_far (p := ⟨gb446, 0, none⟩) (Kd.R_types HO_4.out BK446.out (by decide)) (fun _ hk => hk.2) (.int .i64 ((rd_T93 l0 x13_1).f0))) (fun _ hk => hk.2) (.int .i64 ((rd_T93 l0 x13_1).f1))) (fun _ hk => hk.2) (.int .i64 ((rd_T93 l0 x13_1).f2))) (fun _ hk => trivial)));(case aS => exact (below_size ((a8_ GE446.out))));(case aL => have := LMc10.out; omega); intro v448 w13 ho hb hg hat; rw [← Ny447.out] at ho; have n0_ := Aside0.mk (blk_grown (g := gb446) (o := .cells #[.int .i64 ((rd_T93 l0 x13_1).f0), .int .i64 ((rd_T93 l0 x13_1).f1), .int .i64 ((rd_T93 l0 x13_1).f2)] 93 (0, 0)) (by (with_reducible repeat (first|refine blk_drewN ?_ _ | refine blk_drew ?_ | refine blk_alloc ?_ _)); refine blk_put (cs := #[.int .i64 ((rd_T93 l0 x13_1).f0), .int .i64 ((rd_T93 l0 x13_1).f1), .int .i64 0]) ?_ 2 _ rfl; (with_reducible repeat (first|refine blk_drewN ?_ _ | refine blk_drew ?_ | refine blk_alloc ?_ _)); refine blk_put (cs := #[.int .i64 ((rd_T93 l0 x13_1).f0), .int .i64 0, .int .i64 0]) ?_ 1 _ rfl; (with_reducible repeat (first|refine blk_drewN ?_ _ | refine blk_drew ?_ | refine blk_alloc ?_ _)); refine blk_put (cs := #[.int .i64 0, .int .i64 0, .int .i64 0]) ?_ 0 _ rfl; (with_reducible repeat (first|refine blk_drewN ?_ _ | refine blk_drew ?_ | refine blk_alloc ?_ _)); exact BK446.out) hg (Kd.R_ne HO_4.out BK446.out (by decide))); have n1_ := Aside0.mk (hb); have n2_ := Aside0.mk (ho); clear BK446; clear HB; clear HO_4; have BK446 := n0_; have HB := n1_; have HO449 := n2_; clear n0_ n1_ n2_; clear ho hb hg hat))
        go_roundg k1
        case measure => have := HK1.out; omega
        case rel => exact ⟨(y447), (wrap64 (x13_1 + 1)), (by first | rfl|(simp;done)|(simp [*];done)), H', ⟨by have := HK1.out; omega⟩, ⟨(a2_ HO449.out)⟩, ⟨(a8_ GE446.out)⟩⟩
       ·rw [if_neg c10] at H
        exact absurd H (by simp)
      ·rw [if_neg c9] at H
       exact absurd H (by simp)
     ·rw [if_neg c8] at H
      exact absurd H (by simp)
    ·rw [if_neg c7] at H
     have c7b0 : decide (x13_1 < (l0.length : Int)) = false := decide_eq_false c7
     clear c7
     replace H := Option.bind_eq_some_iff.mp H
     obtain ⟨t450, A140, H⟩ := H
     try dsimp only at H
     have A14 := Aside0.mk A140
     clear A140
     simp only [Option.some.injEq, Prod.mk.injEq] at H
     obtain ⟨rfl, rfl⟩ := H
     obtain ⟨Ao15, co15, eo15⟩ := Kd.R_slice HO_4.out
     subst eo15
     go_wp2_with (first|((with_reducible refine gate_callee (f := 92) rfl ?_); refine goesL_ (some 24) rfl rfl Tryd.func92 (by kernel_rfl) rfl #[.slice Ao15 x4_1.length co15] rfl (by (try simp only [List.map_toArray, List.map_cons, List.map_nil]); first | done | rfl|(simp only [List.length_drop, List.length_take]; rfl)) ?_; (with_reducible refine (impl_sortedSet.calls _ _ x4_1 t450 _ ?side1 ?side2 A14.out).mono ?_);(case side1 => exact (a9_ HO_4.out));(case side2 => exact (Kd.R_reads' HO_4.out).2.1); rintro e w16 ⟨v451, rfl, ho0, hb⟩; refine ⟨_, rfl, ?_⟩; have n0_ := Aside0.mk (Kd.R_elder' ((a2_ HO_4.out)) (Kd.R_base ho0) hb); have n1_ := Aside0.mk (Kd.R_lower (Kd.R_new' ho0 (Kd.R_lt ((a2_ HO_4.out)))) (below_size (a0_))); have n2_ := Aside0.mk (below_step (a0_) hb); clear HO_4; clear HB; have HO_4 := n0_; have HO452 := n1_; have HB := n2_; clear n0_ n1_ n2_; (try clear hb); (try clear hb2); (try clear hk); (try clear hi); (try clear ho0)))
     go_ret2
     exact ⟨_, a5_, (a29_ HO452.out), a0_⟩
 ·replace c3 := Bool.eq_false_iff.mpr c3
  subst c3
  have H1 : (some (([] : List Int), false)) = some (r1, r2) := by rw [if_neg (show ¬ (false = true) by decide)] at H; exact H
  clear H
  have H := H1
  clear H1
  simp only [Option.some.injEq, Prod.mk.injEq] at H
  obtain ⟨rfl, rfl⟩ := H
  go_enter Tryd.func36, Tryd.ntmps36
  go_wp2_with (first|((with_reducible refine gate_callee (f := 83) rfl ?_); refine goesL_ (some 8) rfl rfl Tryd.func83 (by kernel_rfl) rfl #[.slice A0 l0.length c0] rfl (by (try simp only [List.map_toArray, List.map_cons, List.map_nil]); first | done | rfl|(simp only [List.length_drop, List.length_take]; rfl)) ?_; (with_reducible refine (impl_isEdition.calls k _ _ l0 false _ ?side1 ?side2 A2.out).mono ?_);(case side1 => exact (a10_ HR0.out));(case side2 => exact HC0.out); rintro e w17 ⟨rfl, hb⟩; refine ⟨_, rfl, ?_⟩; have n0_ := Aside0.mk (below_step (a0_) hb); clear HB; have HB := n0_; clear n0_; (try clear hb); (try clear hb2); (try clear hk); (try clear hi)))
  go_ret2
  exact ⟨_, a5_, a19_, a0_⟩

/-! ### spec_l1Put: function 94 -/
def spec_l1Put.l0 : Nat → List Int → Int → Int → Option (List Int)
 | 0, _, _, _ => none
 | k + 1, x0, x1, x5 => if x5 < (x0.length : Int) then (if 0 ≤ x5 then (if (rd x0 x5) < x1 then (spec_l1Put.l0 k x0 x1 (wrap64 (x5 + 1))) else (if (rd x0 x5) = x1 then (some x0) else ((some (([] : List Int) : List Int)).bind fun y455 => (if x5 ≤ (x0.length : Int) then ((some (x0.take (x5 : Int).toNat : List Int)).bind fun y458 => (if y455.length + y458.length < 17592186044416 then ((some (y455 ++ y458 : List Int)).bind fun y462 => (if y462.length < 17592186044416 then ((some (y462 ++ [x1] : List Int)).bind fun y465 => ((some (x0.drop (x5 : Int).toNat : List Int)).bind fun y468 => (if y465.length + y468.length < 17592186044416 then (some (y465 ++ y468)) else (none)))) else (none))) else (none))) else (none))))) else (none)) else ((some (([] : List Int) : List Int)).bind fun y475 => (if 0 ≤ x5 then (if x5 ≤ (x0.length : Int) then ((some (x0.take (x5 : Int).toNat : List Int)).bind fun y478 => (if y475.length + y478.length < 17592186044416 then ((some (y475 ++ y478 : List Int)).bind fun y482 => (if y482.length < 17592186044416 then ((some (y482 ++ [x1] : List Int)).bind fun y485 => ((some (x0.drop (x5 : Int).toNat : List Int)).bind fun y488 => (if y485.length + y488.length < 17592186044416 then (some (y485 ++ y488)) else (none)))) else (none))) else (none))) else (none)) else (none)))
def spec_l1Put.f (k : Nat) (l0 : List Int) (a1 : Int) : Option (List Int) := spec_l1Put.l0 k l0 a1 0
theorem spec_l1Put.mono_l : ∀ k, (∀ y0 y1 y2, LeO (spec_l1Put.l0 k y0 y1 y2) (spec_l1Put.l0 (k + 1) y0 y1 y2))
 | 0 => fun _ _ _ r h => by simp [spec_l1Put.l0] at h
 | k + 1 => by
  have ih0 := spec_l1Put.mono_l k
  ·intro y0 y1 y2
   unfold spec_l1Put.l0
   repeat' first
   |(with_reducible exact ih0 _ _ _)
   |(with_reducible exact LeO.refl _)
   |(with_reducible exact LeO.none _)
   |(with_reducible refine LeO.ite ?_ ?_)
   |(with_reducible refine LeO.bind ?_ (fun _ => ?_))
   |exact ih0 _ _ _
   |exact LeO.none _
    | refine LeO.ite ?_ ?_
    | refine LeO.bind ?_ (fun _ => ?_)
theorem spec_l1Put.mono : ∀ a0 a1 k, LeO (spec_l1Put.f k a0 a1) (spec_l1Put.f (k + 1) a0 a1) := by
 intro a0 a1 k
 have ih0 := spec_l1Put.mono_l k
 unfold spec_l1Put.f
 repeat' first
  |(with_reducible exact ih0 _ _ _)
  |(with_reducible exact LeO.refl _)
  |(with_reducible exact LeO.none _)
  |(with_reducible refine LeO.ite ?_ ?_)
  |(with_reducible refine LeO.bind ?_ (fun _ => ?_))
  |exact ih0 _ _ _
  |exact LeO.none _
   | refine LeO.ite ?_ ?_
   | refine LeO.bind ?_ (fun _ => ?_)
set_option maxHeartbeats 8000000 in
set_option maxRecDepth 100000 in
theorem spec_l1Put.calls (k : Nat) (P0_ : Nat → Prop) (u9000_ : Value) (l0 : List Int) (a1 : Int) (r : List Int) (w0 w : World) (hB : Below w0.heap.size w0 w) (ho0 : Kd.R (Kd.int .i64) 3 w w0.heap.size P0_ u9000_ l0) (h : spec_l1Put.f k l0 a1 = some r) :
 Calls Tryd.prog 94 #[u9000_, .int .i64 a1] w fun e w' => ∃ v0_ : Value, e = .returned (v0_) ∧ Kd.R (Kd.int .i64) 3 w' w0.heap.size (fun k_ => (P0_ k_ ∨ w.heap.size ≤ k_)) v0_ r ∧ Below w0.heap.size w0 w' ∧ Kept w w' (fun k_ => P0_ k_) := by
 have HO0 := Aside0.mk (show Kd.R (Kd.int .i64) 3 w w0.heap.size (fun k_ => (P0_ k_ ∨ w.heap.size ≤ k_)) u9000_ l0 from Kd.R_mono ho0 (fun k_ hk => (.inl hk)))
 have HK := Aside0.mk (Kept.refl w (fun k_ => P0_ k_))
 have HW0 := Aside0.mk hB.size
 have HB := Aside0.mk hB
 clear hB
 have H : (spec_l1Put.l0 k l0 a1 0) = some r := h
 clear h
 have H' := Aside0.mk H
 clear H
 go_enter Tryd.func94, Tryd.ntmps94
 go_wp2
 (try simp only [Act.put, List.setIfInBounds_toArray, List.set_cons_zero, List.set_cons_succ])
 go_loopg [5] k (fun kq v5 w' => ∃ (x5_1 : Int), v5 = .int .i64 x5_1 ∧ Aside0 (spec_l1Put.l0 kq l0 a1 x5_1 = some r) ∧ Aside0 (kq ≤ k) ∧ Aside0 (Kd.R (Kd.int .i64) 3 w' w0.heap.size (fun k_ => (P0_ k_ ∨ w.heap.size ≤ k_)) u9000_ l0) ∧ Aside0 (Kept w w' (fun k_ => P0_ k_)) ∧ Aside0 (Below w0.heap.size w0 w'))
 case atStart => exact ⟨(0), (by first | rfl|(simp;done)|(simp [*];done)), H', ⟨Nat.le_refl _⟩, ⟨(a2_ HO0.out)⟩, ⟨a15_⟩, ⟨a0_⟩⟩
 case round =>
  clear H'
  try clear p2
  obtain ⟨x5_1, rfl, HA, HK1, HO_0, HK, HB⟩ := hrel
  cases gk with
  | zero => exact absurd HA.out (by simp [spec_l1Put.l0])
  | succ k1 =>
   have H := HA.out
   clear HA
   simp only [spec_l1Put.l0] at H
   by_cases c3 : x5_1 < (l0.length : Int)
   ·rw [if_pos c3] at H
    have c3b0 : decide (x5_1 < (l0.length : Int)) = true := decide_eq_true c3
    clear c3
    by_cases c4 : 0 ≤ x5_1
    ·rw [if_pos c4] at H
     have c4b0 : decide (0 ≤ x5_1) = true := decide_eq_true c4
     clear c4
     by_cases c5 : (rd l0 x5_1) < a1
     ·rw [if_pos c5] at H
      have c5b0 : decide ((rd l0 x5_1) < a1) = true := decide_eq_true c5
      clear c5
      have H' := Aside0.mk H
      clear H
      obtain ⟨Ao6, co6, eo6⟩ := Kd.R_slice HO_0.out
      subst eo6
      have p453 : 0 ≤ (x5_1 : Int) := of_decide_eq_true (a7_)
      have q453 : x5_1 < (l0.length : Int) := of_decide_eq_true (a7_)
      obtain ⟨ad453, e453, hx453_0⟩ := Kd.at_int (Kd.R_reads' HO_0.out).2.2 x5_1 p453 q453
      cases e453
      replace p453 := eq_true p453
      replace q453 := eq_true q453
      go_wp2
      go_roundg k1
      case measure => have := HK1.out; omega
      case rel => exact ⟨(wrap64 (x5_1 + 1)), (by first | rfl|(simp;done)|(simp [*];done)), H', ⟨by have := HK1.out; omega⟩, ⟨(a2_ HO_0.out)⟩, ⟨a15_⟩, ⟨a0_⟩⟩
     ·rw [if_neg c5] at H
      have c5b0 : decide ((rd l0 x5_1) < a1) = false := decide_eq_false c5
      clear c5
      by_cases c7 : (rd l0 x5_1) = a1
      ·rw [if_pos c7] at H
       have c7b0 : ((rd l0 x5_1) == a1) = true := beq_iff_eq.mpr c7
       have c7b1 : ((rd l0 x5_1) != a1) = false := bne_eq_false_iff_eq.mpr c7
       clear c7
       obtain rfl := Option.some.inj H
       obtain ⟨Ao8, co8, eo8⟩ := Kd.R_slice HO_0.out
       subst eo8
       have p453 : 0 ≤ (x5_1 : Int) := of_decide_eq_true (a7_)
       have q453 : x5_1 < (l0.length : Int) := of_decide_eq_true (a7_)
       obtain ⟨ad453, e453, hx453_0⟩ := Kd.at_int (Kd.R_reads' HO_0.out).2.2 x5_1 p453 q453
       cases e453
       replace p453 := eq_true p453
       replace q453 := eq_true q453
       have p454 : 0 ≤ (x5_1 : Int) := of_decide_eq_true (a7_)
       have q454 : x5_1 < (l0.length : Int) := of_decide_eq_true (a7_)
       obtain ⟨ad454, e454, hx454_0⟩ := Kd.at_int (Kd.R_reads' HO_0.out).2.2 x5_1 p454 q454
       obtain rfl : ad453 = ad454 := (by injection e454)
       replace p454 := eq_true p454
       replace q454 := eq_true q454
       go_wp2
       go_ret
       exact ⟨_, a5_, (a2_ HO_0.out), a0_, a15_⟩
      ·rw [if_neg c7] at H
       have c7b0 : ((rd l0 x5_1) == a1) = false := beq_eq_false_iff_ne.mpr c7
       have c7b1 : ((rd l0 x5_1) != a1) = true := bne_iff_ne.mpr c7
       obtain ⟨y455, hy455⟩ : ∃ y_ : List Int, y_ = (([] : List Int)) := ⟨_, rfl⟩
       replace H : (if x5_1 ≤ (l0.length : Int) then ((some (l0.take (x5_1 : Int).toNat : List Int)).bind fun y458 => (if y455.length + y458.length < 17592186044416 then ((some (y455 ++ y458 : List Int)).bind fun y462 => (if y462.length < 17592186044416 then ((some (y462 ++ [a1] : List Int)).bind fun y465 => ((some (l0.drop (x5_1 : Int).toNat : List Int)).bind fun y468 => (if y465.length + y468.length < 17592186044416 then (some (y465 ++ y468)) else (none)))) else (none))) else (none))) else (none)) = some r := by first|(rw [hy455]; with_reducible exact H)|(have H2_ := (Option.bind_some _ _).symm.trans H; rw [hy455]; with_reducible exact H2_)|(have H2_ := (Option.bind_some _ _).symm.trans H; with_reducible exact H2_) | with_reducible exact H|(rw [hy455]; exact H)|exact H
       have Ny455 := Aside0.mk hy455
       clear hy455
       have c9b0 := eq_true (of_decide_eq_true (a7_) : 0 ≤ x5_1)
       by_cases c10 : x5_1 ≤ (l0.length : Int)
       ·rw [if_pos c10] at H
        have c10b0 := eq_true c10
        have c10b1 : decide (x5_1 ≤ (l0.length : Int)) = true := decide_eq_true c10
        clear c10
        obtain ⟨y458, hy458⟩ : ∃ y_ : List Int, y_ = (l0.take (x5_1 : Int).toNat) := ⟨_, rfl⟩
        replace H : (if y455.length + y458.length < 17592186044416 then ((some (y455 ++ y458 : List Int)).bind fun y462 => (if y462.length < 17592186044416 then ((some (y462 ++ [a1] : List Int)).bind fun y465 => ((some (l0.drop (x5_1 : Int).toNat : List Int)).bind fun y468 => (if y465.length + y468.length < 17592186044416 then (some (y465 ++ y468)) else (none)))) else (none))) else (none)) = some r := by first|(rw [hy458]; with_reducible exact H)|(have H2_ := (Option.bind_some _ _).symm.trans H; rw [hy458]; with_reducible exact H2_)|(have H2_ := (Option.bind_some _ _).symm.trans H; with_reducible exact H2_) | with_reducible exact H|(rw [hy458]; exact H)|exact H
        have Ny458 := Aside0.mk hy458
        clear hy458
        by_cases c11 : y455.length + y458.length < 17592186044416
        ·rw [if_pos c11] at H
         have LMc11 := Aside0.mk c11
         clear c11
         obtain ⟨y462, hy462⟩ : ∃ y_ : List Int, y_ = (y455 ++ y458) := ⟨_, rfl⟩
         replace H : (if y462.length < 17592186044416 then ((some (y462 ++ [a1] : List Int)).bind fun y465 => ((some (l0.drop (x5_1 : Int).toNat : List Int)).bind fun y468 => (if y465.length + y468.length < 17592186044416 then (some (y465 ++ y468)) else (none)))) else (none)) = some r := by first|(rw [hy462]; with_reducible exact H)|(have H2_ := (Option.bind_some _ _).symm.trans H; rw [hy462]; with_reducible exact H2_)|(have H2_ := (Option.bind_some _ _).symm.trans H; with_reducible exact H2_) | with_reducible exact H|(rw [hy462]; exact H)|exact H
         have Ny462 := Aside0.mk hy462
         clear hy462
         by_cases c12 : y462.length < 17592186044416
         ·rw [if_pos c12] at H
          have LMc12 := Aside0.mk c12
          clear c12
          obtain ⟨y465, hy465⟩ : ∃ y_ : List Int, y_ = (y462 ++ [a1]) := ⟨_, rfl⟩
          replace H : ((some (l0.drop (x5_1 : Int).toNat : List Int)).bind fun y468 => (if y465.length + y468.length < 17592186044416 then (some (y465 ++ y468)) else (none))) = some r := by first|(rw [hy465]; with_reducible exact H)|(have H2_ := (Option.bind_some _ _).symm.trans H; rw [hy465]; with_reducible exact H2_)|(have H2_ := (Option.bind_some _ _).symm.trans H; with_reducible exact H2_) | with_reducible exact H|(rw [hy465]; exact H)|exact H
          have Ny465 := Aside0.mk hy465
          clear hy465
          have c13b0 := eq_true (of_decide_eq_true (a7_) : 0 ≤ x5_1)
          have c14b0 := eq_true (of_decide_eq_true (a7_) : x5_1 ≤ (l0.length : Int))
          obtain ⟨y468, hy468⟩ : ∃ y_ : List Int, y_ = (l0.drop (x5_1 : Int).toNat) := ⟨_, rfl⟩
          replace H : (if y465.length + y468.length < 17592186044416 then (some (y465 ++ y468)) else (none)) = some r := by first|(rw [hy468]; with_reducible exact H)|(have H2_ := (Option.bind_some _ _).symm.trans H; rw [hy468]; with_reducible exact H2_)|(have H2_ := (Option.bind_some _ _).symm.trans H; with_reducible exact H2_) | with_reducible exact H|(rw [hy468]; exact H)|exact H
          have Ny468 := Aside0.mk hy468
          clear hy468
          by_cases c15 : y465.length + y468.length < 17592186044416
          ·rw [if_pos c15] at H
           have LMc15 := Aside0.mk c15
           clear c15
           obtain ⟨y472, hy472⟩ : ∃ y_ : List Int, y_ = (y465 ++ y468) := ⟨_, rfl⟩
           replace H : (some y472) = some r := by first|(rw [hy472]; with_reducible exact H)|(have H2_ := (Option.bind_some _ _).symm.trans H; rw [hy472]; with_reducible exact H2_)|(have H2_ := (Option.bind_some _ _).symm.trans H; with_reducible exact H2_) | with_reducible exact H|(rw [hy472]; exact H)|exact H
           have Ny472 := Aside0.mk hy472
           clear hy472
           obtain rfl := Option.some.inj H
           obtain ⟨Ao16, co16, eo16⟩ := Kd.R_slice HO_0.out
           subst eo16
           have p453 : 0 ≤ (x5_1 : Int) := of_decide_eq_true (a7_)
           have q453 : x5_1 < (l0.length : Int) := of_decide_eq_true (a7_)
           obtain ⟨ad453, e453, hx453_0⟩ := Kd.at_int (Kd.R_reads' HO_0.out).2.2 x5_1 p453 q453
           cases e453
           replace p453 := eq_true p453
           replace q453 := eq_true q453
           have p454 : 0 ≤ (x5_1 : Int) := of_decide_eq_true (a7_)
           have q454 : x5_1 < (l0.length : Int) := of_decide_eq_true (a7_)
           obtain ⟨ad454, e454, hx454_0⟩ := Kd.at_int (Kd.R_reads' HO_0.out).2.2 x5_1 p454 q454
           obtain rfl : ad453 = ad454 := (by injection e454)
           replace p454 := eq_true p454
           replace q454 := eq_true q454
           go_wp2_with (first|((with_reducible refine gate_dst (N := 34) rfl ?_); refine Kd.R_lit (Kd.int .i64) _ 3 ?hg (N := 34) ?hd (xs := ([] : List Int)) (inner := []) (ok := fun _ => True) (okp := fun _ => True) ?hr ?hp (fun _ hk => hk) trivial (Below.refl _ _) (Nat.le_refl _) (by simp) ?_;(case hd => rfl);(case hg => rfl);(case hr => first|(go_simp;done)|(go_simp; rfl));(case hp => exact (Reps.none _ _)); intro v456 w17 ho18 hb hg_ hnew_; clear hg_ hnew_; (first|rw [← Ny455.out] at ho18|(simp only [Int.reduceToNat] at ho18; rw [← Ny455.out] at ho18)); have n0_ := Aside0.mk (Kd.R_elder' ((a2_ HO_0.out)) (Kd.R_base ho18) hb); have n1_ := Aside0.mk (Kd.R_lower (Kd.R_new' (Kd.R_newM (M := fun k_ => (P0_ k_ ∨ w.heap.size ≤ k_)) ho18 (a20_) (fun k_ h_ => .inr h_)) (Kd.R_lt ((a2_ HO_0.out)))) (below_size (a0_))); have n2_ := Aside0.mk (Kept.below (S := (fun k_ => P0_ k_)) (a15_) hb); have n3_ := Aside0.mk (below_step (a0_) hb); clear HO_0; clear HK; clear HB; have HO_0 := n0_; have HO457 := n1_; have HK := n2_; have HB := n3_; clear n0_ n1_ n2_ n3_; clear hb ho18; have q19 : (x5_1 : Int) ≤ ((l0.length : Int) : Int) := of_decide_eq_true (a7_); obtain ⟨i019, hi019, _, hsz19, _⟩ := info_parts info3; have hroom19 : l0.length ≤ co16 := (Kd.R_reads' HO_0.out).2.1; have hC19 : Kd.C (Kd.int .i64) _ (some ad453) l0.length l0 := (Kd.R_reads' HO_0.out).2.2; have hcut19 := cut_to (P := Tryd.prog) 28 3 .i64 Tryd.underlying28 hi019 (some ad453) l0.length co16 x5_1 (of_decide_eq_true (a7_)) q19 hroom19; have hr19 := Kd.C_take (m := (x5_1 : Int).toNat) hC19 (by omega); have hy19 : y458.length = (x5_1 : Int).toNat := (by rw [Ny458.out, List.length_take]; omega); rw [← Ny458.out] at hr19; rw [← hy19] at hcut19; have HR461 := Aside0.mk hr19; have HC461 := Aside0.mk (show y458.length ≤ co16 from by omega); clear hr19 hC19 hroom19 hi019 hsz19; have KY19 := Aside0.mk hy19; clear hy19; have KL19 := Aside0.mk (show (x5_1 : Int).toNat ≤ l0.length from by omega); replace q19 := eq_true q19)|((with_reducible refine gate_builtin (b := .append) (xs := #[.tmp 34, .tmp 37]) rfl ?_); at_builtin; refine Kd.R_append_rows (Kd.int .i64) (w0 := w0) w0.heap.size rfl (.tmp 34) (.tmp 37) 28 3 (.int .i64 0) 8 rfl Tryd.underlying28 info3 rfl (by decide) (by omega) v456 y455 y458 _ _ _ (fun k_ => (P0_ k_ ∨ w.heap.size ≤ k_) ∧ some k_ ≠ (.slice (some ad453) l0.length co16 : Value).ownBlock) (fun _ => False) rfl rfl ?aO ?aR (fun _ _ h => h) (fun _ h => h.elim) ?aF ?aB ?aS ?aL ?_;(case aR => exact (a27_ HR461.out));(case aB => exact (a0_));(case aF => exact (fun k_ hk => ⟨(.inr (Nat.le_trans (a20_) hk)), Kd.fresh' (Kd.R_lt ((a2_ HO_0.out))) k_ hk⟩));(case aO => exact (by (with_reducible repeat (first|apply Kd.R_alloc|apply Kd.R_drewN|apply Kd.R_drew)); exact Kd.R_mono HO457.out (fun _ hk => ⟨hk.1.1, hk.2⟩)));(case aS => exact (below_size (a0_)));(case aL => have := LMc11.out; omega); intro v463 w20 ho hb hg hat; rw [← Ny462.out] at ho; have n0_ := Aside0.mk (Kd.R_after (ok := (fun k_ => (P0_ k_ ∨ w.heap.size ≤ k_))) ((a2_ HO_0.out)) hg hat); have n1_ := Aside0.mk (hb); have n2_ := Aside0.mk (Kept.of_grown (S := (fun k_ => P0_ k_)) hg (a15_) (fun k_ e_ => (HO457.out.1 k_ e_).1.1)); have n3_ := Aside0.mk ((show Kd.C (Kd.int .i64) w20 (some ad453) y458.length y458 from by rw [Ny458.out]; exact Kd.C_take (m := (x5_1 : Int).toNat) ((Kd.R_reads' (Kd.R_after (ok := (fun k_ => (P0_ k_ ∨ w.heap.size ≤ k_))) ((a2_ HO_0.out)) hg hat)).2.2) KL19.out)); have n4_ := Aside0.mk (ho); clear HO_0; clear HB; clear HK; clear HR461; clear HO457; have HO_0 := n0_; have HB := n1_; have HK := n2_; have HR461 := n3_; have HO464 := n4_; clear n0_ n1_ n2_ n3_ n4_; clear ho hb hg hat)|((with_reducible refine gate_builtin (b := .append) (xs := #[.tmp 39, .tmp 41]) rfl ?_); at_builtin; refine Kd.R_append (Kd.int .i64) (w0 := w0) w0.heap.size rfl (.tmp 39) (.tmp 41) 28 3 (.int .i64 0) 8 rfl Tryd.underlying28 info3 rfl (by decide) (by omega) v463 y462 a1 [.int .i64 a1] (fun k_ => (P0_ k_ ∨ w.heap.size ≤ k_) ∧ some k_ ≠ (.slice (some ad453) l0.length co16 : Value).ownBlock) (fun _ => False) rfl rfl ?aP (fun _ hk => hk.elim) ?aF ?aO ?aB ?aS ?aL ?_;(case aP => exact rfl);(case aB => exact (a0_));(case aF => exact (fun k_ hk => ⟨(.inr (Nat.le_trans (a20_) hk)), Kd.fresh' (Kd.R_lt ((a2_ HO_0.out))) k_ hk⟩));(case aO => exact ((a2_ HO464.out)));(case aS => exact (below_size (a0_)));(case aL => have := LMc12.out; omega); intro v466 w21 ho hb hg hat; rw [← Ny465.out] at ho; have n0_ := Aside0.mk (Kd.R_after (ok := (fun k_ => (P0_ k_ ∨ w.heap.size ≤ k_))) ((a2_ HO_0.out)) hg hat); have n1_ := Aside0.mk (hb); have n2_ := Aside0.mk (Kept.of_grown (S := (fun k_ => P0_ k_)) hg (a15_) (fun k_ e_ => (HO464.out.1 k_ e_).1)); have n3_ := Aside0.mk ((show Kd.C (Kd.int .i64) w21 (some ad453) y458.length y458 from by rw [Ny458.out]; exact Kd.C_take (m := (x5_1 : Int).toNat) ((Kd.R_reads' (Kd.R_after (ok := (fun k_ => (P0_ k_ ∨ w.heap.size ≤ k_))) ((a2_ HO_0.out)) hg hat)).2.2) KL19.out)); have n4_ := Aside0.mk (ho); clear HO_0; clear HB; clear HK; clear HR461; clear HO464; have HO_0 := n0_; have HB := n1_; have HK := n2_; have HR461 := n3_; have HO467 := n4_; clear n0_ n1_ n2_ n3_ n4_; clear ho hb hg hat; have q22 : (x5_1 : Int) ≤ ((l0.length : Int) : Int) := of_decide_eq_true (a7_); obtain ⟨i022, hi022, _, hsz22, _⟩ := info_parts info3; have hroom22 : l0.length ≤ co16 := (Kd.R_reads' HO_0.out).2.1; have hC22 : Kd.C (Kd.int .i64) _ (some ad453) l0.length l0 := (Kd.R_reads' HO_0.out).2.2; have q022 : (0 : Int) ≤ (x5_1 : Int) := of_decide_eq_true (a7_); have hcut22 := cut_from (P := Tryd.prog) 28 3 .i64 Tryd.underlying28 hi022 1 hsz22 (some ad453) l0.length co16 x5_1 q022 q22; have hr22 := Kd.C_drop (m := (x5_1 : Int).toNat) (c := co16) hC22 (by omega) hroom22; obtain ⟨A22, hA22⟩ : ∃ A1, A1 = (if co16 = (x5_1 : Int).toNat then (some ad453) else ((some ad453) : Option Addr).map (·.add ((x5_1 : Int).toNat * 1))) := ⟨_, rfl⟩; obtain ⟨c22, hc22⟩ : ∃ c1, c1 = co16 - (x5_1 : Int).toNat := ⟨_, rfl⟩; have hy22 : y468.length = l0.length - (x5_1 : Int).toNat := (by rw [Ny468.out, List.length_drop] <;> omega); rw [show (l0).drop (x5_1 : Int).toNat = y468 from Ny468.out.symm] at hr22; replace hr22 : Kd.C (Kd.int .i64) _ A22 y468.length y468 := (by rw [hA22]; exact hr22); rw [← hy22, ← hA22, ← hc22] at hcut22; have HR471 := Aside0.mk hr22; have HC471 := Aside0.mk (show y468.length ≤ c22 from by rw [hy22, hc22]; exact Nat.sub_le_sub_right hroom22 _); clear hr22 hC22 hroom22 hi022 hsz22 hc22; have KY22 := Aside0.mk hy22; have KA22 := Aside0.mk hA22; clear hy22 hA22; have KL22 := Aside0.mk (show (x5_1 : Int).toNat ≤ l0.length from by omega); replace q22 := eq_true q22)|((with_reducible refine gate_builtin (b := .append) (xs := #[.tmp 43, .tmp 46]) rfl ?_); at_builtin; refine Kd.R_append_rows (Kd.int .i64) (w0 := w0) w0.heap.size rfl (.tmp 43) (.tmp 46) 28 3 (.int .i64 0) 8 rfl Tryd.underlying28 info3 rfl (by decide) (by omega) v466 y465 y468 _ _ _ (fun k_ => (P0_ k_ ∨ w.heap.size ≤ k_) ∧ some k_ ≠ (.slice (some ad453) l0.length co16 : Value).ownBlock) (fun _ => False) rfl rfl ?aO ?aR (fun _ _ h => h) (fun _ h => h.elim) ?aF ?aB ?aS ?aL ?_;(case aR => exact (a27_ HR471.out));(case aB => exact (a0_));(case aF => exact (fun k_ hk => ⟨(.inr (Nat.le_trans (a20_) hk)), Kd.fresh' (Kd.R_lt ((a2_ HO_0.out))) k_ hk⟩));(case aO => exact ((a2_ HO467.out)));(case aS => exact (below_size (a0_)));(case aL => have := LMc15.out; omega); intro v473 w23 ho hb hg hat; rw [← Ny472.out] at ho; have n0_ := Aside0.mk (Kd.R_after (ok := (fun k_ => (P0_ k_ ∨ w.heap.size ≤ k_))) ((a2_ HO_0.out)) hg hat); have n1_ := Aside0.mk (hb); have n2_ := Aside0.mk (Kept.of_grown (S := (fun k_ => P0_ k_)) hg (a15_) (fun k_ e_ => (HO467.out.1 k_ e_).1)); have n3_ := Aside0.mk ((show Kd.C (Kd.int .i64) w23 (some ad453) y458.length y458 from by rw [Ny458.out]; exact Kd.C_take (m := (x5_1 : Int).toNat) ((Kd.R_reads' (Kd.R_after (ok := (fun k_ => (P0_ k_ ∨ w.heap.size ≤ k_))) ((a2_ HO_0.out)) hg hat)).2.2) KL19.out)); have n4_ := Aside0.mk ((show Kd.C (Kd.int .i64) w23 A22 y468.length y468 from by rw [Ny468.out, KA22.out]; exact Kd.C_drop (m := (x5_1 : Int).toNat) (c := co16) ((Kd.R_reads' (Kd.R_after (ok := (fun k_ => (P0_ k_ ∨ w.heap.size ≤ k_))) ((a2_ HO_0.out)) hg hat)).2.2) KL22.out ((Kd.R_reads' (Kd.R_after (ok := (fun k_ => (P0_ k_ ∨ w.heap.size ≤ k_))) ((a2_ HO_0.out)) hg hat)).2.1))); have n5_ := Aside0.mk (ho); clear HO_0; clear HB; clear HK; clear HR461; clear HR471; clear HO467; have HO_0 := n0_; have HB := n1_; have HK := n2_; have HR461 := n3_; have HR471 := n4_; have HO474 := n5_; clear n0_ n1_ n2_ n3_ n4_ n5_; clear ho hb hg hat))
           go_ret
           exact ⟨_, a5_, by (with_reducible repeat (first|apply Kd.R_alloc|apply Kd.R_drewN|apply Kd.R_drew)); exact Kd.R_mono HO474.out (fun _ hk => hk.1), a0_, a15_⟩
          ·rw [if_neg c15] at H
           exact absurd H (by simp)
         ·rw [if_neg c12] at H
          exact absurd H (by simp)
        ·rw [if_neg c11] at H
         exact absurd H (by simp)
       ·rw [if_neg c10] at H
        exact absurd H (by simp)
    ·rw [if_neg c4] at H
     exact absurd H (by simp)
   ·rw [if_neg c3] at H
    have c3b0 : decide (x5_1 < (l0.length : Int)) = false := decide_eq_false c3
    clear c3
    obtain ⟨y475, hy475⟩ : ∃ y_ : List Int, y_ = (([] : List Int)) := ⟨_, rfl⟩
    replace H : (if 0 ≤ x5_1 then (if x5_1 ≤ (l0.length : Int) then ((some (l0.take (x5_1 : Int).toNat : List Int)).bind fun y478 => (if y475.length + y478.length < 17592186044416 then ((some (y475 ++ y478 : List Int)).bind fun y482 => (if y482.length < 17592186044416 then ((some (y482 ++ [a1] : List Int)).bind fun y485 => ((some (l0.drop (x5_1 : Int).toNat : List Int)).bind fun y488 => (if y485.length + y488.length < 17592186044416 then (some (y485 ++ y488)) else (none)))) else (none))) else (none))) else (none)) else (none)) = some r := by first|(rw [hy475]; with_reducible exact H)|(have H2_ := (Option.bind_some _ _).symm.trans H; rw [hy475]; with_reducible exact H2_)|(have H2_ := (Option.bind_some _ _).symm.trans H; with_reducible exact H2_) | with_reducible exact H|(rw [hy475]; exact H)|exact H
    have Ny475 := Aside0.mk hy475
    clear hy475
    by_cases c24 : 0 ≤ x5_1
    ·rw [if_pos c24] at H
     have c24b0 := eq_true c24
     have c24b1 : decide (0 ≤ x5_1) = true := decide_eq_true c24
     clear c24
     by_cases c25 : x5_1 ≤ (l0.length : Int)
     ·rw [if_pos c25] at H
      have c25b0 := eq_true c25
      have c25b1 : decide (x5_1 ≤ (l0.length : Int)) = true := decide_eq_true c25
      clear c25
      obtain ⟨y478, hy478⟩ : ∃ y_ : List Int, y_ = (l0.take (x5_1 : Int).toNat) := ⟨_, rfl⟩
      replace H : (if y475.length + y478.length < 17592186044416 then ((some (y475 ++ y478 : List Int)).bind fun y482 => (if y482.length < 17592186044416 then ((some (y482 ++ [a1] : List Int)).bind fun y485 => ((some (l0.drop (x5_1 : Int).toNat : List Int)).bind fun y488 => (if y485.length + y488.length < 17592186044416 then (some (y485 ++ y488)) else (none)))) else (none))) else (none)) = some r := by first|(rw [hy478]; with_reducible exact H)|(have H2_ := (Option.bind_some _ _).symm.trans H; rw [hy478]; with_reducible exact H2_)|(have H2_ := (Option.bind_some _ _).symm.trans H; with_reducible exact H2_) | with_reducible exact H|(rw [hy478]; exact H)|exact H
      have Ny478 := Aside0.mk hy478
      clear hy478
      by_cases c26 : y475.length + y478.length < 17592186044416
      ·rw [if_pos c26] at H
       have LMc26 := Aside0.mk c26
       clear c26
       obtain ⟨y482, hy482⟩ : ∃ y_ : List Int, y_ = (y475 ++ y478) := ⟨_, rfl⟩
       replace H : (if y482.length < 17592186044416 then ((some (y482 ++ [a1] : List Int)).bind fun y485 => ((some (l0.drop (x5_1 : Int).toNat : List Int)).bind fun y488 => (if y485.length + y488.length < 17592186044416 then (some (y485 ++ y488)) else (none)))) else (none)) = some r := by first|(rw [hy482]; with_reducible exact H)|(have H2_ := (Option.bind_some _ _).symm.trans H; rw [hy482]; with_reducible exact H2_)|(have H2_ := (Option.bind_some _ _).symm.trans H; with_reducible exact H2_) | with_reducible exact H|(rw [hy482]; exact H)|exact H
       have Ny482 := Aside0.mk hy482
       clear hy482
       by_cases c27 : y482.length < 17592186044416
       ·rw [if_pos c27] at H
        have LMc27 := Aside0.mk c27
        clear c27
        obtain ⟨y485, hy485⟩ : ∃ y_ : List Int, y_ = (y482 ++ [a1]) := ⟨_, rfl⟩
        replace H : ((some (l0.drop (x5_1 : Int).toNat : List Int)).bind fun y488 => (if y485.length + y488.length < 17592186044416 then (some (y485 ++ y488)) else (none))) = some r := by first|(rw [hy485]; with_reducible exact H)|(have H2_ := (Option.bind_some _ _).symm.trans H; rw [hy485]; with_reducible exact H2_)|(have H2_ := (Option.bind_some _ _).symm.trans H; with_reducible exact H2_) | with_reducible exact H|(rw [hy485]; exact H)|exact H
        have Ny485 := Aside0.mk hy485
        clear hy485
        have c28b0 := eq_true (of_decide_eq_true (a7_) : 0 ≤ x5_1)
        have c29b0 := eq_true (of_decide_eq_true (a7_) : x5_1 ≤ (l0.length : Int))
        obtain ⟨y488, hy488⟩ : ∃ y_ : List Int, y_ = (l0.drop (x5_1 : Int).toNat) := ⟨_, rfl⟩
        replace H : (if y485.length + y488.length < 17592186044416 then (some (y485 ++ y488)) else (none)) = some r := by first|(rw [hy488]; with_reducible exact H)|(have H2_ := (Option.bind_some _ _).symm.trans H; rw [hy488]; with_reducible exact H2_)|(have H2_ := (Option.bind_some _ _).symm.trans H; with_reducible exact H2_) | with_reducible exact H|(rw [hy488]; exact H)|exact H
        have Ny488 := Aside0.mk hy488
        clear hy488
        by_cases c30 : y485.length + y488.length < 17592186044416
        ·rw [if_pos c30] at H
         have LMc30 := Aside0.mk c30
         clear c30
         obtain ⟨y492, hy492⟩ : ∃ y_ : List Int, y_ = (y485 ++ y488) := ⟨_, rfl⟩
         replace H : (some y492) = some r := by first|(rw [hy492]; with_reducible exact H)|(have H2_ := (Option.bind_some _ _).symm.trans H; rw [hy492]; with_reducible exact H2_)|(have H2_ := (Option.bind_some _ _).symm.trans H; with_reducible exact H2_) | with_reducible exact H|(rw [hy492]; exact H)|exact H
         have Ny492 := Aside0.mk hy492
         clear hy492
         obtain rfl := Option.some.inj H
         obtain ⟨Ao31, co31, eo31⟩ := Kd.R_slice HO_0.out
         subst eo31
         go_wp2_with (first|((with_reducible refine gate_dst (N := 34) rfl ?_); refine Kd.R_lit (Kd.int .i64) _ 3 ?hg (N := 34) ?hd (xs := ([] : List Int)) (inner := []) (ok := fun _ => True) (okp := fun _ => True) ?hr ?hp (fun _ hk => hk) trivial (Below.refl _ _) (Nat.le_refl _) (by simp) ?_;(case hd => rfl);(case hg => rfl);(case hr => first|(go_simp;done)|(go_simp; rfl));(case hp => exact (Reps.none _ _)); intro v476 w32 ho33 hb hg_ hnew_; clear hg_ hnew_; (first|rw [← Ny475.out] at ho33|(simp only [Int.reduceToNat] at ho33; rw [← Ny475.out] at ho33)); have n0_ := Aside0.mk (Kd.R_elder' ((a2_ HO_0.out)) (Kd.R_base ho33) hb); have n1_ := Aside0.mk (Kd.R_lower (Kd.R_new' (Kd.R_newM (M := fun k_ => (P0_ k_ ∨ w.heap.size ≤ k_)) ho33 (a20_) (fun k_ h_ => .inr h_)) (Kd.R_lt ((a2_ HO_0.out)))) (below_size (a0_))); have n2_ := Aside0.mk (Kept.below (S := (fun k_ => P0_ k_)) (a15_) hb); have n3_ := Aside0.mk (below_step (a0_) hb); clear HO_0; clear HK; clear HB; have HO_0 := n0_; have HO477 := n1_; have HK := n2_; have HB := n3_; clear n0_ n1_ n2_ n3_; clear hb ho33; have q34 : (x5_1 : Int) ≤ ((l0.length : Int) : Int) := of_decide_eq_true (a7_); obtain ⟨i034, hi034, _, hsz34, _⟩ := info_parts info3; have hroom34 : l0.length ≤ co31 := (Kd.R_reads' HO_0.out).2.1; have hC34 : Kd.C (Kd.int .i64) _ Ao31 l0.length l0 := (Kd.R_reads' HO_0.out).2.2; have hcut34 := cut_to (P := Tryd.prog) 28 3 .i64 Tryd.underlying28 hi034 Ao31 l0.length co31 x5_1 (of_decide_eq_true (a7_)) q34 hroom34; have hr34 := Kd.C_take (m := (x5_1 : Int).toNat) hC34 (by omega); have hy34 : y478.length = (x5_1 : Int).toNat := (by rw [Ny478.out, List.length_take]; omega); rw [← Ny478.out] at hr34; rw [← hy34] at hcut34; have HR481 := Aside0.mk hr34; have HC481 := Aside0.mk (show y478.length ≤ co31 from by omega); clear hr34 hC34 hroom34 hi034 hsz34; have KY34 := Aside0.mk hy34; clear hy34; have KL34 := Aside0.mk (show (x5_1 : Int).toNat ≤ l0.length from by omega); replace q34 := eq_true q34)|((with_reducible refine gate_builtin (b := .append) (xs := #[.tmp 34, .tmp 37]) rfl ?_); at_builtin; refine Kd.R_append_rows (Kd.int .i64) (w0 := w0) w0.heap.size rfl (.tmp 34) (.tmp 37) 28 3 (.int .i64 0) 8 rfl Tryd.underlying28 info3 rfl (by decide) (by omega) v476 y475 y478 _ _ _ (fun k_ => (P0_ k_ ∨ w.heap.size ≤ k_) ∧ some k_ ≠ (.slice Ao31 l0.length co31 : Value).ownBlock) (fun _ => False) rfl rfl ?aO ?aR (fun _ _ h => h) (fun _ h => h.elim) ?aF ?aB ?aS ?aL ?_;(case aR => exact (a27_ HR481.out));(case aB => exact (a0_));(case aF => exact (fun k_ hk => ⟨(.inr (Nat.le_trans (a20_) hk)), Kd.fresh' (Kd.R_lt ((a2_ HO_0.out))) k_ hk⟩));(case aO => exact (by (with_reducible repeat (first|apply Kd.R_alloc|apply Kd.R_drewN|apply Kd.R_drew)); exact Kd.R_mono HO477.out (fun _ hk => ⟨hk.1.1, hk.2⟩)));(case aS => exact (below_size (a0_)));(case aL => have := LMc26.out; omega); intro v483 w35 ho hb hg hat; rw [← Ny482.out] at ho; have n0_ := Aside0.mk (Kd.R_after (ok := (fun k_ => (P0_ k_ ∨ w.heap.size ≤ k_))) ((a2_ HO_0.out)) hg hat); have n1_ := Aside0.mk (hb); have n2_ := Aside0.mk (Kept.of_grown (S := (fun k_ => P0_ k_)) hg (a15_) (fun k_ e_ => (HO477.out.1 k_ e_).1.1)); have n3_ := Aside0.mk ((show Kd.C (Kd.int .i64) w35 Ao31 y478.length y478 from by rw [Ny478.out]; exact Kd.C_take (m := (x5_1 : Int).toNat) ((Kd.R_reads' (Kd.R_after (ok := (fun k_ => (P0_ k_ ∨ w.heap.size ≤ k_))) ((a2_ HO_0.out)) hg hat)).2.2) KL34.out)); have n4_ := Aside0.mk (ho); clear HO_0; clear HB; clear HK; clear HR481; clear HO477; have HO_0 := n0_; have HB := n1_; have HK := n2_; have HR481 := n3_; have HO484 := n4_; clear n0_ n1_ n2_ n3_ n4_; clear ho hb hg hat)|((with_reducible refine gate_builtin (b := .append) (xs := #[.tmp 39, .tmp 41]) rfl ?_); at_builtin; refine Kd.R_append (Kd.int .i64) (w0 := w0) w0.heap.size rfl (.tmp 39) (.tmp 41) 28 3 (.int .i64 0) 8 rfl Tryd.underlying28 info3 rfl (by decide) (by omega) v483 y482 a1 [.int .i64 a1] (fun k_ => (P0_ k_ ∨ w.heap.size ≤ k_) ∧ some k_ ≠ (.slice Ao31 l0.length co31 : Value).ownBlock) (fun _ => False) rfl rfl ?aP (fun _ hk => hk.elim) ?aF ?aO ?aB ?aS ?aL ?_;(case aP => exact rfl);(case aB => exact (a0_));(case aF => exact (fun k_ hk => ⟨(.inr (Nat.le_trans (a20_) hk)), Kd.fresh' (Kd.R_lt ((a2_ HO_0.out))) k_ hk⟩));(case aO => exact ((a2_ HO484.out)));(case aS => exact (below_size (a0_)));(case aL => have := LMc27.out; omega); intro v486 w36 ho hb hg hat; rw [← Ny485.out] at ho; have n0_ := Aside0.mk (Kd.R_after (ok := (fun k_ => (P0_ k_ ∨ w.heap.size ≤ k_))) ((a2_ HO_0.out)) hg hat); have n1_ := Aside0.mk (hb); have n2_ := Aside0.mk (Kept.of_grown (S := (fun k_ => P0_ k_)) hg (a15_) (fun k_ e_ => (HO484.out.1 k_ e_).1)); have n3_ := Aside0.mk ((show Kd.C (Kd.int .i64) w36 Ao31 y478.length y478 from by rw [Ny478.out]; exact Kd.C_take (m := (x5_1 : Int).toNat) ((Kd.R_reads' (Kd.R_after (ok := (fun k_ => (P0_ k_ ∨ w.heap.size ≤ k_))) ((a2_ HO_0.out)) hg hat)).2.2) KL34.out)); have n4_ := Aside0.mk (ho); clear HO_0; clear HB; clear HK; clear HR481; clear HO484; have HO_0 := n0_; have HB := n1_; have HK := n2_; have HR481 := n3_; have HO487 := n4_; clear n0_ n1_ n2_ n3_ n4_; clear ho hb hg hat; have q37 : (x5_1 : Int) ≤ ((l0.length : Int) : Int) := of_decide_eq_true (a7_); obtain ⟨i037, hi037, _, hsz37, _⟩ := info_parts info3; have hroom37 : l0.length ≤ co31 := (Kd.R_reads' HO_0.out).2.1; have hC37 : Kd.C (Kd.int .i64) _ Ao31 l0.length l0 := (Kd.R_reads' HO_0.out).2.2; have q037 : (0 : Int) ≤ (x5_1 : Int) := of_decide_eq_true (a7_); have hcut37 := cut_from (P := Tryd.prog) 28 3 .i64 Tryd.underlying28 hi037 1 hsz37 Ao31 l0.length co31 x5_1 q037 q37; have hr37 := Kd.C_drop (m := (x5_1 : Int).toNat) (c := co31) hC37 (by omega) hroom37; obtain ⟨A37, hA37⟩ : ∃ A1, A1 = (if co31 = (x5_1 : Int).toNat then Ao31 else (Ao31 : Option Addr).map (·.add ((x5_1 : Int).toNat * 1))) := ⟨_, rfl⟩; obtain ⟨c37, hc37⟩ : ∃ c1, c1 = co31 - (x5_1 : Int).toNat := ⟨_, rfl⟩; have hy37 : y488.length = l0.length - (x5_1 : Int).toNat := (by rw [Ny488.out, List.length_drop] <;> omega); rw [show (l0).drop (x5_1 : Int).toNat = y488 from Ny488.out.symm] at hr37; replace hr37 : Kd.C (Kd.int .i64) _ A37 y488.length y488 := (by rw [hA37]; exact hr37); rw [← hy37, ← hA37, ← hc37] at hcut37; have HR491 := Aside0.mk hr37; have HC491 := Aside0.mk (show y488.length ≤ c37 from by rw [hy37, hc37]; exact Nat.sub_le_sub_right hroom37 _); clear hr37 hC37 hroom37 hi037 hsz37 hc37; have KY37 := Aside0.mk hy37; have KA37 := Aside0.mk hA37; clear hy37 hA37; have KL37 := Aside0.mk (show (x5_1 : Int).toNat ≤ l0.length from by omega); replace q37 := eq_true q37)|((with_reducible refine gate_builtin (b := .append) (xs := #[.tmp 43, .tmp 46]) rfl ?_); at_builtin; refine Kd.R_append_rows (Kd.int .i64) (w0 := w0) w0.heap.size rfl (.tmp 43) (.tmp 46) 28 3 (.int .i64 0) 8 rfl Tryd.underlying28 info3 rfl (by decide) (by omega) v486 y485 y488 _ _ _ (fun k_ => (P0_ k_ ∨ w.heap.size ≤ k_) ∧ some k_ ≠ (.slice Ao31 l0.length co31 : Value).ownBlock) (fun _ => False) rfl rfl ?aO ?aR (fun _ _ h => h) (fun _ h => h.elim) ?aF ?aB ?aS ?aL ?_;(case aR => exact (a27_ HR491.out));(case aB => exact (a0_));(case aF => exact (fun k_ hk => ⟨(.inr (Nat.le_trans (a20_) hk)), Kd.fresh' (Kd.R_lt ((a2_ HO_0.out))) k_ hk⟩));(case aO => exact ((a2_ HO487.out)));(case aS => exact (below_size (a0_)));(case aL => have := LMc30.out; omega); intro v493 w38 ho hb hg hat; rw [← Ny492.out] at ho; have n0_ := Aside0.mk (Kd.R_after (ok := (fun k_ => (P0_ k_ ∨ w.heap.size ≤ k_))) ((a2_ HO_0.out)) hg hat); have n1_ := Aside0.mk (hb); have n2_ := Aside0.mk (Kept.of_grown (S := (fun k_ => P0_ k_)) hg (a15_) (fun k_ e_ => (HO487.out.1 k_ e_).1)); have n3_ := Aside0.mk ((show Kd.C (Kd.int .i64) w38 Ao31 y478.length y478 from by rw [Ny478.out]; exact Kd.C_take (m := (x5_1 : Int).toNat) ((Kd.R_reads' (Kd.R_after (ok := (fun k_ => (P0_ k_ ∨ w.heap.size ≤ k_))) ((a2_ HO_0.out)) hg hat)).2.2) KL34.out)); have n4_ := Aside0.mk ((show Kd.C (Kd.int .i64) w38 A37 y488.length y488 from by rw [Ny488.out, KA37.out]; exact Kd.C_drop (m := (x5_1 : Int).toNat) (c := co31) ((Kd.R_reads' (Kd.R_after (ok := (fun k_ => (P0_ k_ ∨ w.heap.size ≤ k_))) ((a2_ HO_0.out)) hg hat)).2.2) KL37.out ((Kd.R_reads' (Kd.R_after (ok := (fun k_ => (P0_ k_ ∨ w.heap.size ≤ k_))) ((a2_ HO_0.out)) hg hat)).2.1))); have n5_ := Aside0.mk (ho); clear HO_0; clear HB; clear HK; clear HR481; clear HR491; clear HO487; have HO_0 := n0_; have HB := n1_; have HK := n2_; have HR481 := n3_; have HR491 := n4_; have HO494 := n5_; clear n0_ n1_ n2_ n3_ n4_ n5_; clear ho hb hg hat))
         go_ret
         exact ⟨_, a5_, by (with_reducible repeat (first|apply Kd.R_alloc|apply Kd.R_drewN|apply Kd.R_drew)); exact Kd.R_mono HO494.out (fun _ hk => hk.1), a0_, a15_⟩
        ·rw [if_neg c30] at H
         exact absurd H (by simp)
       ·rw [if_neg c27] at H
        exact absurd H (by simp)
      ·rw [if_neg c26] at H
       exact absurd H (by simp)
     ·rw [if_neg c25] at H
      exact absurd H (by simp)
    ·rw [if_neg c24] at H
     exact absurd H (by simp)

/-! ### spec_UsedSources: function 37 -/
def spec_UsedSources.l0 : Nat → List Int → List (S93) → Int → Int → Option (List Int × Bool)
 | 0, _, _, _, _ => none
 | k + 1, x4, x10, x11, x12 => if x12 < x11 then (if 0 ≤ x12 then (if x12 < (x10.length : Int) then ((spec_l1Put.f k x4 ((rd_T93 x10 x12).f0)).bind fun t498 => (spec_UsedSources.l0 k t498 x10 x11 (wrap64 (x12 + 1)))) else (none)) else (none)) else (some (x4, true))
def spec_UsedSources.f (k : Nat) (l0 : List (S93)) : Option (List Int × Bool) := (spec_edGood.f k l0).bind fun t495 => (if t495 = true then (spec_UsedSources.l0 k ([] : List Int) l0 (l0.length : Int) 0) else (some (([] : List Int), false)))
theorem spec_UsedSources.mono_l : ∀ k, (∀ y0 y1 y2 y3, LeO (spec_UsedSources.l0 k y0 y1 y2 y3) (spec_UsedSources.l0 (k + 1) y0 y1 y2 y3))
 | 0 => fun _ _ _ _ r h => by simp [spec_UsedSources.l0] at h
 | k + 1 => by
  have ih0 := spec_UsedSources.mono_l k
  ·intro y0 y1 y2 y3
   unfold spec_UsedSources.l0
   repeat' first
   |(with_reducible exact ih0 _ _ _ _)
   |(with_reducible exact spec_edGood.mono _ _)
   |(with_reducible exact spec_l1Put.mono _ _ _)
   |(with_reducible exact LeO.refl _)
   |(with_reducible exact LeO.none _)
   |(with_reducible refine LeO.ite ?_ ?_)
   |(with_reducible refine LeO.bind ?_ (fun _ => ?_))
   |exact ih0 _ _ _ _
   |exact spec_edGood.mono _ _
   |exact spec_l1Put.mono _ _ _
   |exact LeO.none _
    | refine LeO.ite ?_ ?_
    | refine LeO.bind ?_ (fun _ => ?_)
theorem spec_UsedSources.mono : ∀ a0 k, LeO (spec_UsedSources.f k a0) (spec_UsedSources.f (k + 1) a0) := by
 intro a0 k
 have ih0 := spec_UsedSources.mono_l k
 unfold spec_UsedSources.f
 repeat' first
  |(with_reducible exact ih0 _ _ _ _)
  |(with_reducible exact spec_edGood.mono _ _)
  |(with_reducible exact spec_l1Put.mono _ _ _)
  |(with_reducible exact LeO.refl _)
  |(with_reducible exact LeO.none _)
  |(with_reducible refine LeO.ite ?_ ?_)
  |(with_reducible refine LeO.bind ?_ (fun _ => ?_))
  |exact ih0 _ _ _ _
  |exact spec_edGood.mono _ _
  |exact spec_l1Put.mono _ _ _
  |exact LeO.none _
   | refine LeO.ite ?_ ?_
   | refine LeO.bind ?_ (fun _ => ?_)
set_option maxHeartbeats 8000000 in
set_option maxRecDepth 100000 in
theorem spec_UsedSources.calls (k : Nat) (A0 : Option Addr) (c0 : Nat) (l0 : List (S93)) (r1 : List Int) (r2 : Bool) (w : World) (hr0 : Kd.C k93 w A0 l0.length l0) (hc0 : l0.length ≤ c0) (h : spec_UsedSources.f k l0 = some (r1, r2)) :
 Calls Tryd.prog 37 #[.slice A0 l0.length c0] w fun e w' => ∃ v0_ : Value, e = .returned (.tuple #[v0_, .bool r2]) ∧ Kd.R (Kd.int .i64) 3 w' w.heap.size (fun _ => True) v0_ r1 ∧ Below w.heap.size w w' := by
 have hu93 := Tryd.underlying93
 have HR0 := Aside0.mk hr0
 have HC0 := Aside0.mk hc0
 clear hr0 hc0
 have HB := Aside0.mk (Below.refl w.heap.size w)
 have H : ((spec_edGood.f k l0).bind fun t495 => (if t495 = true then (spec_UsedSources.l0 k ([] : List Int) l0 (l0.length : Int) 0) else (some (([] : List Int), false)))) = some (r1, r2) := h
 clear h
 replace H := Option.bind_eq_some_iff.mp H
 obtain ⟨t495, A20, H⟩ := H
 try dsimp only at H
 have A2 := Aside0.mk A20
 clear A20
 by_cases c3 : t495 = true
 ·subst c3
  have H1 : (spec_UsedSources.l0 k ([] : List Int) l0 (l0.length : Int) 0) = some (r1, r2) := by rw [if_pos rfl] at H; exact H
  clear H
  have H := H1
  clear H1
  have H' := Aside0.mk H
  clear H
  go_enter Tryd.func37, Tryd.ntmps37
  go_wp2_with (first|((with_reducible refine gate_callee (f := 93) rfl ?_); refine goesL_ (some 8) rfl rfl Tryd.func93 (by kernel_rfl) rfl #[.slice A0 l0.length c0] rfl (by (try simp only [List.map_toArray, List.map_cons, List.map_nil]); first | done | rfl|(simp only [List.length_drop, List.length_take]; rfl)) ?_; (with_reducible refine (spec_edGood.calls k _ _ l0 true _ ?side1 ?side2 A2.out).mono ?_);(case side1 => exact (a10_ HR0.out));(case side2 => exact HC0.out); rintro e w4 ⟨rfl, hb⟩; refine ⟨_, rfl, ?_⟩; have n0_ := Aside0.mk (below_step (a0_) hb); clear HB; have HB := n0_; clear n0_; (try clear hb); (try clear hb2); (try clear hk); (try clear hi)))
  (try simp only [Act.put, List.setIfInBounds_toArray, List.set_cons_zero, List.set_cons_succ])
  go_loopg [4, 12] k (fun kq v4 v12 w' => ∃ (x4_1 : List Int) (x12_1 : Int), v12 = .int .i64 x12_1 ∧ Aside0 (spec_UsedSources.l0 kq x4_1 l0 (l0.length : Int) x12_1 = some (r1, r2)) ∧ Aside0 (kq ≤ k) ∧ Aside0 (Kd.R (Kd.int .i64) 3 w' w.heap.size (fun _ => True) v4 x4_1) ∧ Aside0 (Below w.heap.size w w'))
  case atStart => exact ⟨(([] : List Int)), (0), (by first | rfl|(simp;done)|(simp [*];done)), H', ⟨Nat.le_refl _⟩, ⟨a19_⟩, ⟨a0_⟩⟩
  case round =>
   clear H'
   try clear p2
   try clear c3
   obtain ⟨x4_1, x12_1, rfl, HA, HK1, HO_4, HB⟩ := hrel
   cases gk with
   | zero => exact absurd HA.out (by simp [spec_UsedSources.l0])
   | succ k1 =>
    have H := HA.out
    clear HA
    simp only [spec_UsedSources.l0] at H
    by_cases c5 : x12_1 < (l0.length : Int)
    ·rw [if_pos c5] at H
     have c5b0 : decide (x12_1 < (l0.length : Int)) = true := decide_eq_true c5
     clear c5
     by_cases c6 : 0 ≤ x12_1
     ·rw [if_pos c6] at H
      have c6b0 : decide (0 ≤ x12_1) = true := decide_eq_true c6
      clear c6
      by_cases c7 : x12_1 < (l0.length : Int)
      ·rw [if_pos c7] at H
       have c7b0 : decide (x12_1 < (l0.length : Int)) = true := decide_eq_true c7
       clear c7
       replace H := Option.bind_eq_some_iff.mp H
       obtain ⟨t498, A80, H⟩ := H
       try dsimp only at H
       have A8 := Aside0.mk A80
       clear A80
       have H' := Aside0.mk H
       clear H
       have p496 : 0 ≤ (x12_1 : Int) := of_decide_eq_true (a7_)
       have q496 : x12_1 < (l0.length : Int) := of_decide_eq_true (a7_)
       obtain ⟨ad496, e496, hx496_0, hx496_1, hx496_2⟩ := at_T93 HR0.out x12_1 p496 q496
       cases e496
       replace hx496_0 := (HB.out.cell (World.block_lt_of_cell? w _ hx496_0)).trans hx496_0
       replace hx496_1 := (HB.out.cell (World.block_lt_of_cell? w _ hx496_1)).trans hx496_1
       replace hx496_2 := (HB.out.cell (World.block_lt_of_cell? w _ hx496_2)).trans hx496_2
       replace p496 := eq_true p496
       replace q496 := eq_true q496
       go_wp2_with (first|((with_reducible refine gate_dst (N := 6) rfl ?_); refine box_event ?hg (N := 6) ?hd (cs := #[.int .i64 0, .int .i64 0, .int .i64 0]) (t := 93) ?hr ?_;(case hd => rfl);(case hg => rfl);(case hr => first|(go_simp;done)|(go_simp; rfl)); intro gb497 hg w9 hbox hb; have n0_ := Aside0.mk (Kd.R_below ((a2_ HO_4.out)) hb); have n1_ := Aside0.mk (below_step (a0_) hb); have n2_ := Aside0.mk (hbox); have n3_ := Aside0.mk ((by rw [hg]; exact (below_size (a0_)) : w.heap.size ≤ gb497)); have n4_ := Aside0.mk ((by rw [hg]; exact (below_size (a0_)) : w.heap.size ≤ gb497)); clear HO_4; clear HB; have HO_4 := n0_; have HB := n1_; have BK497 := n2_; have GW497 := n3_; have GE497 := n4_; clear n0_ n1_ n2_ n3_ n4_; clear hb hbox hg; have hcz10_0 : w9.cell? ⟨gb497, 0, none⟩ = some (.int .i64 0) := (blk_cell BK497.out 0).trans rfl; have hcz10_1 : w9.cell? ⟨gb497, 1, none⟩ = some (.int .i64 0) := (blk_cell BK497.out 1).trans rfl; have hcz10_2 : w9.cell? ⟨gb497, 2, none⟩ = some (.int .i64 0) := (blk_cell BK497.out 2).trans rfl; have hfz10_0 := blk_frozen BK497.out 0; have hfz10_1 := blk_frozen BK497.out 1; have hfz10_2 := blk_frozen BK497.out 2)|((with_reducible refine gate_store (t := 93) (p := 6) rfl ?_); refine store_event (t := 93) (p := 6) (v := ?vo_w11) (w1 := (((w9.setCell ⟨gb497, 0, none⟩ (.int .i64 ((rd_T93 l0 x12_1).f0))).setCell ⟨gb497, 1, none⟩ (.int .i64 ((rd_T93 l0 x12_1).f1))).setCell ⟨gb497, 2, none⟩ (.int .i64 ((rd_T93 l0 x12_1).f2)))) ?hg ?ho ?hn ?hr ?_;(case ho => rfl);(case hg => rfl);(case hn => rfl);(case hr => first|(go_simp;done)|(go_simp; rfl)); intro w11 hw; have n0_ : Aside0 (Kd.R (Kd.int .i64) 3 w11 w.heap.size (fun _ => True) u4 x4_1) := ⟨(by rw [hw]; exact (by (with_reducible repeat (first|apply Kd.R_alloc|apply Kd.R_drewN|apply Kd.R_drew)); exact Kd.R_mono (Kd.R_far (p := ⟨gb497, 2, none⟩) (Kd.R_far (p := ⟨gb497, 1, none⟩) (Kd.R_far (p := ⟨gb497, 0, none⟩) (Kd.R_types HO_4.out BK497.out (by decide)) (fun _ hk => hk.2) (.int .i64 ((rd_T93 l0 x12_1).f0))) (fun _ hk => hk.2) (.int .i64 ((rd_T93 l0 x12_1).f1))) (fun _ hk => hk.2) (.int .i64 ((rd_T93 l0 x12_1).f2))) (fun _ hk => trivial)))⟩; have n1_ : Aside0 (w11.heap[gb497]? = some (.cells #[.int .i64 ((rd_T93 l0 x12_1).f0), .int .i64 ((rd_T93 l0 x12_1).f1), .int .i64 ((rd_T93 l0 x12_1).f2)] 93 (0, 0))) := ⟨(by rw [hw]; exact ((a25_ BK497.out)))⟩; have n2_ : Aside0 (Below w.heap.size w w11) := ⟨(by rw [hw]; exact ((a8_ GE497.out)))⟩; clear hw; clear HO_4; clear BK497; clear HB; have HO_4 := n0_; have BK497 := n1_; have HB := n2_; clear n0_ n1_ n2_; have hcz12_0 : w11.cell? ⟨gb497, 0, none⟩ = some (.int .i64 ((rd_T93 l0 x12_1).f0)) := (blk_cell BK497.out 0).trans rfl; have hcz12_1 : w11.cell? ⟨gb497, 1, none⟩ = some (.int .i64 ((rd_T93 l0 x12_1).f1)) := (blk_cell BK497.out 1).trans rfl; have hcz12_2 : w11.cell? ⟨gb497, 2, none⟩ = some (.int .i64 ((rd_T93 l0 x12_1).f2)) := (blk_cell BK497.out 2).trans rfl; have hfz12_0 := blk_frozen BK497.out 0; have hfz12_1 := blk_frozen BK497.out 1; have hfz12_2 := blk_frozen BK497.out 2; obtain ⟨Ao13, co13, eo13⟩ := Kd.R_slice HO_4.out; subst eo13)|((with_reducible refine gate_callee (f := 94) rfl ?_); refine goesL_ (some 19) rfl rfl Tryd.func94 (by kernel_rfl) rfl #[.slice Ao13 x4_1.length co13, .int .i64 ((rd_T93 l0 x12_1).f0)] rfl (by (try simp only [List.map_toArray, List.map_cons, List.map_nil]); first | done | rfl|(simp only [List.length_drop, List.length_take]; rfl)) ?_; (with_reducible refine (spec_l1Put.calls k1 (fun k_ => some k_ = (.slice Ao13 x4_1.length co13 : Value).ownBlock) (.slice Ao13 x4_1.length co13) x4_1 ((rd_T93 l0 x12_1).f0) t498 w _ ?side1 ?side2 A8.out).mono ?_);(case side1 => exact (a8_ GE497.out));(case side2 => exact Kd.R_tight rfl HO_4.out); rintro e w14 ⟨v499, rfl, ho0, hb, hkp⟩; refine ⟨_, rfl, ?_⟩; have n0_ := Aside0.mk (blk_kept ((a17_ BK497.out)) hkp (fun hs_ => (fun e_ => (Kd.R_ne HO_4.out BK497.out (by decide)) e_) hs_)); have n1_ := Aside0.mk (Kd.R_mono (ok' := fun k_ => True) ho0 (fun k_ hk_ => trivial)); have n2_ := Aside0.mk (hb); clear BK497; clear HB; clear HO_4; have BK497 := n0_; have HO500 := n1_; have HB := n2_; clear n0_ n1_ n2_; (try clear hb); (try clear hkp); (try clear ho0)))
       go_roundg k1
       case measure => have := HK1.out; omega
       case rel => exact ⟨(t498), (wrap64 (x12_1 + 1)), (by first | rfl|(simp;done)|(simp [*];done)), H', ⟨by have := HK1.out; omega⟩, ⟨(a2_ HO500.out)⟩, ⟨(a8_ GE497.out)⟩⟩
      ·rw [if_neg c7] at H
       exact absurd H (by simp)
     ·rw [if_neg c6] at H
      exact absurd H (by simp)
    ·rw [if_neg c5] at H
     have c5b0 : decide (x12_1 < (l0.length : Int)) = false := decide_eq_false c5
     clear c5
     simp only [Option.some.injEq, Prod.mk.injEq] at H
     obtain ⟨rfl, rfl⟩ := H
     go_wp2
     go_ret2
     exact ⟨_, a5_, (a2_ HO_4.out), a0_⟩
 ·replace c3 := Bool.eq_false_iff.mpr c3
  subst c3
  have H1 : (some (([] : List Int), false)) = some (r1, r2) := by rw [if_neg (show ¬ (false = true) by decide)] at H; exact H
  clear H
  have H := H1
  clear H1
  simp only [Option.some.injEq, Prod.mk.injEq] at H
  obtain ⟨rfl, rfl⟩ := H
  go_enter Tryd.func37, Tryd.ntmps37
  go_wp2_with (first|((with_reducible refine gate_callee (f := 93) rfl ?_); refine goesL_ (some 8) rfl rfl Tryd.func93 (by kernel_rfl) rfl #[.slice A0 l0.length c0] rfl (by (try simp only [List.map_toArray, List.map_cons, List.map_nil]); first | done | rfl|(simp only [List.length_drop, List.length_take]; rfl)) ?_; (with_reducible refine (spec_edGood.calls k _ _ l0 false _ ?side1 ?side2 A2.out).mono ?_);(case side1 => exact (a10_ HR0.out));(case side2 => exact HC0.out); rintro e w15 ⟨rfl, hb⟩; refine ⟨_, rfl, ?_⟩; have n0_ := Aside0.mk (below_step (a0_) hb); clear HB; have HB := n0_; clear n0_; (try clear hb); (try clear hb2); (try clear hk); (try clear hi)))
  go_ret2
  exact ⟨_, a5_, a19_, a0_⟩

/-! ### spec_LengthOfEdition: function 38 -/
def spec_LengthOfEdition.f (k : Nat) (l0 : List (S93)) : Option (Int × Bool) := (spec_edGood.f k l0).bind fun t501 => (if t501 = true then ((spec_edLength.f k l0).bind fun t502 => (some (t502, true))) else (some (0, false)))
theorem spec_LengthOfEdition.mono : ∀ a0 k, LeO (spec_LengthOfEdition.f k a0) (spec_LengthOfEdition.f (k + 1) a0) := by
 intro a0 k
 unfold spec_LengthOfEdition.f
 repeat' first
  |(with_reducible exact spec_edGood.mono _ _)
  |(with_reducible exact spec_edLength.mono _ _)
  |(with_reducible exact LeO.refl _)
  |(with_reducible exact LeO.none _)
  |(with_reducible refine LeO.ite ?_ ?_)
  |(with_reducible refine LeO.bind ?_ (fun _ => ?_))
  |exact spec_edGood.mono _ _
  |exact spec_edLength.mono _ _
  |exact LeO.none _
   | refine LeO.ite ?_ ?_
   | refine LeO.bind ?_ (fun _ => ?_)
set_option maxHeartbeats 8000000 in
set_option maxRecDepth 100000 in
theorem spec_LengthOfEdition.calls (k : Nat) (A0 : Option Addr) (c0 : Nat) (l0 : List (S93)) (r1 : Int) (r2 : Bool) (w : World) (hr0 : Kd.C k93 w A0 l0.length l0) (hc0 : l0.length ≤ c0) (h : spec_LengthOfEdition.f k l0 = some (r1, r2)) :
 Calls Tryd.prog 38 #[.slice A0 l0.length c0] w fun e w' => e = .returned (.tuple #[.int .i64 r1, .bool r2]) ∧ Below w.heap.size w w' := by
 have HR0 := Aside0.mk hr0
 have HC0 := Aside0.mk hc0
 clear hr0 hc0
 have HB := Aside0.mk (Below.refl w.heap.size w)
 have H : ((spec_edGood.f k l0).bind fun t501 => (if t501 = true then ((spec_edLength.f k l0).bind fun t502 => (some (t502, true))) else (some (0, false)))) = some (r1, r2) := h
 clear h
 replace H := Option.bind_eq_some_iff.mp H
 obtain ⟨t501, A20, H⟩ := H
 try dsimp only at H
 have A2 := Aside0.mk A20
 clear A20
 by_cases c3 : t501 = true
 ·subst c3
  have H1 : ((spec_edLength.f k l0).bind fun t502 => (some (t502, true))) = some (r1, r2) := by rw [if_pos rfl] at H; exact H
  clear H
  have H := H1
  clear H1
  replace H := Option.bind_eq_some_iff.mp H
  obtain ⟨t502, A40, H⟩ := H
  try dsimp only at H
  have A4 := Aside0.mk A40
  clear A40
  simp only [Option.some.injEq, Prod.mk.injEq] at H
  obtain ⟨rfl, rfl⟩ := H
  go_enter Tryd.func38, Tryd.ntmps38
  go_wp2_with (first|((with_reducible refine gate_callee (f := 93) rfl ?_); refine goesL_ (some 5) rfl rfl Tryd.func93 (by kernel_rfl) rfl #[.slice A0 l0.length c0] rfl (by (try simp only [List.map_toArray, List.map_cons, List.map_nil]); first | done | rfl|(simp only [List.length_drop, List.length_take]; rfl)) ?_; (with_reducible refine (spec_edGood.calls k _ _ l0 true _ ?side1 ?side2 A2.out).mono ?_);(case side1 => exact (a10_ HR0.out));(case side2 => exact HC0.out); rintro e w5 ⟨rfl, hb⟩; refine ⟨_, rfl, ?_⟩; have n0_ := Aside0.mk (below_step (a0_) hb); clear HB; have HB := n0_; clear n0_; (try clear hb); (try clear hb2); (try clear hk); (try clear hi))|((with_reducible refine gate_callee (f := 88) rfl ?_); refine goesL_ (some 8) rfl rfl Tryd.func88 (by kernel_rfl) rfl #[.slice A0 l0.length c0] rfl (by (try simp only [List.map_toArray, List.map_cons, List.map_nil]); first | done | rfl|(simp only [List.length_drop, List.length_take]; rfl)) ?_; (with_reducible refine (spec_edLength.calls k _ _ l0 t502 _ ?side1 ?side2 A4.out).mono ?_);(case side1 => exact (a11_ HR0.out));(case side2 => exact HC0.out); rintro e w6 ⟨rfl, hb⟩; refine ⟨_, rfl, ?_⟩; have n0_ := Aside0.mk (below_step (a0_) hb); clear HB; have HB := n0_; clear n0_; (try clear hb); (try clear hb2); (try clear hk); (try clear hi)))
  go_ret2
  exact ⟨a5_, a0_⟩
 ·replace c3 := Bool.eq_false_iff.mpr c3
  subst c3
  have H1 : (some (0, false)) = some (r1, r2) := by rw [if_neg (show ¬ (false = true) by decide)] at H; exact H
  clear H
  have H := H1
  clear H1
  simp only [Option.some.injEq, Prod.mk.injEq] at H
  obtain ⟨rfl, rfl⟩ := H
  go_enter Tryd.func38, Tryd.ntmps38
  go_wp2_with (first|((with_reducible refine gate_callee (f := 93) rfl ?_); refine goesL_ (some 5) rfl rfl Tryd.func93 (by kernel_rfl) rfl #[.slice A0 l0.length c0] rfl (by (try simp only [List.map_toArray, List.map_cons, List.map_nil]); first | done | rfl|(simp only [List.length_drop, List.length_take]; rfl)) ?_; (with_reducible refine (spec_edGood.calls k _ _ l0 false _ ?side1 ?side2 A2.out).mono ?_);(case side1 => exact (a10_ HR0.out));(case side2 => exact HC0.out); rintro e w7 ⟨rfl, hb⟩; refine ⟨_, rfl, ?_⟩; have n0_ := Aside0.mk (below_step (a0_) hb); clear HB; have HB := n0_; clear n0_; (try clear hb); (try clear hb2); (try clear hk); (try clear hi)))
  go_ret2
  exact ⟨a5_, a0_⟩

-- NOT PRINTED: function 129 (strconv_small)

-- NOT PRINTED: function 145 (strconv_log10Pow2)

-- NOT PRINTED: function 146 (strconv_bool2_int)

-- NOT PRINTED: function 130 (strconv_numDigits)

-- NOT PRINTED: function 131 (strconv_formatBase10)

-- NOT PRINTED: function 147 (strconv_isPowerOfTwo)

-- NOT PRINTED: function 155 (bits_TrailingZeros32)

-- NOT PRINTED: function 156 (bits_TrailingZeros64)

-- NOT PRINTED: function 148 (bits_TrailingZeros)

-- NOT PRINTED: function 132 (strconv_formatBits)

-- NOT PRINTED: function 125 (strconv_FormatInt)

-- NOT PRINTED: function 119 (strconv_Itoa_119)

-- NOT PRINTED: function 106 (strconv_Itoa_106)

-- NOT PRINTED: function 124 (abi_NoEscape)

-- NOT PRINTED: function 117 (strings_Builder_copyCheck)

-- NOT PRINTED: function 95 (strings_Builder_WriteString)

-- NOT PRINTED: function 96 (strings_Builder_String)

-- NOT PRINTED: function 133 (bytealg_MakeNoZero)

-- NOT PRINTED: function 126 (strings_Builder_grow)

-- NOT PRINTED: function 120 (strings_Builder_Grow)

-- NOT PRINTED: function 107 (strings_Join)

-- NOT PRINTED: function 65 (impl_words)

end Go.Proofs.YtkkhcemkppmgdaaDoor.QFnParts
