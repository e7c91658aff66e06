/- Written by a program of this session (the kit's printer, with leaf contracts proved by hand put in): what each Go function computes, and that the call computes it. No condition but those that each theorem names. -/
import Derived.Test.YtplpjmhmochcfaaQFnExactApplyDifferencex0
import Derived.Test.YtplpjmhmochcfaaQFnExactApplyDifferencex6
import Derived.Test.YtplpjmhmochcfaaQFnExactApplyDifferencex7
import Derived.Test.YtplpjmhmochcfaaQFnExactApplyDifferencex8
namespace Go.Proofs.Ytplpjmhmochcfaa.QFnExactApplyDifference
open Go.RowKit Go.Proofs.YtplpjmhmochcfaaW.PrintWords Go.Proofs.YtplpjmhmochcfaaW.PrintLast Go.Proofs.YtplpjmhmochcfaaW.PrintMore
attribute [local go_sem] max2_int min2_int max_two min_two max_three min_three max_four min_four   -- for this text's walks alone
set_option linter.unusedVariables false
set_option linter.unusedSimpArgs false

/-! ### impl_sheetOf: function 83 (by hand: holes in order, if they are a sheet) -/
section
open Go.Sort Go.Proofs.Ytplpjmhmochcfaa.SymSort
instance impl_sheetOf.inh : Inhabited S42 := ⟨⟨0, 0, 0⟩⟩
def impl_sheetOf.enc (x : S42) : List Value := [.int .i64 x.f0, .int .i64 x.f1, .int .i64 x.f2]
def impl_sheetOf.lt (a b : S42) : Bool := decide (a.f1 < b.f1 ∨ (a.f1 = b.f1 ∧ a.f0 < b.f0))
theorem impl_sheetOf.less (a b : S42) (W : World) : Calls Try.prog 70 #[.agg #[.int .i64 a.f0, .int .i64 a.f1, .int .i64 a.f2], .agg #[.int .i64 b.f0, .int .i64 b.f1, .int .i64 b.f2]] W fun e w' => e = .returned (.bool (impl_sheetOf.lt a b)) ∧ ∃ o1 o2, w' = (W.alloc o1).alloc o2 := by
 by_cases h : a.f1 = b.f1
 ·have h1 : (a.f1 == b.f1) = true := beq_iff_eq.2 h
  have h2 : (a.f1 != b.f1) = false := by simp [bne, h1]
  have H : Aside0 (impl_sheetOf.lt a b = decide (a.f0 < b.f0)) := ⟨by simp [impl_sheetOf.lt, h]⟩
  clear h
  go_enter Try.func70, Try.ntmps70
  go_wp2
  go_ret
  exact ⟨by rw [H.out]; rfl, _, _, rfl⟩
 ·have h1 : (a.f1 == b.f1) = false := beq_eq_false_iff_ne.2 h
  have h2 : (a.f1 != b.f1) = true := by simp [bne, h1]
  have H : Aside0 (impl_sheetOf.lt a b = decide (a.f1 < b.f1)) := ⟨by simp [impl_sheetOf.lt, h]⟩
  clear h
  go_enter Try.func70, Try.ntmps70
  go_wp2
  go_ret
  exact ⟨by rw [H.out]; rfl, _, _, rfl⟩
theorem impl_sheetOf.other {enc : S42 → List Value} {k : Nat} {w W : World} {blk off : Nat} {d : Array S42} (h : AtK enc k w blk off d W) (B o : Nat) (hB : B ≠ blk) (hl : B < w.heap.size) : W.cell? ⟨B, o, none⟩ = w.cell? ⟨B, o, none⟩ := by
 obtain ⟨m, os', rfl⟩ := h
 have hs : ∀ X : World, (putRowK enc k X blk off d).heap.size = X.heap.size := fun X => by simp [putRowK, putRow, mapBlock]
 rw [cell?_grow _ _ _ (by rw [hs]; exact hl), cell?_putRowK_other enc k _ blk off d _ hB]; rfl
set_option maxHeartbeats 4000000 in
set_option maxRecDepth 100000 in
theorem impl_sheetOf.lays (w : World) (B g n cap : Nat) (hB : w.cell? ⟨B, 0, none⟩ = some (.slice (some ⟨g, 0, none⟩) n cap)) (hBg : B ≠ g) (d : Array S42) (hH : HoldsK impl_sheetOf.enc 3 w g 0 d) (hds : d.size = n) (hg : g < w.heap.size) (hBl : B < w.heap.size) (hn : n ≤ 9223372036854775807) :
 LessLays Try.prog 108 #[.pointer (some ⟨B, 0, none⟩)] impl_sheetOf.enc 3 impl_sheetOf.lt g 0 n w := by
 intro W dk hAt hdk i j hi hj
 obtain ⟨hHk, hgk⟩ := hAt.holds hH (hdk.trans hds.symm) hg
 have cB := (impl_sheetOf.other hAt B 0 hBg hBl).trans hB
 have x0 := (hHk.cell (i := i) (c := 0) (by omega) (by omega)).1
 have x1 := (hHk.cell (i := i) (c := 1) (by omega) (by omega)).1
 have x2 := (hHk.cell (i := i) (c := 2) (by omega) (by omega)).1
 have y0 := (hHk.cell (i := j) (c := 0) (by omega) (by omega)).1
 have y1 := (hHk.cell (i := j) (c := 1) (by omega) (by omega)).1
 have y2 := (hHk.cell (i := j) (c := 2) (by omega) (by omega)).1
 generalize hx : dk[i]! = x at x0 x1 x2
 generalize hy : dk[j]! = y at y0 y1 y2
 simp only [impl_sheetOf.enc, Nat.zero_add, Nat.add_zero] at x0 x1 x2 y0 y1 y2
 have hS := (SWK.start hHk)
 go_enter Try.func108, Try.ntmps108
 go_wp2
 go_still_tail 8, (by kernel_rfl)
 change wpList _ _ _ _ _ W.drew
 have hS2 : AtK impl_sheetOf.enc 3 W g 0 dk W.drew := hS.drewN 1
 generalize W.drew = w2 at hS2 ⊢
 clear hS hHk hAt cB x0 x1 x2 y0 y1 y2
 go_wp2_with (go_at_call 70; refine (impl_sheetOf.less x y _).mono ?_; rintro e w' ⟨rfl, o1, o2, rfl⟩)
 go_ret
 exact ⟨rfl, SWK.alloc (SWK.alloc hS2 o1) o2⟩
theorem impl_sheetOf.flat (ys : List S42) (j c : Nat) (y : S42) (hy : ys[j]? = some y) (hc : c < 3) : (flatK impl_sheetOf.enc 3 ys.toArray)[j * 3 + c]? = (impl_sheetOf.enc y)[c]? := by
 obtain ⟨hj, e⟩ := List.getElem?_eq_some_iff.1 hy
 have hlt : j * 3 + c < ys.toArray.size * 3 := by simp; omega
 have h := get_flatK impl_sheetOf.enc 3 ys.toArray (j * 3 + c) hlt
 rw [show (j * 3 + c) / 3 = j by omega, show (j * 3 + c) % 3 = c by omega, getElem!_pos ys.toArray j (by simpa using hj), show ys.toArray[j]'(by simpa using hj) = y by simpa using e] at h
 rw [getElem!_pos _ _ (by rw [size_flatK]; exact hlt), getElem!_pos (impl_sheetOf.enc y) c (by simpa [impl_sheetOf.enc] using hc)] at h
 rw [Array.getElem?_eq_getElem (by rw [size_flatK]; exact hlt), h, List.getElem?_eq_getElem]
theorem impl_sheetOf.open {W : World} {base g n cap : Nat} {okp : Nat → Prop} {xs : List S42} (HO : Kd.R k42 42 W base okp (.slice (some ⟨g, 0, none⟩) n cap) xs) :
 ∃ cur, W.heap[g]? = some (.cells cur 42 (0, 0)) ∧ base ≤ g ∧ n = xs.length ∧ n ≤ cap ∧ cap ≤ maxLen ∧ cur.size = cap * 3 := by
 have hn := (Kd.R_reads' HO).1
 obtain ⟨hok, inner, hown, hr⟩ := HO
 rcases hown.2 with ⟨hv, _⟩ | ⟨g', cap', cur, hv, hb, hh, hnc, hcm, hcs, htake⟩
 ·cases hv
 injection hv with ha hnn hc
 injection ha with ha
 injection ha with hg
 subst hg; subst hc
 exact ⟨cur, hh, hb, hn, by omega, hcm, hcs⟩
theorem impl_sheetOf.holds {W : World} {base g n cap : Nat} {okp : Nat → Prop} {xs : List S42} (HO : Kd.R k42 42 W base okp (.slice (some ⟨g, 0, none⟩) n cap) xs) :
 HoldsK impl_sheetOf.enc 3 W g 0 xs.toArray ∧ g < W.heap.size ∧ n = xs.length := by
 obtain ⟨cur, hh, hb, hn, hnc, hcm, hcs⟩ := impl_sheetOf.open HO
 refine ⟨fun t ht => ?_, ?_, hn⟩
 ·have ht2 : t < xs.length * 3 := by simpa using ht
  have hj : t / 3 < xs.length := by omega
  obtain ⟨ce, hcl, hM, hcc, hfr⟩ := Kd.R_elem HO ⟨0, 0, 0⟩ ((t / 3 : Nat) : Int) (by omega) (by omega)
  obtain rfl := k42_openM hM
  have hx : xs[t / 3]? = some (xs.getD (t / 3) ⟨0, 0, 0⟩) := by rw [List.getD_eq_getElem?_getD, List.getElem?_eq_getElem hj]; rfl
  have h1 := impl_sheetOf.flat xs (t / 3) (t % 3) _ hx (by omega)
  rw [show t / 3 * 3 + t % 3 = t by omega] at h1
  have h2 : (impl_sheetOf.enc (xs.getD (t / 3) ⟨0, 0, 0⟩))[t % 3]? = some (flatK impl_sheetOf.enc 3 xs.toArray)[t]! := by
   rw [← h1, getElem!_pos (flatK impl_sheetOf.enc 3 xs.toArray) t ht, Array.getElem?_eq_getElem ht]
  have h3 := hcc (t % 3) _ h2
  have h4 := hfr (t % 3)
  simp only [Int.toNat_natCast, show (k42).sz = 3 from rfl, show t / 3 * 3 + t % 3 = t by omega] at h3 h4
  rw [Nat.zero_add]
  exact ⟨h3, h4⟩
 ·rcases Nat.lt_or_ge g W.heap.size with h | h
  ·exact h
  ·rw [Array.getElem?_eq_none h] at hh; cases hh
theorem impl_sheetOf.row (W w' : World) (base g n cap : Nat) (xs ys : List S42) (HO : Kd.R k42 42 W base (fun _ => True) (.slice (some ⟨g, 0, none⟩) n cap) xs) (hy : ys.length = xs.length) (hA : AtK impl_sheetOf.enc 3 W g 0 ys.toArray w') :
 Kd.R k42 42 w' base (fun _ => True) (.slice (some ⟨g, 0, none⟩) n cap) ys := by
 obtain ⟨hH, hg, hc⟩ := impl_sheetOf.holds HO
 obtain ⟨cur, hh, hb, hn, hnc, hcm, hcs⟩ := impl_sheetOf.open HO
 obtain ⟨q, os, rfl⟩ := hA
 have hheap : (grow (putRowK impl_sheetOf.enc 3 (Go.Sort.ahead W q) g 0 ys.toArray) os).heap[g]? = some (.cells (putCells id 0 (flatK impl_sheetOf.enc 3 ys.toArray) cur) 42 (0, 0)) := by
  unfold putRowK
  rw [heap_grow_old _ _ (by simpa using hg)]
  simp [putRow, mapBlock, Array.getElem?_modify, hh, onCells]
 have hsz : (flatK impl_sheetOf.enc 3 ys.toArray).size = n * 3 := by rw [size_flatK]; simp; omega
 refine ⟨fun _ _ => trivial, (flatK impl_sheetOf.enc 3 ys.toArray).toList, ⟨by rw [Array.length_toList, hsz, show (k42).sz = 3 from rfl]; omega, .inr ⟨g, cap, _, by congr 1; omega, hb, hheap, by omega, hcm, by rw [show (k42).sz = 3 from rfl, ← hcs]; simp [putCells], ?_⟩⟩, ⟨by rw [Array.length_toList, hsz, show (k42).sz = 3 from rfl]; omega, fun j p hp => ?_⟩⟩
 ·refine List.ext_getElem? (fun j => ?_)
  rw [show (k42).sz = 3 from rfl, List.getElem?_take, Array.getElem?_toList]
  by_cases hj : j < ys.length * 3
  ·rw [if_pos hj]
   have h1 : j < cur.size := by omega
   have h2 : j < (flatK impl_sheetOf.enc 3 ys.toArray).size := by omega
   rw [Array.getElem?_toList, Array.getElem?_eq_getElem h2]
   simp only [putCells, Nat.zero_le, Nat.zero_add, Nat.sub_zero, true_and, Array.getElem?_mapIdx, Array.getElem?_eq_getElem h1, Option.map_some, if_pos h2, id]
   rw [getElem!_pos (flatK impl_sheetOf.enc 3 ys.toArray) j h2]
  ·rw [if_neg hj, Array.getElem?_toList, Array.getElem?_eq_none (by omega)]
 ·rw [show (k42).sz = 3 from rfl]
  have hj : j < ys.length := (List.getElem?_eq_some_iff.1 hp).1
  have e : ((flatK impl_sheetOf.enc 3 ys.toArray).toList.drop (j * 3)).take 3 = impl_sheetOf.enc p := by
   refine List.ext_getElem? (fun c => ?_)
   rw [List.getElem?_take]
   by_cases hc3 : c < 3
   ·rw [if_pos hc3, List.getElem?_drop, Array.getElem?_toList, impl_sheetOf.flat ys j c p hp hc3]
   ·rw [if_neg hc3, List.getElem?_eq_none (by simp [impl_sheetOf.enc]; omega)]
  rw [e]
  exact k42_mkM _ _ _ _
theorem impl_sheetOf.below {W w' : World} {base g : Nat} {d : Array S42} (hA : AtK impl_sheetOf.enc 3 W g 0 d w') (hb : base ≤ g) (hs : base ≤ W.heap.size) : Go.RowKit.Below base W w' := by
 obtain ⟨q, os, rfl⟩ := hA
 unfold putRowK
 refine ⟨rfl, rfl, rfl, by simp, fun k hk => ?_⟩
 rw [heap_grow_old _ _ (by simp; omega)]
 have hne : g ≠ k := by omega
 simp [putRow, mapBlock, Array.getElem?_modify, hne]
theorem impl_sheetOf.swo : SWO impl_sheetOf.lt where
 irrefl := fun x => by simp [impl_sheetOf.lt]
 trans := fun x y z h1 h2 => by
  simp only [impl_sheetOf.lt, decide_eq_true_eq] at *; omega
 ntrans := fun x y z h1 h2 => by
  simp only [impl_sheetOf.lt, decide_eq_false_iff_not] at *; omega
noncomputable def impl_sheetOf.T : TypeInfo := (Try.prog.info? 32).get (by kernel_rfl)
noncomputable def impl_sheetOf.E : TypeInfo := (Try.prog.info? 42).get (by kernel_rfl)
theorem impl_sheetOf.K (n : Nat) (h2 : 2 ≤ n) : Lib.swapperK n impl_sheetOf.E 25 = 9 := by
 have a : impl_sheetOf.E.hasPointers = false := by kernel_rfl
 have b : impl_sheetOf.E.bytes = 24 := by kernel_rfl
 have c : (n == 0) = false := by simp; omega
 have d : (n == 1) = false := by simp; omega
 simp [Lib.swapperK, a, b, c, d]
/-- A sorted permutation. -/
def impl_sheetOf.Sorts (xs ys : List S42) : Prop := ys.Perm xs ∧ ys.Pairwise (fun a b => impl_sheetOf.lt b a = false)
theorem impl_sheetOf.sorts (xs : List S42) (d' : Array S42) (p : PermIn 0 xs.toArray.size xs.toArray d') (s : SortedIn impl_sheetOf.lt 0 xs.toArray.size d') : impl_sheetOf.Sorts xs d'.toList ∧ d'.toList.length = xs.length := by
 have hz : d'.size = xs.length := by have := p.1; simpa using this
 refine ⟨⟨?_, ?_⟩, by simpa using hz⟩
 ·have h := p.2.2
  simp [hz] at h
  rwa [List.take_of_length_le (by simp; omega)] at h
 ·rw [List.pairwise_iff_getElem]
  intro i j hi hj hij
  have h := s i j (Nat.zero_le _) hij (by simpa [hz] using hj)
  rw [getElem!_pos d' i (by simpa using hi), getElem!_pos d' j (by simpa using hj)] at h
  simpa using h
theorem impl_sheetOf.sort (W : World) (B g base n cap : Nat) (xs : List S42) (HO : Kd.R k42 42 W base (fun _ => True) (.slice (some ⟨g, 0, none⟩) n cap) xs) (hB : W.cell? ⟨B, 0, none⟩ = some (.slice (some ⟨g, 0, none⟩) n cap)) (hBg : B ≠ g) (hBl : B < W.heap.size) (hbase : base ≤ W.heap.size) (hlen : xs.length ≤ 60) :
 Calls Try.prog 107 #[.iface 32 (.slice (some ⟨g, 0, none⟩) n cap), .func (.func 108) #[] #[.pointer (some ⟨B, 0, none⟩)]] W fun e w' => e = .returned (.tuple #[]) ∧ (fun W' => ∃ ys, impl_sheetOf.Sorts xs ys ∧ ys.length = xs.length ∧ Kd.R k42 42 W' base (fun _ => True) (.slice (some ⟨g, 0, none⟩) n cap) ys ∧ Go.RowKit.Below base W W' ∧ W'.cell? ⟨B, 0, none⟩ = some (.slice (some ⟨g, 0, none⟩) n cap) ∧ W.heap.size ≤ W'.heap.size) w' := by
 obtain ⟨hH, hg, hn⟩ := impl_sheetOf.holds HO
 obtain ⟨cur, hh, hb, _, hnc, hcm, hcs⟩ := impl_sheetOf.open HO
 have fin : ∀ (W' : World) (ys : List S42), impl_sheetOf.Sorts xs ys → ys.length = xs.length → AtK impl_sheetOf.enc 3 W g 0 ys.toArray W' → (fun W' => ∃ ys, impl_sheetOf.Sorts xs ys ∧ ys.length = xs.length ∧ Kd.R k42 42 W' base (fun _ => True) (.slice (some ⟨g, 0, none⟩) n cap) ys ∧ Go.RowKit.Below base W W' ∧ W'.cell? ⟨B, 0, none⟩ = some (.slice (some ⟨g, 0, none⟩) n cap) ∧ W.heap.size ≤ W'.heap.size) W' := fun W' ys hs hl hA =>
  ⟨ys, hs, hl, impl_sheetOf.row W W' base g n cap xs ys HO hl hA, impl_sheetOf.below hA hb hbase, (impl_sheetOf.other hA B 0 hBg hBl).trans hB, AtK.below hA⟩
 rcases Nat.lt_or_ge n 2 with h2 | h2
 ·have hf : Try.prog.funcs.findIdx? (·.name == "internal/reflectlite" ++ ".Swapper$" ++ toString (Lib.swapperK n impl_sheetOf.E 25)) = some (124 + n) := by
   rcases (show n = 0 ∨ n = 1 by omega) with h | h
   ·rw [h]; kernel_rfl
   ·rw [h]; kernel_rfl
  refine (sliceStable_tiny Try.laysGt8 32 42 impl_sheetOf.T impl_sheetOf.E (by kernel_rfl) (by kernel_rfl) (by kernel_rfl) (by kernel_rfl) 25 (fun _ => by kernel_rfl) (some ⟨g, 0, none⟩) n cap (by omega) (124 + n) hf (.func 108) #[] _ W).mono ?_
  rintro e w' ⟨rfl, os, rfl⟩
  refine ⟨rfl, fin _ xs ⟨List.Perm.refl _, ?_⟩ rfl ⟨0, os, by rw [show Go.Sort.ahead W 0 = W from rfl, putRowK_self impl_sheetOf.enc 3 W g 0 _ hH]⟩⟩
  rcases xs with _ | ⟨x, _ | ⟨y, r⟩⟩
  ·exact List.Pairwise.nil
  ·simp
  ·simp at hn; omega
 ·have hS := sliceStable Try.laysGt8 32 42 impl_sheetOf.T impl_sheetOf.E (by kernel_rfl) (by kernel_rfl) (by kernel_rfl) (by kernel_rfl) 25 (fun _ => by kernel_rfl) impl_sheetOf.enc 3 (fun _ => rfl) (by kernel_rfl) (fun _ => by kernel_rfl)
   (fun x v hv => by simp [impl_sheetOf.enc] at hv; rcases hv with rfl | rfl | rfl <;> rfl) impl_sheetOf.lt impl_sheetOf.swo 108 #[.pointer (some ⟨B, 0, none⟩)]
   (enters_of Try.func108 (by kernel_rfl) rfl) g 0 cap xs.toArray (by simp; omega) (by simp; omega) 132 (by rw [impl_sheetOf.K _ (by simp; omega)]; kernel_rfl) false
   (fun args W => run_callFunc_extern Try.func132 (by kernel_rfl) (by kernel_rfl) (by kernel_rfl) (e := Extern.ReflectliteSwapper.swap false) (by kernel_rfl) args W) W
   (impl_sheetOf.lays W B g xs.toArray.size cap (by rw [hB, hn]; simp) hBg xs.toArray hH rfl hg hBl (by simp; omega)) hH hg
  have ez : xs.toArray.size = n := by simp [hn]
  rw [ez] at hS
  refine Calls.mono hS ?_
  rintro e w' ⟨rfl, d', p, s, hA⟩
  rw [← ez] at p s
  obtain ⟨h3, h4⟩ := impl_sheetOf.sorts xs d' p s
  exact ⟨rfl, fin w' d'.toList h3 h4 (by simpa using hA)⟩
end
section
open Go.Proofs.Ytplpjmhmochcfaa.Base
/-- A valid hole. -/
def impl_sheetOf.holeOk (t a b : Int) : Bool := decide (0 ≤ t ∧ t ≤ 19 ∧ 0 ≤ a ∧ a ≤ 1999 ∧ a < b ∧ b ≤ 2000)

theorem impl_sheetOf.isHole_ok (t a b : Int) : impl_IsHole.f t a b = some (impl_sheetOf.holeOk t a b) := by
 unfold impl_IsHole.f impl_isTrack.f impl_sheetOf.holeOk
 by_cases h1 : 0 ≤ t
 ·by_cases h2 : t < 20
  ·by_cases h3 : 0 ≤ a
   ·by_cases h4 : a < b
    ·by_cases h5 : b ≤ 2000
     ·simp [h1, h2, h3, h4, h5, show t ≤ 19 by omega, show a ≤ 1999 by omega]
     ·simp [h1, h2, h3, h4, h5]
    ·simp [h1, h2, h3, h4]
   ·simp [h1, h2, h3]
  ·simp [h1, h2, show ¬ t ≤ 19 by omega]
 ·simp [h1]

theorem impl_sheetOf.rdH_mid (pre suf : List S42) (x : S42) : rd_T42 (pre ++ x :: suf) (pre.length : Int) = x := getD_mid _ _ _ _ _ (by simp)
/-- The hole x impl_sheetOf.meets the earlier hole y. -/
def impl_sheetOf.meets (x y : S42) : Bool := decide (x.f0 = y.f0 ∧ x.f1 ≤ y.f2)
def impl_sheetOf.before (a b : S42) : Bool := decide (a.f1 < b.f1 ∨ (a.f1 = b.f1 ∧ a.f0 < b.f0))
def impl_sheetOf.lastBefore (pre : List S42) (x : S42) : Bool := match pre.getLast? with | none => true | some p => impl_sheetOf.before p x
def impl_sheetOf.goodAt (pre : List S42) (x : S42) : Bool := impl_sheetOf.holeOk x.f0 x.f1 x.f2 && (impl_sheetOf.lastBefore pre x && !(pre.any (impl_sheetOf.meets x)))
def impl_sheetOf.goodFrom : List S42 → List S42 → Bool
 | _, [] => true
 | pre, x :: suf => impl_sheetOf.goodAt pre x && impl_sheetOf.goodFrom (pre ++ [x]) suf
/-- A valid sheet. -/
def impl_sheetOf.good (l : List S42) : Bool := impl_sheetOf.goodFrom [] l && decide (l.length ≤ 60)

theorem impl_sheetOf.holeLess_ok (a b : S42) : impl_holeLess.f a.f0 a.f1 a.f2 b.f0 b.f1 b.f2 = some (impl_sheetOf.before a b) := by
 unfold impl_holeLess.f impl_sheetOf.before
 by_cases h1 : a.f1 = b.f1
 ·simp [h1]
 ·simp [h1]

theorem impl_sheetOf.isSheet_l1 (x : S42) (l : List S42) (n i : Int) (r : Bool) (suf : List S42) : ∀ pre : List S42, (pre ++ suf).length ≤ 9223372036854775806 →
 (suf.any (impl_sheetOf.meets x) = true → r = false) → (suf.any (impl_sheetOf.meets x) = false → Ev (fun k => impl_IsSheet.l0 k l l n (wrap64 (i + 1))) r) →
 Ev (fun k => impl_IsSheet.l1 k l l n i (pre ++ suf) ((pre ++ suf).length : Int) (pre.length : Int) x.f0 x.f1 x.f2) r := by
 induction suf with
 | nil =>
  intro pre _ _ h
  refine ev_step (h rfl) (fun k => ?_)
  rw [impl_IsSheet.l1, if_neg (by simp)]
 | cons y suf ih =>
  intro pre hl h1 h2
  have hl' : (pre.length : Int) < ((pre ++ y :: suf).length : Int) := by simp; omega
  have hw : wrap64 ((pre.length : Int) + 1) = (pre.length : Int) + 1 := wrapS (by omega) (by simp at hl; omega)
  by_cases hm : impl_sheetOf.meets x y = true
  ·have e : r = false := h1 (by simp [hm])
   subst e
   simp only [impl_sheetOf.meets, decide_eq_true_eq] at hm
   refine ev_step ev_const (fun k => ?_)
   rw [impl_IsSheet.l1, if_pos hl', if_pos (by omega), if_pos hl', impl_sheetOf.rdH_mid, if_pos hm.1.symm, if_pos hm.2]
  ·replace hm : impl_sheetOf.meets x y = false := by simpa using hm
   have h := ih (pre ++ [y]) (by simp at hl ⊢; omega) (fun e => h1 (by simp [e])) (fun e => h2 (by simp [hm, e]))
   rw [snoc_app, snoc_leni] at h
   simp only [impl_sheetOf.meets, decide_eq_false_iff_not] at hm
   refine ev_step h (fun k => ?_)
   rw [impl_IsSheet.l1, if_pos hl', if_pos (by omega), if_pos hl', impl_sheetOf.rdH_mid, hw]
   by_cases e : x.f0 = y.f0
   ·rw [if_pos e.symm, if_neg (fun e2 => hm ⟨e, e2⟩)]
   ·rw [if_neg (fun e2 => e e2.symm)]

theorem impl_sheetOf.isSheet_j1 (x : S42) (pre suf : List S42) (n : Int) (b r : Bool) (hl : (pre ++ suf).length ≤ 9223372036854775806) (hb : b = true → r = false) (h1 : b = false → pre.any (impl_sheetOf.meets x) = true → r = false)
 (h2 : b = false → pre.any (impl_sheetOf.meets x) = false → Ev (fun k => impl_IsSheet.l0 k (pre ++ suf) (pre ++ suf) n (wrap64 ((pre.length : Int) + 1))) r) :
 Ev (fun k => impl_IsSheet.j1 k (pre ++ suf) (pre.length : Int) (pre ++ suf) n (pre.length : Int) b x.f0 x.f1 x.f2) r := by
 cases b with
 | true =>
  obtain rfl := hb rfl
  refine ev_step ev_const (fun k => ?_)
  rw [impl_IsSheet.j1, if_pos rfl]
 | false =>
  have h := impl_sheetOf.isSheet_l1 x (pre ++ suf) n (pre.length : Int) r pre [] (by simp at hl ⊢; omega) (h1 rfl) (h2 rfl)
  refine ev_step h (fun k => ?_)
  rw [impl_IsSheet.j1, if_neg (by decide), if_pos (by omega), if_pos (by simp; omega)]
  simp

theorem impl_sheetOf.isSheet_l0 (suf : List S42) : ∀ pre : List S42, (pre ++ suf).length ≤ 9223372036854775806 →
 Ev (fun k => impl_IsSheet.l0 k (pre ++ suf) (pre ++ suf) ((pre ++ suf).length : Int) (pre.length : Int)) (impl_sheetOf.goodFrom pre suf) := by
 induction suf with
 | nil =>
  intro pre _
  refine ev_step (Ev.now _) (fun k => ?_)
  rw [impl_IsSheet.l0, if_neg (by simp)]
  simp [impl_sheetOf.goodFrom]
 | cons x suf ih =>
  intro pre hl
  have h := ih (pre ++ [x]) (by simp at hl ⊢; omega)
  rw [snoc_app, snoc_leni] at h
  have hl' : (pre.length : Int) < ((pre ++ x :: suf).length : Int) := by simp; omega
  have hw : wrap64 ((pre.length : Int) + 1) = (pre.length : Int) + 1 := wrapS (by omega) (by simp at hl; omega)
  have J : ∀ b, (b = !(impl_sheetOf.holeOk x.f0 x.f1 x.f2 && impl_sheetOf.lastBefore pre x)) → Ev (fun k => impl_IsSheet.j1 k (pre ++ x :: suf) (pre.length : Int) (pre ++ x :: suf) ((pre ++ x :: suf).length : Int) (pre.length : Int) b x.f0 x.f1 x.f2) (impl_sheetOf.goodFrom pre (x :: suf)) := by
   intro b hb
   refine impl_sheetOf.isSheet_j1 x pre (x :: suf) _ b _ hl (fun e => ?_) (fun e e2 => ?_) (fun e e2 => ?_)
   ·simp only [impl_sheetOf.goodFrom, impl_sheetOf.goodAt]
    cases h1 : impl_sheetOf.holeOk x.f0 x.f1 x.f2 <;> cases h2 : impl_sheetOf.lastBefore pre x <;> simp_all
   ·simp [impl_sheetOf.goodFrom, impl_sheetOf.goodAt, e2]
   ·rw [hw]
    have e3 : impl_sheetOf.goodFrom pre (x :: suf) = impl_sheetOf.goodFrom (pre ++ [x]) suf := by
     simp only [impl_sheetOf.goodFrom, impl_sheetOf.goodAt, e2]
     cases h1 : impl_sheetOf.holeOk x.f0 x.f1 x.f2 <;> cases h2 : impl_sheetOf.lastBefore pre x <;> simp_all
    rw [e3]
    exact h
  cases ho : impl_sheetOf.holeOk x.f0 x.f1 x.f2 with
  | false =>
   refine ev_step (J true (by simp [ho])) (fun k => ?_)
   rw [impl_IsSheet.l0, if_pos hl', if_pos (by omega), if_pos hl', impl_sheetOf.rdH_mid, impl_sheetOf.isHole_ok, ho]
   simp
  | true =>
   rcases List.eq_nil_or_concat pre with rfl | ⟨pre', p, rfl⟩
   ·refine ev_step (J false (by simp [ho, impl_sheetOf.lastBefore])) (fun k => ?_)
    rw [impl_IsSheet.l0, if_pos hl', if_pos (by omega), if_pos hl', impl_sheetOf.rdH_mid, impl_sheetOf.isHole_ok, ho]
    simp
   ·refine ev_step (J (!(impl_sheetOf.before p x)) (by simp [ho, impl_sheetOf.lastBefore])) (fun k => ?_)
    have e1 : ((pre' ++ [p]).length : Int) = (pre'.length : Int) + 1 := by simp
    have hw2 : wrap64 (((pre' ++ [p]).length : Int) - 1) = (pre'.length : Int) := by
     rw [e1, wrapS (by omega) (by simp at hl; omega)]; omega
    have e2 : rd_T42 (pre' ++ [p] ++ x :: suf) (pre'.length : Int) = p := by
     rw [snoc_app]; exact impl_sheetOf.rdH_mid _ _ _
    rw [impl_IsSheet.l0, if_pos hl', if_pos (by omega), if_pos hl', impl_sheetOf.rdH_mid, impl_sheetOf.isHole_ok, ho]
    simp only [List.concat_eq_append] at *
    simp only [Option.bind_some, if_true]
    rw [if_pos (by omega), hw2, if_pos (by omega), if_pos (by simp; omega), e2, impl_sheetOf.holeLess_ok]
    simp only [Option.bind_some]

theorem impl_sheetOf.isSheet_ok (l : List S42) (h : l.length ≤ 9223372036854775806) : Ev (fun k => impl_IsSheet.f k l) (impl_sheetOf.good l) := by
 by_cases h6 : (l.length : Int) > 60
 ·refine Ev.congr (f := fun _ => some (impl_sheetOf.good l)) (fun k => ?_) ev_const
  rw [impl_IsSheet.f, if_pos h6]
  have : ¬ l.length ≤ 60 := by omega
  simp [impl_sheetOf.good, this]
 ·refine Ev.congr (fun k => ?_) (ev_eq (impl_sheetOf.isSheet_l0 l [] (by simpa using h)) ?_)
  ·rw [impl_IsSheet.f, if_neg h6]
   rfl
  ·have : l.length ≤ 60 := by omega
   simp [impl_sheetOf.good, this]

def impl_sheetOf.strict : List S42 → Bool
 | [] => true
 | [_] => true
 | a :: b :: r => impl_sheetOf.lt a b && impl_sheetOf.strict (b :: r)
theorem impl_sheetOf.strict_pair : ∀ l : List S42, impl_sheetOf.strict l = true → l.Pairwise (fun a b => impl_sheetOf.lt a b = true)
 | [], _ => List.Pairwise.nil
 | [_], _ => by simp
 | a :: b :: r, h => by
  simp only [impl_sheetOf.strict, Bool.and_eq_true] at h
  have ih := impl_sheetOf.strict_pair (b :: r) h.2
  refine List.Pairwise.cons ?_ ih
  intro c hc
  rcases List.mem_cons.1 hc with rfl | hc
  ·exact h.1
  ·exact impl_sheetOf.swo.trans _ _ _ h.1 (List.rel_of_pairwise_cons ih hc)
theorem impl_sheetOf.strict_of : ∀ l : List S42, l.Pairwise (fun a b => impl_sheetOf.lt a b = true) → impl_sheetOf.strict l = true
 | [], _ => rfl
 | [_], _ => rfl
 | a :: b :: r, h => by
  rw [impl_sheetOf.strict, Bool.and_eq_true]
  exact ⟨List.rel_of_pairwise_cons h List.mem_cons_self, impl_sheetOf.strict_of (b :: r) (List.Pairwise.of_cons h)⟩
theorem impl_sheetOf.unique : ∀ (ys zs : List S42), ys.Perm zs → ys.Pairwise (fun a b => impl_sheetOf.lt b a = false) → zs.Pairwise (fun a b => impl_sheetOf.lt a b = true) → ys = zs
 | [], zs, p, _, _ => (List.Perm.nil_eq p)
 | y :: ys, [], p, _, _ => by simp at p
 | y :: ys, z :: zs, p, h1, h2 => by
  have e : y = z := by
   rcases List.mem_cons.1 (p.mem_iff.1 List.mem_cons_self) with e | hy
   ·exact e
   ·rcases List.mem_cons.1 (p.mem_iff.2 (List.mem_cons_self (a := z) (l := zs))) with e | hz
    ·exact e.symm
    ·have a1 := List.rel_of_pairwise_cons h2 hy
     have a2 := List.rel_of_pairwise_cons h1 hz
     rw [a1] at a2; cases a2
  subst e
  rw [impl_sheetOf.unique ys zs (List.perm_cons y |>.1 p) (List.Pairwise.of_cons h1) (List.Pairwise.of_cons h2)]
theorem impl_sheetOf.goodFrom_strict (suf : List S42) : ∀ (pre : List S42) (p : S42), impl_sheetOf.goodFrom (pre ++ [p]) suf = true → impl_sheetOf.strict (p :: suf) = true := by
 induction suf with
 | nil => intro _ _ _; rfl
 | cons x suf ih =>
  intro pre p h
  simp only [impl_sheetOf.goodFrom, impl_sheetOf.goodAt, impl_sheetOf.lastBefore, List.getLast?_append, List.getLast?_singleton, Option.or, Bool.and_eq_true] at h
  rw [impl_sheetOf.strict, Bool.and_eq_true]
  exact ⟨h.1.2.1, ih (pre ++ [p]) x h.2⟩
theorem impl_sheetOf.good_strict (l : List S42) (h : impl_sheetOf.good l = true) : impl_sheetOf.strict l = true := by
 simp only [impl_sheetOf.good, Bool.and_eq_true] at h
 cases l with
 | nil => rfl
 | cons x r =>
  have := h.1
  simp only [impl_sheetOf.goodFrom, Bool.and_eq_true] at this
  exact impl_sheetOf.goodFrom_strict r [] x this.2
/-- x, put behind all that it is not less than. -/
def impl_sheetOf.ins (x : S42) : List S42 → List S42
 | [] => [x]
 | y :: r => if impl_sheetOf.lt x y = true then x :: y :: r else y :: impl_sheetOf.ins x r
def impl_sheetOf.srt (l : List S42) : List S42 := l.foldl (fun out x => impl_sheetOf.ins x out) []
theorem impl_sheetOf.ins_perm (x : S42) : ∀ l : List S42, (impl_sheetOf.ins x l).Perm (x :: l)
 | [] => List.Perm.refl _
 | y :: r => by
  rw [impl_sheetOf.ins]
  by_cases c : impl_sheetOf.lt x y = true
  ·rw [if_pos c]
  ·rw [if_neg c]; exact ((impl_sheetOf.ins_perm x r).cons y).trans (List.Perm.swap x y r)
theorem impl_sheetOf.ins_sorted (x : S42) : ∀ l : List S42, l.Pairwise (fun a b => impl_sheetOf.lt b a = false) → (impl_sheetOf.ins x l).Pairwise (fun a b => impl_sheetOf.lt b a = false)
 | [], _ => by simp [impl_sheetOf.ins]
 | y :: r, h => by
  rw [impl_sheetOf.ins]
  by_cases c : impl_sheetOf.lt x y = true
  ·rw [if_pos c]
   refine List.Pairwise.cons ?_ h
   intro z hz
   rcases List.mem_cons.1 hz with rfl | hz
   ·exact impl_sheetOf.swo.asymmA c
   ·cases e : impl_sheetOf.lt z x with
    | false => rfl
    | true => have := impl_sheetOf.swo.trans _ _ _ e c; rw [List.rel_of_pairwise_cons h hz] at this; cases this
  ·rw [if_neg c]
   refine List.Pairwise.cons ?_ (impl_sheetOf.ins_sorted x r (List.Pairwise.of_cons h))
   intro z hz
   rcases List.mem_cons.1 ((impl_sheetOf.ins_perm x r).mem_iff.1 hz) with rfl | hz
   ·simpa using c
   ·exact List.rel_of_pairwise_cons h hz
theorem impl_sheetOf.fold (l : List S42) : ∀ out : List S42, out.Pairwise (fun a b => impl_sheetOf.lt b a = false) → (l.foldl (fun out x => impl_sheetOf.ins x out) out).Perm (out ++ l) ∧ (l.foldl (fun out x => impl_sheetOf.ins x out) out).Pairwise (fun a b => impl_sheetOf.lt b a = false) := by
 induction l with
 | nil => intro out h; simpa using h
 | cons x l ih =>
  intro out h
  obtain ⟨h1, h2⟩ := ih (impl_sheetOf.ins x out) (impl_sheetOf.ins_sorted x out h)
  refine ⟨h1.trans (((impl_sheetOf.ins_perm x out).append_right l).trans ?_), h2⟩
  exact List.perm_middle.symm
theorem impl_sheetOf.srt_sorts (l : List S42) : impl_sheetOf.Sorts l (impl_sheetOf.srt l) := by
 have := impl_sheetOf.fold l [] List.Pairwise.nil
 simpa [impl_sheetOf.Sorts, impl_sheetOf.srt] using this
theorem impl_sheetOf.same (l ys : List S42) (h : impl_sheetOf.Sorts l ys) (hs : impl_sheetOf.strict (impl_sheetOf.srt l) = true) : ys = impl_sheetOf.srt l :=
 impl_sheetOf.unique ys (impl_sheetOf.srt l) (h.1.trans (impl_sheetOf.srt_sorts l).1.symm) h.2 (impl_sheetOf.strict_pair _ hs)
theorem impl_sheetOf.not (l ys : List S42) (h : impl_sheetOf.Sorts l ys) (hs : ¬ impl_sheetOf.strict (impl_sheetOf.srt l) = true) : impl_sheetOf.good ys = false := by
 cases g : impl_sheetOf.good ys with
 | false => rfl
 | true =>
  have hy := impl_sheetOf.good_strict ys g
  have := impl_sheetOf.unique (impl_sheetOf.srt l) ys ((impl_sheetOf.srt_sorts l).1.trans h.1.symm) (impl_sheetOf.srt_sorts l).2 (impl_sheetOf.strict_pair _ hy)
  rw [this] at hs
  exact absurd hy hs
def impl_sheetOf.f (k : Nat) (l0 : List S42) : Option (List S42 × Bool) := if (l0.length : Int) > 60 then some ([], false) else if impl_sheetOf.strict (impl_sheetOf.srt l0) = true then (impl_IsSheet.f k (impl_sheetOf.srt l0)).bind fun b => (if b = true then some (impl_sheetOf.srt l0, true) else some ([], false)) else some ([], false)
theorem impl_sheetOf.mono : ∀ a0 k, LeO (impl_sheetOf.f k a0) (impl_sheetOf.f (k + 1) a0) := by
 intro a0 k
 unfold impl_sheetOf.f
 repeat' first
  | (with_reducible exact impl_IsSheet.mono _ _)
  | (with_reducible exact LeO.refl _)
  | (with_reducible exact LeO.none _)
  | (with_reducible refine LeO.ite ?_ ?_)
  | (with_reducible refine LeO.bind ?_ (fun _ => ?_))
/-- What the test of the sorted holes tells, whichever sorted permutation they are. -/
theorem impl_sheetOf.tells (k : Nat) (l0 : List S42) (r1 : List S42) (r2 : Bool) (hl : ¬ (l0.length : Int) > 60) (h : impl_sheetOf.f k l0 = some (r1, r2)) (ys : List S42) (hs : impl_sheetOf.Sorts l0 ys) : ∃ K b, impl_IsSheet.f K ys = some b ∧ (b = true → r1 = ys ∧ r2 = true) ∧ (b = false → r1 = [] ∧ r2 = false) := by
 unfold impl_sheetOf.f at h
 rw [if_neg hl] at h
 by_cases c : impl_sheetOf.strict (impl_sheetOf.srt l0) = true
 ·rw [if_pos c] at h
  obtain ⟨b, e, h⟩ := Option.bind_eq_some_iff.mp h
  refine ⟨k, b, by rw [impl_sheetOf.same l0 ys hs c]; exact e, fun hb => ?_, fun hb => ?_⟩
  ·subst hb; rw [if_pos rfl] at h; injection h with h; injection h with h1 h2; exact ⟨by rw [impl_sheetOf.same l0 ys hs c]; exact h1.symm, h2.symm⟩
  ·subst hb; rw [if_neg (by decide)] at h; injection h with h; injection h with h1 h2; exact ⟨h1.symm, h2.symm⟩
 ·rw [if_neg c] at h
  injection h with h
  injection h with h1 h2
  have hlen : ys.length = l0.length := hs.1.length_eq
  obtain ⟨K, e⟩ := impl_sheetOf.isSheet_ok ys (by omega)
  refine ⟨K, false, ?_, (fun hb => absurd hb (by decide)), (fun _ => ⟨h1.symm, h2.symm⟩)⟩
  have := e K (Nat.le_refl _)
  rwa [impl_sheetOf.not l0 ys hs c] at this
end
theorem impl_sheetOf.cloneNil (v : Value) (W : World) (base : Nat) (xs : List S42) (HO : Kd.R k42 42 W base (fun _ => True) v xs) : (v = .slice none 0 0 ∧ xs = []) ∨ ∃ g cap, v = .slice (some ⟨g, 0, none⟩) xs.length cap ∧ g < W.heap.size := by
 obtain ⟨_, inner, hown, _⟩ := HO
 rcases hown.2 with ⟨hv, hn⟩ | ⟨g, cap, cur, hv, _, hh, _⟩
 ·exact .inl ⟨hv, List.eq_nil_of_length_eq_zero hn⟩
 ·refine .inr ⟨g, cap, hv, ?_⟩
  rcases Nat.lt_or_ge g W.heap.size with h | h
  ·exact h
  ·rw [Array.getElem?_eq_none h] at hh; cases hh
def impl_sheetOf.SortPost (W : World) (B base : Nat) (v : Value) (xs : List S42) (e : Ending) (W' : World) : Prop := e = .returned (.tuple #[]) ∧ ∃ ys, impl_sheetOf.Sorts xs ys ∧ ys.length = xs.length ∧ Kd.R k42 42 W' base (fun _ => True) v ys ∧ Below base W W' ∧ W'.cell? ⟨B, 0, none⟩ = some v ∧ W.heap.size ≤ W'.heap.size
theorem impl_sheetOf.sortV (w2 : World) (base : Nat) (v : Value) (xs : List S42) (HO : Kd.R k42 42 w2 base (fun _ => True) v xs) (hbase : base ≤ w2.heap.size) (hlen : xs.length ≤ 60) :
 Calls Try.prog 107 #[.iface 32 v, .func (.func 108) #[] #[.pointer (some ⟨w2.heap.size, 0, none⟩)]] (w2.alloc (.cells #[v] 32)) (impl_sheetOf.SortPost (w2.alloc (.cells #[v] 32)) w2.heap.size base v xs) := by
 have HO2 : Kd.R k42 42 (w2.alloc (.cells #[v] 32)) base (fun _ => True) v xs := Kd.R_alloc HO _
 have hB : (w2.alloc (.cells #[v] 32)).cell? ⟨w2.heap.size, 0, none⟩ = some v := by simp
 rcases impl_sheetOf.cloneNil v w2 base xs HO with ⟨rfl, rfl⟩ | ⟨g, cap, rfl, hg⟩
 ·refine (Go.Proofs.Ytplpjmhmochcfaa.SymSort.sliceStable_tiny Try.laysGt8 32 42 impl_sheetOf.T impl_sheetOf.E (by kernel_rfl) (by kernel_rfl) (by kernel_rfl) (by kernel_rfl) 25 (fun _ => by kernel_rfl) none 0 0 (by omega) 124 (by kernel_rfl) (.func 108) #[] _ _).mono ?_
  rintro e w' ⟨rfl, os, rfl⟩
  have hbl : Below (w2.alloc (.cells #[.slice none 0 0] 32)).heap.size (w2.alloc (.cells #[.slice none 0 0] 32)) (Go.Sort.grow (w2.alloc (.cells #[.slice none 0 0] 32)) os) :=
   ⟨rfl, rfl, rfl, by rw [Go.Sort.size_grow]; omega, fun k hk => Go.Sort.heap_grow_old _ _ hk⟩
  exact ⟨rfl, [], ⟨List.Perm.refl _, List.Pairwise.nil⟩, rfl, Kd.R_nil _ _ _ _ _, hbl.mono (by simp; omega), by rw [hbl.cell (by simp)]; exact hB, hbl.size⟩
 ·exact (impl_sheetOf.sort (w2.alloc (.cells #[.slice (some ⟨g, 0, none⟩) xs.length cap] 32)) w2.heap.size g base xs.length cap xs HO2 hB (by omega) (by simp) (by simp; omega) hlen).mono fun e w' h => h
set_option maxHeartbeats 4000000 in
set_option maxRecDepth 100000 in
theorem impl_sheetOf.calls (k : Nat) (A0 : Option Addr) (c0 : Nat) (l0 : List S42) (r1 : List S42) (r2 : Bool) (w : World) (hr0 : Kd.C k42 w A0 l0.length l0) (hc0 : l0.length ≤ c0) (h : impl_sheetOf.f k l0 = some (r1, r2)) :
 Calls Try.prog 83 #[.slice A0 l0.length c0] w fun e w' => ∃ v0_ : Value, e = .returned (.tuple #[v0_, .bool r2]) ∧ Kd.R k42 42 w' w.heap.size (fun _ => True) v0_ r1 ∧ Below w.heap.size w w' := by
 by_cases hl : (l0.length : Int) > 60
 ·have hl2 : 60 < l0.length := by omega
  unfold impl_sheetOf.f at h
  rw [if_pos hl] at h
  injection h with h
  injection h with h1 h2
  subst h1; subst h2
  clear hr0 hc0
  go_enter Try.func83, Try.ntmps83
  go_wp2
  go_ret2
  exact ⟨_, rfl, Kd.R_nil _ _ _ _ _, Below.refl _ _⟩
 ·have hl2 : l0.length ≤ 60 := by omega
  have HT := Aside0.mk (impl_sheetOf.tells k l0 r1 r2 hl h)
  have hcl : impl_Hole_66.f l0 = some l0 := if_pos (by omega)
  have HR0 := Aside0.mk hr0
  have HC0 := Aside0.mk hc0
  have HCL := Aside0.mk hcl
  clear hr0 hc0 hcl h
  go_enter Try.func83, Try.ntmps83
  go_wp2_with (first
   | (go_at_call 66; refine (impl_Hole_66.calls A0 c0 l0 l0 _ HR0.out HC0.out HCL.out).mono ?_; rintro e w2 ⟨v2, rfl, ho, hb⟩; obtain ⟨A2, c2, rfl⟩ := Kd.R_slice ho; have HO := Aside0.mk ho; have HB2 := Aside0.mk hb; clear ho hb)
   | (go_at_call 107; refine (impl_sheetOf.sortV w2 w.heap.size (.slice A2 l0.length c2) l0 HO.out HB2.out.size hl2).mono ?_; rintro e w3 ⟨rfl, ys, hS, hy, ho, hb, hcB, hsz⟩; have HS := Aside0.mk hS; have HY := Aside0.mk hy; have HO3 := Aside0.mk ho; have HB3 := Aside0.mk hb; clear hS hy ho hb))
  obtain ⟨K, b, e, ht, hf⟩ := HT.out ys HS.out
  obtain ⟨_, hyc, hrd⟩ := Kd.R_reads' HO3.out
  have hcall := impl_IsSheet.calls K A2 c2 ys b w3 hrd (by have := HY.out; omega) e
  rw [HY.out] at hcall
  have HB : Aside0 (Below w.heap.size w w3) := ⟨(below_alloc HB2.out _).trans HB3.out⟩
  have hws : w.heap.size ≤ w3.heap.size := HB.out.size
  have hB2 : w2.heap.size < w3.heap.size := by simp at hsz; omega
  clear hrd hyc HB3 HB2 HT HS
  cases b with
  | false =>
   obtain ⟨rfl, rfl⟩ := hf rfl
   clear ht hf e
   go_wp2_with (go_at_call 21; refine hcall.mono ?_; rintro e w4 ⟨rfl, hb4⟩)
   go_ret2
   exact ⟨_, rfl, Kd.R_nil _ _ _ _ _, HB.out.trans (hb4.mono hws)⟩
  | true =>
   obtain ⟨rfl, rfl⟩ := ht rfl
   clear ht hf e
   go_wp2_with (go_at_call 21; refine hcall.mono ?_; rintro e w4 ⟨rfl, hb4⟩; have hc4 := (hb4.cell (p := ⟨w2.heap.size, 0, none⟩) hB2).trans hcB)
   go_ret2
   exact ⟨_, rfl, by have h := Kd.R_below HO3.out hb4; first | exact h | (rw [← HY.out] at h; exact h), HB.out.trans (hb4.mono hws)⟩


/-! ### impl_ApplyDifference: function 31 -/
def impl_ApplyDifference.j0 : Nat → List (S42) → List (S42) → List (S42) → Bool → Option ((List (S42)) × Bool)
 | 0, _, _, _, _ => none
 | k + 1, x0, x1, x2, x28 => if x28 = true then (some (([] : List (S42)), false)) else ((impl_lessHoles.f x0 x1).bind fun t230 => ((impl_lessHoles.f x2 t230).bind fun t233 => (if (t233.length : Int) < (x2.length : Int) then (some (([] : List (S42)), false)) else (if t230.length + x2.length < 5864062014805 then ((impl_sheetOf.f k (t230 ++ x2)).bind fun bt239 => (some (bt239.1, bt239.2))) else (none)))))
def impl_ApplyDifference.f (k : Nat) (l0 : List (S42)) (l1 : List (S42)) (l2 : List (S42)) : Option ((List (S42)) × Bool) := (impl_IsSheet.f k l0).bind fun t224 => (if t224 = true then ((impl_IsSheet.f k l1).bind fun t225 => (if t225 = true then ((impl_IsSheet.f k l2).bind fun t226 => (if t226 = true then ((impl_lessHoles.f l1 l0).bind fun t227 => (impl_ApplyDifference.j0 k l0 l1 l2 (decide ((t227.length : Int) > 0)))) else (impl_ApplyDifference.j0 k l0 l1 l2 true))) else (impl_ApplyDifference.j0 k l0 l1 l2 true))) else (impl_ApplyDifference.j0 k l0 l1 l2 true))
theorem impl_ApplyDifference.mono_l : ∀ k, (∀ y0 y1 y2 y3, LeO (impl_ApplyDifference.j0 k y0 y1 y2 y3) (impl_ApplyDifference.j0 (k + 1) y0 y1 y2 y3))
 | 0 => fun _ _ _ _ r h => by simp [impl_ApplyDifference.j0] at h
 | k + 1 => by
  have ih0 := impl_ApplyDifference.mono_l k
  ·intro y0 y1 y2 y3
   unfold impl_ApplyDifference.j0
   repeat' first
   | (with_reducible exact ih0 _ _ _ _)
   | (with_reducible exact impl_IsSheet.mono _ _)
   | (with_reducible exact impl_sheetOf.mono _ _)
   | (with_reducible exact LeO.refl _)
   | (with_reducible exact LeO.none _)
   | (with_reducible refine LeO.ite ?_ ?_)
   | (with_reducible refine LeO.bind ?_ (fun _ => ?_))
   | exact ih0 _ _ _ _
   | exact impl_IsSheet.mono _ _
   | exact impl_sheetOf.mono _ _
   | exact LeO.none _
   | refine LeO.ite ?_ ?_
   | refine LeO.bind ?_ (fun _ => ?_)
theorem impl_ApplyDifference.mono : ∀ a0 a1 a2 k, LeO (impl_ApplyDifference.f k a0 a1 a2) (impl_ApplyDifference.f (k + 1) a0 a1 a2) := by
 intro a0 a1 a2 k
 have ih0 := impl_ApplyDifference.mono_l k
 unfold impl_ApplyDifference.f
 repeat' first
  | (with_reducible exact ih0 _ _ _ _)
  | (with_reducible exact impl_IsSheet.mono _ _)
  | (with_reducible exact impl_sheetOf.mono _ _)
  | (with_reducible exact LeO.refl _)
  | (with_reducible exact LeO.none _)
  | (with_reducible refine LeO.ite ?_ ?_)
  | (with_reducible refine LeO.bind ?_ (fun _ => ?_))
  | exact ih0 _ _ _ _
  | exact impl_IsSheet.mono _ _
  | exact impl_sheetOf.mono _ _
  | exact LeO.none _
  | refine LeO.ite ?_ ?_
  | refine LeO.bind ?_ (fun _ => ?_)
set_option maxHeartbeats 8000000 in
set_option maxRecDepth 100000 in
theorem impl_ApplyDifference.calls (k : Nat) (A0 : Option Addr) (c0 : Nat) (l0 : List (S42)) (A1 : Option Addr) (c1 : Nat) (l1 : List (S42)) (A2 : Option Addr) (c2 : Nat) (l2 : List (S42)) (r1 : List (S42)) (r2 : Bool) (w : World) (hr0 : Kd.C k42 w A0 l0.length l0) (hc0 : l0.length ≤ c0) (hr1 : Kd.C k42 w A1 l1.length l1) (hc1 : l1.length ≤ c1) (hr2 : Kd.C k42 w A2 l2.length l2) (hc2 : l2.length ≤ c2) (h : impl_ApplyDifference.f k l0 l1 l2 = some (r1, r2)) :
 Calls Try.prog 31 #[.slice A0 l0.length c0, .slice A1 l1.length c1, .slice A2 l2.length c2] w fun e w' => ∃ v0_ : Value, e = .returned (.tuple #[v0_, .bool r2]) ∧ Kd.R k42 42 w' w.heap.size (fun _ => True) v0_ r1 ∧ Below w.heap.size w w' := by
 have HR0 := Aside0.mk hr0
 have HC0 := Aside0.mk hc0
 clear hr0 hc0
 have HR1 := Aside0.mk hr1
 have HC1 := Aside0.mk hc1
 clear hr1 hc1
 have HR2 := Aside0.mk hr2
 have HC2 := Aside0.mk hc2
 clear hr2 hc2
 have HB := Aside0.mk (Below.refl w.heap.size w)
 have H : ((impl_IsSheet.f k l0).bind fun t224 => (if t224 = true then ((impl_IsSheet.f k l1).bind fun t225 => (if t225 = true then ((impl_IsSheet.f k l2).bind fun t226 => (if t226 = true then ((impl_lessHoles.f l1 l0).bind fun t227 => (impl_ApplyDifference.j0 k l0 l1 l2 (decide ((t227.length : Int) > 0)))) else (impl_ApplyDifference.j0 k l0 l1 l2 true))) else (impl_ApplyDifference.j0 k l0 l1 l2 true))) else (impl_ApplyDifference.j0 k l0 l1 l2 true))) = some (r1, r2) := h
 clear h
 have HC4 := Aside0.mk H
 clear H
 go_enter Try.func31, Try.ntmps31
 go_upto_region 1 with (fail)
 go_cut [28] (fun v28 wc => ∃ (kq : Nat) (x28_3 : Bool), v28 = .bool x28_3 ∧ Aside0 (impl_ApplyDifference.j0 kq l0 l1 l2 x28_3 = some (r1, r2)) ∧ Aside0 (kq ≤ k) ∧ Aside0 (Below w.heap.size w wc))
 case first =>
  have H := HC4.out
  clear HC4
  replace H := Option.bind_eq_some_iff.mp H
  obtain ⟨t224, A50, H⟩ := H
  replace H : (if t224 = true then ((impl_IsSheet.f k l1).bind fun t225 => (if t225 = true then ((impl_IsSheet.f k l2).bind fun t226 => (if t226 = true then ((impl_lessHoles.f l1 l0).bind fun t227 => (impl_ApplyDifference.j0 k l0 l1 l2 (decide ((t227.length : Int) > 0)))) else (impl_ApplyDifference.j0 k l0 l1 l2 true))) else (impl_ApplyDifference.j0 k l0 l1 l2 true))) else (impl_ApplyDifference.j0 k l0 l1 l2 true)) = some (r1, r2) := H
  have A5 := Aside0.mk A50
  clear A50
  by_cases c6 : t224 = true
  ·subst c6
   have H1 : ((impl_IsSheet.f k l1).bind fun t225 => (if t225 = true then ((impl_IsSheet.f k l2).bind fun t226 => (if t226 = true then ((impl_lessHoles.f l1 l0).bind fun t227 => (impl_ApplyDifference.j0 k l0 l1 l2 (decide ((t227.length : Int) > 0)))) else (impl_ApplyDifference.j0 k l0 l1 l2 true))) else (impl_ApplyDifference.j0 k l0 l1 l2 true))) = some (r1, r2) := by rw [if_pos rfl] at H; exact H
   clear H
   have H := H1
   clear H1
   replace H := Option.bind_eq_some_iff.mp H
   obtain ⟨t225, A70, H⟩ := H
   replace H : (if t225 = true then ((impl_IsSheet.f k l2).bind fun t226 => (if t226 = true then ((impl_lessHoles.f l1 l0).bind fun t227 => (impl_ApplyDifference.j0 k l0 l1 l2 (decide ((t227.length : Int) > 0)))) else (impl_ApplyDifference.j0 k l0 l1 l2 true))) else (impl_ApplyDifference.j0 k l0 l1 l2 true)) = some (r1, r2) := H
   have A7 := Aside0.mk A70
   clear A70
   by_cases c8 : t225 = true
   ·subst c8
    have H1 : ((impl_IsSheet.f k l2).bind fun t226 => (if t226 = true then ((impl_lessHoles.f l1 l0).bind fun t227 => (impl_ApplyDifference.j0 k l0 l1 l2 (decide ((t227.length : Int) > 0)))) else (impl_ApplyDifference.j0 k l0 l1 l2 true))) = some (r1, r2) := by rw [if_pos rfl] at H; exact H
    clear H
    have H := H1
    clear H1
    replace H := Option.bind_eq_some_iff.mp H
    obtain ⟨t226, A90, H⟩ := H
    replace H : (if t226 = true then ((impl_lessHoles.f l1 l0).bind fun t227 => (impl_ApplyDifference.j0 k l0 l1 l2 (decide ((t227.length : Int) > 0)))) else (impl_ApplyDifference.j0 k l0 l1 l2 true)) = some (r1, r2) := H
    have A9 := Aside0.mk A90
    clear A90
    by_cases c10 : t226 = true
    ·subst c10
     have H1 : ((impl_lessHoles.f l1 l0).bind fun t227 => (impl_ApplyDifference.j0 k l0 l1 l2 (decide ((t227.length : Int) > 0)))) = some (r1, r2) := by rw [if_pos rfl] at H; exact H
     clear H
     have H := H1
     clear H1
     replace H := Option.bind_eq_some_iff.mp H
     obtain ⟨t227, A110, H⟩ := H
     replace H : (impl_ApplyDifference.j0 k l0 l1 l2 (decide ((t227.length : Int) > 0))) = some (r1, r2) := H
     have A11 := Aside0.mk A110
     clear A110
     have H' := Aside0.mk H
     clear H
     go_wp2_with (first | ((with_reducible refine gate_callee (f := 21) rfl ?_); refine goesL_ (some 10) rfl rfl Try.func21 (by kernel_rfl) rfl #[.slice A0 l0.length c0] rfl (by (try simp only [List.map_toArray, List.map_cons, List.map_nil]); first | done | rfl | (simp only [List.length_drop, List.length_take]; rfl)) ?_; (with_reducible refine (impl_IsSheet.calls k _ _ l0 true _ ?side1 ?side2 A5.out).mono ?_); (case side1 => repeat (first | exact (Kd.C_below HR0.out HB.out) | (with_reducible refine Kd.C_alloc ?_ _) | (with_reducible refine Kd.C_drewN ?_ _) | (with_reducible refine Kd.C_drew ?_))); (case side2 => exact HC0.out); rintro e w12 ⟨rfl, hb⟩; refine ⟨_, rfl, ?_⟩; have n0_ := Aside0.mk (below_step (by repeat (first | (with_reducible first | exact HB.out | apply below_alloc | apply pw_below_drewN | apply below_drew1) | exact HB.out)) hb); clear HB; have HB := n0_; clear n0_; (try clear hb); (try clear hb2); (try clear hk); (try clear hi)) | (go_at_call 21; (with_reducible refine (impl_IsSheet.calls k _ _ l1 true _ ?side1 ?side2 A7.out).mono ?_); (case side1 => repeat (first | exact (Kd.C_below HR1.out HB.out) | (with_reducible refine Kd.C_alloc ?_ _) | (with_reducible refine Kd.C_drewN ?_ _) | (with_reducible refine Kd.C_drew ?_))); (case side2 => exact HC1.out); rintro e w13 ⟨rfl, hb⟩; have n0_ := Aside0.mk (below_step (by repeat (first | (with_reducible first | exact HB.out | apply below_alloc | apply pw_below_drewN | apply below_drew1) | exact HB.out)) hb); clear HB; have HB := n0_; clear n0_; (try clear hb); (try clear hb2); (try clear hk); (try clear hi)) | (go_at_call 21; (with_reducible refine (impl_IsSheet.calls k _ _ l2 true _ ?side1 ?side2 A9.out).mono ?_); (case side1 => repeat (first | exact (Kd.C_below HR2.out HB.out) | (with_reducible refine Kd.C_alloc ?_ _) | (with_reducible refine Kd.C_drewN ?_ _) | (with_reducible refine Kd.C_drew ?_))); (case side2 => exact HC2.out); rintro e w14 ⟨rfl, hb⟩; have n0_ := Aside0.mk (below_step (by repeat (first | (with_reducible first | exact HB.out | apply below_alloc | apply pw_below_drewN | apply below_drew1) | exact HB.out)) hb); clear HB; have HB := n0_; clear n0_; (try clear hb); (try clear hb2); (try clear hk); (try clear hi)) | (go_at_call 82; (with_reducible refine (impl_lessHoles.calls _ _ l1 _ _ l0 t227 _ ?side1 ?side2 ?side3 ?side4 A11.out).mono ?_); (case side1 => repeat (first | exact (Kd.C_below HR1.out HB.out) | (with_reducible refine Kd.C_alloc ?_ _) | (with_reducible refine Kd.C_drewN ?_ _) | (with_reducible refine Kd.C_drew ?_))); (case side2 => exact HC1.out); (case side3 => repeat (first | exact (Kd.C_below HR0.out HB.out) | (with_reducible refine Kd.C_alloc ?_ _) | (with_reducible refine Kd.C_drewN ?_ _) | (with_reducible refine Kd.C_drew ?_))); (case side4 => exact HC0.out); rintro e w15 ⟨v228, rfl, ho0, hb⟩; have n0_ := Aside0.mk (Kd.R_lower ho0 (below_size (by repeat (first | (with_reducible first | exact HB.out | apply below_alloc | apply pw_below_drewN | apply below_drew1) | exact HB.out)))); have n1_ := Aside0.mk (below_step (by repeat (first | (with_reducible first | exact HB.out | apply below_alloc | apply pw_below_drewN | apply below_drew1) | exact HB.out)) hb); clear HB; have HO229 := n0_; have HB := n1_; clear n0_ n1_; (try clear hb); (try clear hb2); (try clear hk); (try clear hi); (try clear ho0); obtain ⟨Ao16, co16, eo16⟩ := Kd.R_slice HO229.out; subst eo16))
     go_meet
     case rel => exact ⟨_, (decide ((t227.length : Int) > 0)), (by first | rfl | (simp; done) | (simp [*]; done)), H', ⟨by first | omega | exact Nat.le_refl _⟩, ⟨by repeat (first | (with_reducible first | exact HB.out | apply below_alloc | apply pw_below_drewN | apply below_drew1) | exact HB.out)⟩⟩
    ·replace c10 := Bool.eq_false_iff.mpr c10
     subst c10
     have H1 : (impl_ApplyDifference.j0 k l0 l1 l2 true) = some (r1, r2) := by rw [if_neg (show ¬ (false = true) by decide)] at H; exact H
     clear H
     have H := H1
     clear H1
     have H' := Aside0.mk H
     clear H
     go_wp2_with (first | ((with_reducible refine gate_callee (f := 21) rfl ?_); refine goesL_ (some 10) rfl rfl Try.func21 (by kernel_rfl) rfl #[.slice A0 l0.length c0] rfl (by (try simp only [List.map_toArray, List.map_cons, List.map_nil]); first | done | rfl | (simp only [List.length_drop, List.length_take]; rfl)) ?_; (with_reducible refine (impl_IsSheet.calls k _ _ l0 true _ ?side1 ?side2 A5.out).mono ?_); (case side1 => repeat (first | exact (Kd.C_below HR0.out HB.out) | (with_reducible refine Kd.C_alloc ?_ _) | (with_reducible refine Kd.C_drewN ?_ _) | (with_reducible refine Kd.C_drew ?_))); (case side2 => exact HC0.out); rintro e w17 ⟨rfl, hb⟩; refine ⟨_, rfl, ?_⟩; have n0_ := Aside0.mk (below_step (by repeat (first | (with_reducible first | exact HB.out | apply below_alloc | apply pw_below_drewN | apply below_drew1) | exact HB.out)) hb); clear HB; have HB := n0_; clear n0_; (try clear hb); (try clear hb2); (try clear hk); (try clear hi)) | (go_at_call 21; (with_reducible refine (impl_IsSheet.calls k _ _ l1 true _ ?side1 ?side2 A7.out).mono ?_); (case side1 => repeat (first | exact (Kd.C_below HR1.out HB.out) | (with_reducible refine Kd.C_alloc ?_ _) | (with_reducible refine Kd.C_drewN ?_ _) | (with_reducible refine Kd.C_drew ?_))); (case side2 => exact HC1.out); rintro e w18 ⟨rfl, hb⟩; have n0_ := Aside0.mk (below_step (by repeat (first | (with_reducible first | exact HB.out | apply below_alloc | apply pw_below_drewN | apply below_drew1) | exact HB.out)) hb); clear HB; have HB := n0_; clear n0_; (try clear hb); (try clear hb2); (try clear hk); (try clear hi)) | (go_at_call 21; (with_reducible refine (impl_IsSheet.calls k _ _ l2 false _ ?side1 ?side2 A9.out).mono ?_); (case side1 => repeat (first | exact (Kd.C_below HR2.out HB.out) | (with_reducible refine Kd.C_alloc ?_ _) | (with_reducible refine Kd.C_drewN ?_ _) | (with_reducible refine Kd.C_drew ?_))); (case side2 => exact HC2.out); rintro e w19 ⟨rfl, hb⟩; have n0_ := Aside0.mk (below_step (by repeat (first | (with_reducible first | exact HB.out | apply below_alloc | apply pw_below_drewN | apply below_drew1) | exact HB.out)) hb); clear HB; have HB := n0_; clear n0_; (try clear hb); (try clear hb2); (try clear hk); (try clear hi)))
     go_meet
     case rel => exact ⟨_, (true), (by first | rfl | (simp; done) | (simp [*]; done)), H', ⟨by first | omega | exact Nat.le_refl _⟩, ⟨by repeat (first | (with_reducible first | exact HB.out | apply below_alloc | apply pw_below_drewN | apply below_drew1) | exact HB.out)⟩⟩
   ·replace c8 := Bool.eq_false_iff.mpr c8
    subst c8
    have H1 : (impl_ApplyDifference.j0 k l0 l1 l2 true) = some (r1, r2) := by rw [if_neg (show ¬ (false = true) by decide)] at H; exact H
    clear H
    have H := H1
    clear H1
    have H' := Aside0.mk H
    clear H
    go_wp2_with (first | ((with_reducible refine gate_callee (f := 21) rfl ?_); refine goesL_ (some 10) rfl rfl Try.func21 (by kernel_rfl) rfl #[.slice A0 l0.length c0] rfl (by (try simp only [List.map_toArray, List.map_cons, List.map_nil]); first | done | rfl | (simp only [List.length_drop, List.length_take]; rfl)) ?_; (with_reducible refine (impl_IsSheet.calls k _ _ l0 true _ ?side1 ?side2 A5.out).mono ?_); (case side1 => repeat (first | exact (Kd.C_below HR0.out HB.out) | (with_reducible refine Kd.C_alloc ?_ _) | (with_reducible refine Kd.C_drewN ?_ _) | (with_reducible refine Kd.C_drew ?_))); (case side2 => exact HC0.out); rintro e w20 ⟨rfl, hb⟩; refine ⟨_, rfl, ?_⟩; have n0_ := Aside0.mk (below_step (by repeat (first | (with_reducible first | exact HB.out | apply below_alloc | apply pw_below_drewN | apply below_drew1) | exact HB.out)) hb); clear HB; have HB := n0_; clear n0_; (try clear hb); (try clear hb2); (try clear hk); (try clear hi)) | (go_at_call 21; (with_reducible refine (impl_IsSheet.calls k _ _ l1 false _ ?side1 ?side2 A7.out).mono ?_); (case side1 => repeat (first | exact (Kd.C_below HR1.out HB.out) | (with_reducible refine Kd.C_alloc ?_ _) | (with_reducible refine Kd.C_drewN ?_ _) | (with_reducible refine Kd.C_drew ?_))); (case side2 => exact HC1.out); rintro e w21 ⟨rfl, hb⟩; have n0_ := Aside0.mk (below_step (by repeat (first | (with_reducible first | exact HB.out | apply below_alloc | apply pw_below_drewN | apply below_drew1) | exact HB.out)) hb); clear HB; have HB := n0_; clear n0_; (try clear hb); (try clear hb2); (try clear hk); (try clear hi)))
    go_meet
    case rel => exact ⟨_, (true), (by first | rfl | (simp; done) | (simp [*]; done)), H', ⟨by first | omega | exact Nat.le_refl _⟩, ⟨by repeat (first | (with_reducible first | exact HB.out | apply below_alloc | apply pw_below_drewN | apply below_drew1) | exact HB.out)⟩⟩
  ·replace c6 := Bool.eq_false_iff.mpr c6
   subst c6
   have H1 : (impl_ApplyDifference.j0 k l0 l1 l2 true) = some (r1, r2) := by rw [if_neg (show ¬ (false = true) by decide)] at H; exact H
   clear H
   have H := H1
   clear H1
   have H' := Aside0.mk H
   clear H
   go_wp2_with (first | ((with_reducible refine gate_callee (f := 21) rfl ?_); refine goesL_ (some 10) rfl rfl Try.func21 (by kernel_rfl) rfl #[.slice A0 l0.length c0] rfl (by (try simp only [List.map_toArray, List.map_cons, List.map_nil]); first | done | rfl | (simp only [List.length_drop, List.length_take]; rfl)) ?_; (with_reducible refine (impl_IsSheet.calls k _ _ l0 false _ ?side1 ?side2 A5.out).mono ?_); (case side1 => repeat (first | exact (Kd.C_below HR0.out HB.out) | (with_reducible refine Kd.C_alloc ?_ _) | (with_reducible refine Kd.C_drewN ?_ _) | (with_reducible refine Kd.C_drew ?_))); (case side2 => exact HC0.out); rintro e w22 ⟨rfl, hb⟩; refine ⟨_, rfl, ?_⟩; have n0_ := Aside0.mk (below_step (by repeat (first | (with_reducible first | exact HB.out | apply below_alloc | apply pw_below_drewN | apply below_drew1) | exact HB.out)) hb); clear HB; have HB := n0_; clear n0_; (try clear hb); (try clear hb2); (try clear hk); (try clear hi)))
   go_meet
   case rel => exact ⟨_, (true), (by first | rfl | (simp; done) | (simp [*]; done)), H', ⟨by first | omega | exact Nat.le_refl _⟩, ⟨by repeat (first | (with_reducible first | exact HB.out | apply below_alloc | apply pw_below_drewN | apply below_drew1) | exact HB.out)⟩⟩
 case rest =>
  clear HC4
  try clear c1
  try clear c2
  try clear p2
  try clear c3
  try clear c6
  try clear c8
  try clear c10
  try clear c21
  obtain ⟨kq, x28_3, rfl, HA, HJ3, HB⟩ := hcut
  cases kq with
  | zero => exact absurd HA.out (by simp [impl_ApplyDifference.j0])
  | succ kj3 =>
   have H := HA.out
   clear HA
   simp only [impl_ApplyDifference.j0] at H
   by_cases c23 : x28_3 = true
   ·subst c23
    have H1 : (some (([] : List (S42)), false)) = some (r1, r2) := by rw [if_pos rfl] at H; exact H
    clear H
    have H := H1
    clear H1
    simp only [Option.some.injEq, Prod.mk.injEq] at H
    obtain ⟨rfl, rfl⟩ := H
    go_wp2
    go_ret2
    exact ⟨_, by first | rfl | (simp [errW_none, errW_some] <;> rfl) | (simp [*, errW_none, errW_some] <;> rfl), by first | exact Kd.R_nil _ _ _ _ _ | exact Kd.N_nil _ _ _ _ _ | exact Kd.V_nil _ _ _ _ _ | exact Kd.Q_nil _ _ _ _ _ | exact Kd.S_nil _ _ _ _ _, by repeat (first | (with_reducible first | exact HB.out | apply below_alloc | apply pw_below_drewN | apply below_drew1) | exact HB.out)⟩
   ·replace c23 := Bool.eq_false_iff.mpr c23
    subst c23
    have H1 : ((impl_lessHoles.f l0 l1).bind fun t230 => ((impl_lessHoles.f l2 t230).bind fun t233 => (if (t233.length : Int) < (l2.length : Int) then (some (([] : List (S42)), false)) else (if t230.length + l2.length < 5864062014805 then ((impl_sheetOf.f kj3 (t230 ++ l2)).bind fun bt239 => (some (bt239.1, bt239.2))) else (none))))) = some (r1, r2) := by rw [if_neg (show ¬ (false = true) by decide)] at H; exact H
    clear H
    have H := H1
    clear H1
    replace H := Option.bind_eq_some_iff.mp H
    obtain ⟨t230, A240, H⟩ := H
    replace H : ((impl_lessHoles.f l2 t230).bind fun t233 => (if (t233.length : Int) < (l2.length : Int) then (some (([] : List (S42)), false)) else (if t230.length + l2.length < 5864062014805 then ((impl_sheetOf.f kj3 (t230 ++ l2)).bind fun bt239 => (some (bt239.1, bt239.2))) else (none)))) = some (r1, r2) := H
    have A24 := Aside0.mk A240
    clear A240
    replace H := Option.bind_eq_some_iff.mp H
    obtain ⟨t233, A250, H⟩ := H
    replace H : (if (t233.length : Int) < (l2.length : Int) then (some (([] : List (S42)), false)) else (if t230.length + l2.length < 5864062014805 then ((impl_sheetOf.f kj3 (t230 ++ l2)).bind fun bt239 => (some (bt239.1, bt239.2))) else (none))) = some (r1, r2) := H
    have A25 := Aside0.mk A250
    clear A250
    by_cases c26 : (t233.length : Int) < (l2.length : Int)
    ·rw [if_pos c26] at H
     have c26b0 : decide ((t233.length : Int) < (l2.length : Int)) = true := decide_eq_true c26
     have c26b1 : decide (t233.length < l2.length) = true := decide_eq_true (Int.ofNat_lt.mp c26)
     clear c26
     simp only [Option.some.injEq, Prod.mk.injEq] at H
     obtain ⟨rfl, rfl⟩ := H
     go_wp2_with (first | ((with_reducible refine gate_callee (f := 82) rfl ?_); refine goesL_ (some 31) rfl rfl Try.func82 (by kernel_rfl) rfl #[.slice A0 l0.length c0, .slice A1 l1.length c1] rfl (by (try simp only [List.map_toArray, List.map_cons, List.map_nil]); first | done | rfl | (simp only [List.length_drop, List.length_take]; rfl)) ?_; (with_reducible refine (impl_lessHoles.calls _ _ l0 _ _ l1 t230 _ ?side1 ?side2 ?side3 ?side4 A24.out).mono ?_); (case side1 => repeat (first | exact (Kd.C_below HR0.out HB.out) | (with_reducible refine Kd.C_alloc ?_ _) | (with_reducible refine Kd.C_drewN ?_ _) | (with_reducible refine Kd.C_drew ?_))); (case side2 => exact HC0.out); (case side3 => repeat (first | exact (Kd.C_below HR1.out HB.out) | (with_reducible refine Kd.C_alloc ?_ _) | (with_reducible refine Kd.C_drewN ?_ _) | (with_reducible refine Kd.C_drew ?_))); (case side4 => exact HC1.out); rintro e w27 ⟨v231, rfl, ho0, hb⟩; refine ⟨_, rfl, ?_⟩; have n0_ := Aside0.mk (Kd.R_lower ho0 (below_size (by repeat (first | (with_reducible first | exact HB.out | apply below_alloc | apply pw_below_drewN | apply below_drew1) | exact HB.out)))); have n1_ := Aside0.mk (below_step (by repeat (first | (with_reducible first | exact HB.out | apply below_alloc | apply pw_below_drewN | apply below_drew1) | exact HB.out)) hb); clear HB; have HO232 := n0_; have HB := n1_; clear n0_ n1_; (try clear hb); (try clear hb2); (try clear hk); (try clear hi); (try clear ho0); obtain ⟨Ao28, co28, eo28⟩ := Kd.R_slice HO232.out; subst eo28) | ((with_reducible refine gate_callee (f := 82) rfl ?_); refine goesL_ (some 34) rfl rfl Try.func82 (by kernel_rfl) rfl #[.slice A2 l2.length c2, .slice Ao28 t230.length co28] rfl (by (try simp only [List.map_toArray, List.map_cons, List.map_nil]); first | done | rfl | (simp only [List.length_drop, List.length_take]; rfl)) ?_; (with_reducible refine (impl_lessHoles.calls _ _ l2 _ _ t230 t233 _ ?side1 ?side2 ?side3 ?side4 A25.out).mono ?_); (case side1 => repeat (first | exact (Kd.C_below HR2.out HB.out) | (with_reducible refine Kd.C_alloc ?_ _) | (with_reducible refine Kd.C_drewN ?_ _) | (with_reducible refine Kd.C_drew ?_))); (case side2 => exact HC2.out); (case side3 => repeat (first | exact (Kd.R_reads' HO232.out).2.2 | (with_reducible refine Kd.C_alloc ?_ _) | (with_reducible refine Kd.C_drewN ?_ _) | (with_reducible refine Kd.C_drew ?_))); (case side4 => exact (Kd.R_reads' HO232.out).2.1); rintro e w29 ⟨v234, rfl, ho0, hb⟩; refine ⟨_, rfl, ?_⟩; have n0_ := Aside0.mk (Kd.R_elder' (by (with_reducible repeat (first | apply Kd.R_alloc | apply Kd.R_drewN | apply Kd.R_drew)); exact HO232.out) (Kd.R_base ho0) hb); have n1_ := Aside0.mk (Kd.R_lower (Kd.R_new' ho0 (Kd.R_lt (by (with_reducible repeat (first | apply Kd.R_alloc | apply Kd.R_drewN | apply Kd.R_drew)); exact HO232.out))) (below_size (by repeat (first | (with_reducible first | exact HB.out | apply below_alloc | apply pw_below_drewN | apply below_drew1) | exact HB.out)))); have n2_ := Aside0.mk (below_step (by repeat (first | (with_reducible first | exact HB.out | apply below_alloc | apply pw_below_drewN | apply below_drew1) | exact HB.out)) hb); clear HO232; clear HB; have HO232 := n0_; have HO235 := n1_; have HB := n2_; clear n0_ n1_ n2_; (try clear hb); (try clear hb2); (try clear hk); (try clear hi); (try clear ho0); obtain ⟨Ao30, co30, eo30⟩ := Kd.R_slice HO235.out; subst eo30))
     go_ret2
     exact ⟨_, by first | rfl | (simp [errW_none, errW_some] <;> rfl) | (simp [*, errW_none, errW_some] <;> rfl), by first | exact Kd.R_nil _ _ _ _ _ | exact Kd.N_nil _ _ _ _ _ | exact Kd.V_nil _ _ _ _ _ | exact Kd.Q_nil _ _ _ _ _ | exact Kd.S_nil _ _ _ _ _, by repeat (first | (with_reducible first | exact HB.out | apply below_alloc | apply pw_below_drewN | apply below_drew1) | exact HB.out)⟩
    ·rw [if_neg c26] at H
     have c26b0 : decide ((t233.length : Int) < (l2.length : Int)) = false := decide_eq_false c26
     have c26b1 : decide (t233.length < l2.length) = false := decide_eq_false (fun h => c26 (Int.ofNat_lt.mpr h))
     clear c26
     by_cases c31 : t230.length + l2.length < 5864062014805
     ·rw [if_pos c31] at H
      have LMc31 := Aside0.mk c31
      clear c31
      obtain ⟨y236, hy236⟩ : ∃ y_ : List (S42), y_ = (t230 ++ l2) := ⟨_, rfl⟩
      replace H : ((impl_sheetOf.f kj3 y236).bind fun bt239 => (some (bt239.1, bt239.2))) = some (r1, r2) := by first | (rw [hy236]; with_reducible exact H) | (have H2_ := (Option.bind_some _ _).symm.trans H; rw [hy236]; with_reducible exact H2_) | (have H2_ := (Option.bind_some _ _).symm.trans H; with_reducible exact H2_) | with_reducible exact H | (rw [hy236]; exact H) | exact H
      have Ny236 := Aside0.mk hy236
      clear hy236
      replace H := Option.bind_eq_some_iff.mp H
      obtain ⟨⟨t239, t240⟩, A320, H⟩ := H
      replace H : (some (t239, t240)) = some (r1, r2) := H
      have A32 := Aside0.mk A320
      clear A320
      simp only [Option.some.injEq, Prod.mk.injEq] at H
      obtain ⟨rfl, rfl⟩ := H
      go_wp2_with (first | ((with_reducible refine gate_callee (f := 82) rfl ?_); refine goesL_ (some 31) rfl rfl Try.func82 (by kernel_rfl) rfl #[.slice A0 l0.length c0, .slice A1 l1.length c1] rfl (by (try simp only [List.map_toArray, List.map_cons, List.map_nil]); first | done | rfl | (simp only [List.length_drop, List.length_take]; rfl)) ?_; (with_reducible refine (impl_lessHoles.calls _ _ l0 _ _ l1 t230 _ ?side1 ?side2 ?side3 ?side4 A24.out).mono ?_); (case side1 => repeat (first | exact (Kd.C_below HR0.out HB.out) | (with_reducible refine Kd.C_alloc ?_ _) | (with_reducible refine Kd.C_drewN ?_ _) | (with_reducible refine Kd.C_drew ?_))); (case side2 => exact HC0.out); (case side3 => repeat (first | exact (Kd.C_below HR1.out HB.out) | (with_reducible refine Kd.C_alloc ?_ _) | (with_reducible refine Kd.C_drewN ?_ _) | (with_reducible refine Kd.C_drew ?_))); (case side4 => exact HC1.out); rintro e w33 ⟨v231, rfl, ho0, hb⟩; refine ⟨_, rfl, ?_⟩; have n0_ := Aside0.mk (Kd.R_lower ho0 (below_size (by repeat (first | (with_reducible first | exact HB.out | apply below_alloc | apply pw_below_drewN | apply below_drew1) | exact HB.out)))); have n1_ := Aside0.mk (below_step (by repeat (first | (with_reducible first | exact HB.out | apply below_alloc | apply pw_below_drewN | apply below_drew1) | exact HB.out)) hb); clear HB; have HO232 := n0_; have HB := n1_; clear n0_ n1_; (try clear hb); (try clear hb2); (try clear hk); (try clear hi); (try clear ho0); obtain ⟨Ao34, co34, eo34⟩ := Kd.R_slice HO232.out; subst eo34) | ((with_reducible refine gate_callee (f := 82) rfl ?_); refine goesL_ (some 34) rfl rfl Try.func82 (by kernel_rfl) rfl #[.slice A2 l2.length c2, .slice Ao34 t230.length co34] rfl (by (try simp only [List.map_toArray, List.map_cons, List.map_nil]); first | done | rfl | (simp only [List.length_drop, List.length_take]; rfl)) ?_; (with_reducible refine (impl_lessHoles.calls _ _ l2 _ _ t230 t233 _ ?side1 ?side2 ?side3 ?side4 A25.out).mono ?_); (case side1 => repeat (first | exact (Kd.C_below HR2.out HB.out) | (with_reducible refine Kd.C_alloc ?_ _) | (with_reducible refine Kd.C_drewN ?_ _) | (with_reducible refine Kd.C_drew ?_))); (case side2 => exact HC2.out); (case side3 => repeat (first | exact (Kd.R_reads' HO232.out).2.2 | (with_reducible refine Kd.C_alloc ?_ _) | (with_reducible refine Kd.C_drewN ?_ _) | (with_reducible refine Kd.C_drew ?_))); (case side4 => exact (Kd.R_reads' HO232.out).2.1); rintro e w35 ⟨v234, rfl, ho0, hb⟩; refine ⟨_, rfl, ?_⟩; have n0_ := Aside0.mk (Kd.R_elder' (by (with_reducible repeat (first | apply Kd.R_alloc | apply Kd.R_drewN | apply Kd.R_drew)); exact HO232.out) (Kd.R_base ho0) hb); have n1_ := Aside0.mk (Kd.R_lower (Kd.R_new' ho0 (Kd.R_lt (by (with_reducible repeat (first | apply Kd.R_alloc | apply Kd.R_drewN | apply Kd.R_drew)); exact HO232.out))) (below_size (by repeat (first | (with_reducible first | exact HB.out | apply below_alloc | apply pw_below_drewN | apply below_drew1) | exact HB.out)))); have n2_ := Aside0.mk (below_step (by repeat (first | (with_reducible first | exact HB.out | apply below_alloc | apply pw_below_drewN | apply below_drew1) | exact HB.out)) hb); clear HO232; clear HB; have HO232 := n0_; have HO235 := n1_; have HB := n2_; clear n0_ n1_ n2_; (try clear hb); (try clear hb2); (try clear hk); (try clear hi); (try clear ho0); obtain ⟨Ao36, co36, eo36⟩ := Kd.R_slice HO235.out; subst eo36) | ((with_reducible refine gate_builtin (b := .append) (xs := #[.tmp 39, .tmp 40]) rfl ?_); (try (refine gate_guard (by rfl) ?_; dsimp only)); at_builtin; refine Kd.R_append_rows k42 (w0 := w) w.heap.size rfl (.tmp 39) (.tmp 40) 32 42 (.agg #[(.int .i64 0), (.int .i64 0), (.int .i64 0)]) 24 rfl Try.underlying32 info42 rfl (by decide) (by omega) (.slice Ao34 t230.length co34) t230 l2 _ _ _ (fun k_ => some k_ ≠ (.slice Ao36 t233.length co36 : Value).ownBlock) (fun _ => False) rfl rfl ?aO ?aR (fun _ _ h => h) (fun _ h => h.elim) ?aF ?aB ?aS ?aL ?_; (case aR => repeat (first | exact (Kd.C_below HR2.out HB.out) | (with_reducible refine Kd.C_alloc ?_ _) | (with_reducible refine Kd.C_drewN ?_ _) | (with_reducible refine Kd.C_drew ?_))); (case aB => exact (by repeat (first | (with_reducible first | exact HB.out | apply below_alloc | apply pw_below_drewN | apply below_drew1) | exact HB.out))); (case aF => exact (fun k_ hk => Kd.fresh' (Kd.R_lt (by (with_reducible repeat (first | apply Kd.R_alloc | apply Kd.R_drewN | apply Kd.R_drew)); exact HO235.out)) k_ hk)); (case aO => exact (by (with_reducible repeat (first | apply Kd.R_alloc | apply Kd.R_drewN | apply Kd.R_drew)); exact Kd.R_mono HO232.out (fun _ hk => hk.2))); (case aS => exact (below_size (by repeat (first | (with_reducible first | exact HB.out | apply below_alloc | apply pw_below_drewN | apply below_drew1) | exact HB.out)))); (case aL => have := LMc31.out; omega); intro v237 w37 ho hb hg hat; rw [← Ny236.out] at ho; have n0_ := Aside0.mk (Kd.R_after (ok := (fun _ => True)) (by (with_reducible repeat (first | apply Kd.R_alloc | apply Kd.R_drewN | apply Kd.R_drew)); exact HO235.out) hg hat); have n1_ := Aside0.mk (hb); have n2_ := Aside0.mk (ho); clear HO235; clear HB; clear HO232; have HO235 := n0_; have HB := n1_; have HO238 := n2_; clear n0_ n1_ n2_; clear ho hb hg hat; obtain ⟨Ao38, co38, eo38⟩ := Kd.R_slice HO238.out; subst eo38) | ((with_reducible refine gate_callee (f := 83) rfl ?_); refine goesL_ (some 42) rfl rfl Try.func83 (by kernel_rfl) rfl #[.slice Ao38 y236.length co38] rfl (by (try simp only [List.map_toArray, List.map_cons, List.map_nil]); first | done | rfl | (simp only [List.length_drop, List.length_take]; rfl)) ?_; (with_reducible refine (impl_sheetOf.calls kj3 _ _ y236 t239 t240 _ ?side1 ?side2 A32.out).mono ?_); (case side1 => repeat (first | exact (Kd.R_reads' HO238.out).2.2 | (with_reducible refine Kd.C_alloc ?_ _) | (with_reducible refine Kd.C_drewN ?_ _) | (with_reducible refine Kd.C_drew ?_))); (case side2 => exact (Kd.R_reads' HO238.out).2.1); rintro e w39 ⟨v241, rfl, ho0, hb⟩; refine ⟨_, rfl, ?_⟩; have n0_ := Aside0.mk (Kd.R_elder' (by (with_reducible repeat (first | apply Kd.R_alloc | apply Kd.R_drewN | apply Kd.R_drew)); exact HO235.out) (Kd.R_base ho0) hb); have n1_ := Aside0.mk (Kd.R_elder' (by (with_reducible repeat (first | apply Kd.R_alloc | apply Kd.R_drewN | apply Kd.R_drew)); exact HO238.out) (Kd.R_base ho0) hb); have n2_ := Aside0.mk (Kd.R_lower (Kd.R_new' (Kd.R_new' ho0 (Kd.R_lt (by (with_reducible repeat (first | apply Kd.R_alloc | apply Kd.R_drewN | apply Kd.R_drew)); exact HO235.out))) (Kd.R_lt (by (with_reducible repeat (first | apply Kd.R_alloc | apply Kd.R_drewN | apply Kd.R_drew)); exact HO238.out))) (below_size (by repeat (first | (with_reducible first | exact HB.out | apply below_alloc | apply pw_below_drewN | apply below_drew1) | exact HB.out)))); have n3_ := Aside0.mk (below_step (by repeat (first | (with_reducible first | exact HB.out | apply below_alloc | apply pw_below_drewN | apply below_drew1) | exact HB.out)) hb); clear HO235; clear HO238; clear HB; have HO235 := n0_; have HO238 := n1_; have HO242 := n2_; have HB := n3_; clear n0_ n1_ n2_ n3_; (try clear hb); (try clear hb2); (try clear hk); (try clear hi); (try clear ho0)))
      go_ret2
      exact ⟨_, by first | rfl | (simp [errW_none, errW_some] <;> rfl) | (simp [*, errW_none, errW_some] <;> rfl), by (with_reducible repeat (first | apply Kd.R_alloc | apply Kd.R_drewN | apply Kd.R_drew)); exact Kd.R_mono HO242.out (fun _ hk => trivial), by repeat (first | (with_reducible first | exact HB.out | apply below_alloc | apply pw_below_drewN | apply below_drew1) | exact HB.out)⟩
     ·rw [if_neg c31] at H
      exact absurd H (by simp)

/-! ### laws_eqHole: function 84 -/
def laws_eqHole.f (a0_0 : Int) (a0_1 : Int) (a0_2 : Int) (a1_0 : Int) (a1_1 : Int) (a1_2 : Int) : Option (Bool) := if a0_0 = a1_0 then (if a0_1 = a1_1 then (if a0_2 = a1_2 then (some true) else (some false)) else (some false)) else (some false)
set_option maxHeartbeats 8000000 in
set_option maxRecDepth 100000 in
theorem laws_eqHole.calls (a0_0 : Int) (a0_1 : Int) (a0_2 : Int) (a1_0 : Int) (a1_1 : Int) (a1_2 : Int) (r : Bool) (w : World) (h : laws_eqHole.f a0_0 a0_1 a0_2 a1_0 a1_1 a1_2 = some r) :
 Calls Try.prog 84 #[.agg #[.int .i64 a0_0, .int .i64 a0_1, .int .i64 a0_2], .agg #[.int .i64 a1_0, .int .i64 a1_1, .int .i64 a1_2]] w fun e w' => e = .returned (.bool r) ∧ Below w.heap.size w w' := by
 have hu42 := Try.underlying42
 have HB := Aside0.mk (Below.refl w.heap.size w)
 have H : (if a0_0 = a1_0 then (if a0_1 = a1_1 then (if a0_2 = a1_2 then (some true) else (some false)) else (some false)) else (some false)) = some r := h
 clear h
 by_cases c3 : a0_0 = a1_0
 ·rw [if_pos c3] at H
  have c3b0 : (a0_0 == a1_0) = true := beq_iff_eq.mpr c3
  have c3b1 : (a0_0 != a1_0) = false := bne_eq_false_iff_eq.mpr c3
  clear c3
  by_cases c4 : a0_1 = a1_1
  ·rw [if_pos c4] at H
   have c4b0 : (a0_1 == a1_1) = true := beq_iff_eq.mpr c4
   have c4b1 : (a0_1 != a1_1) = false := bne_eq_false_iff_eq.mpr c4
   clear c4
   by_cases c5 : a0_2 = a1_2
   ·rw [if_pos c5] at H
    have c5b0 : (a0_2 == a1_2) = true := beq_iff_eq.mpr c5
    have c5b1 : (a0_2 != a1_2) = false := bne_eq_false_iff_eq.mpr c5
    clear c5
    obtain rfl := Option.some.inj H
    go_enter Try.func84, Try.ntmps84
    go_wp2_with (first | ((with_reducible refine gate_dst (N := 2) rfl ?_); refine box_event ?hg (N := 2) ?hd (cs := #[.int .i64 a0_0, .int .i64 a0_1, .int .i64 a0_2]) (t := 42) ?hr ?_; (case hd => rfl); (case hg => rfl); (case hr => first | (go_simp; done) | (go_simp; rfl)); intro gb243 hg w6 hbox hb; have n0_ := Aside0.mk (below_step (by repeat (first | (with_reducible first | exact HB.out | apply below_alloc | apply pw_below_drewN | apply below_drew1) | exact HB.out)) hb); have n1_ := Aside0.mk (hbox); have n2_ := Aside0.mk ((by rw [hg]; exact (below_size (by repeat (first | (with_reducible first | exact HB.out | apply below_alloc | apply pw_below_drewN | apply below_drew1) | exact HB.out))) : w.heap.size ≤ gb243)); have n3_ := Aside0.mk ((by rw [hg]; exact (below_size (by repeat (first | (with_reducible first | exact HB.out | apply below_alloc | apply pw_below_drewN | apply below_drew1) | exact HB.out))) : w.heap.size ≤ gb243)); clear HB; have HB := n0_; have BK243 := n1_; have GW243 := n2_; have GE243 := n3_; clear n0_ n1_ n2_ n3_; clear hb hbox hg) | ((with_reducible refine gate_dst (N := 3) rfl ?_); refine box_event ?hg (N := 3) ?hd (cs := #[.int .i64 a1_0, .int .i64 a1_1, .int .i64 a1_2]) (t := 42) ?hr ?_; (case hd => rfl); (case hg => rfl); (case hr => first | (go_simp; done) | (go_simp; rfl)); intro gb244 hg w7 hbox hb; have n0_ := Aside0.mk (blk_below (g := gb243) (o := .cells #[.int .i64 a0_0, .int .i64 a0_1, .int .i64 a0_2] 42 (0, 0)) (by (with_reducible repeat (first | refine blk_drewN ?_ _ | refine blk_drew ?_ | refine blk_alloc ?_ _)); exact BK243.out) hb); have n1_ := Aside0.mk (below_step (by repeat (first | (with_reducible first | exact HB.out | apply below_alloc | apply pw_below_drewN | apply below_drew1 | refine below_set ?_ GE243.out) | exact HB.out)) hb); have n2_ := Aside0.mk (hbox); have n3_ := Aside0.mk ((by rw [hg]; exact (below_size (by repeat (first | (with_reducible first | exact HB.out | apply below_alloc | apply pw_below_drewN | apply below_drew1 | refine below_set ?_ GE243.out) | exact HB.out))) : w.heap.size ≤ gb244)); have n4_ := Aside0.mk ((by rw [hg]; exact (below_size (by repeat (first | (with_reducible first | exact HB.out | apply below_alloc | apply pw_below_drewN | apply below_drew1 | refine below_set ?_ GE243.out) | exact HB.out))) : w.heap.size ≤ gb244)); have n5_ := Aside0.mk ((by rw [hg]; exact Nat.ne_of_lt (blk_lt (g := gb243) (o := .cells #[.int .i64 a0_0, .int .i64 a0_1, .int .i64 a0_2] 42 (0, 0)) (by (with_reducible repeat (first | refine blk_drewN ?_ _ | refine blk_drew ?_ | refine blk_alloc ?_ _)); exact BK243.out)) : gb243 ≠ gb244)); have n6_ := Aside0.mk ((by rw [hg]; exact Nat.ne_of_gt (blk_lt (g := gb243) (o := .cells #[.int .i64 a0_0, .int .i64 a0_1, .int .i64 a0_2] 42 (0, 0)) (by (with_reducible repeat (first | refine blk_drewN ?_ _ | refine blk_drew ?_ | refine blk_alloc ?_ _)); exact BK243.out)) : gb244 ≠ gb243)); clear BK243; clear HB; have BK243 := n0_; have HB := n1_; have BK244 := n2_; have GW244 := n3_; have GE244 := n4_; have NB243_244 := n5_; have NB244_243 := n6_; clear n0_ n1_ n2_ n3_ n4_ n5_ n6_; clear hb hbox hg; have hnb8 := NB243_244.out; have hnc8 := NB244_243.out; have hcz9_0 : w7.cell? ⟨gb243, 0, none⟩ = some (.int .i64 a0_0) := (blk_cell BK243.out 0).trans rfl; have hcz9_1 : w7.cell? ⟨gb243, 1, none⟩ = some (.int .i64 a0_1) := (blk_cell BK243.out 1).trans rfl; have hcz9_2 : w7.cell? ⟨gb243, 2, none⟩ = some (.int .i64 a0_2) := (blk_cell BK243.out 2).trans rfl; have hfz9_0 := blk_frozen BK243.out 0; have hfz9_1 := blk_frozen BK243.out 1; have hfz9_2 := blk_frozen BK243.out 2; have hcz10_0 : w7.cell? ⟨gb244, 0, none⟩ = some (.int .i64 a1_0) := (blk_cell BK244.out 0).trans rfl; have hcz10_1 : w7.cell? ⟨gb244, 1, none⟩ = some (.int .i64 a1_1) := (blk_cell BK244.out 1).trans rfl; have hcz10_2 : w7.cell? ⟨gb244, 2, none⟩ = some (.int .i64 a1_2) := (blk_cell BK244.out 2).trans rfl; have hfz10_0 := blk_frozen BK244.out 0; have hfz10_1 := blk_frozen BK244.out 1; have hfz10_2 := blk_frozen BK244.out 2))
    go_ret
    exact ⟨by first | rfl | (simp [errW_none, errW_some] <;> rfl) | (simp [*, errW_none, errW_some] <;> rfl), by repeat (first | (with_reducible first | exact HB.out | apply below_alloc | apply pw_below_drewN | apply below_drew1 | refine below_set ?_ GE243.out | refine below_set ?_ GE244.out) | exact HB.out)⟩
   ·rw [if_neg c5] at H
    have c5b0 : (a0_2 == a1_2) = false := beq_eq_false_iff_ne.mpr c5
    have c5b1 : (a0_2 != a1_2) = true := bne_iff_ne.mpr c5
    obtain rfl := Option.some.inj H
    go_enter Try.func84, Try.ntmps84
    go_wp2_with (first | ((with_reducible refine gate_dst (N := 2) rfl ?_); refine box_event ?hg (N := 2) ?hd (cs := #[.int .i64 a0_0, .int .i64 a0_1, .int .i64 a0_2]) (t := 42) ?hr ?_; (case hd => rfl); (case hg => rfl); (case hr => first | (go_simp; done) | (go_simp; rfl)); intro gb243 hg w11 hbox hb; have n0_ := Aside0.mk (below_step (by repeat (first | (with_reducible first | exact HB.out | apply below_alloc | apply pw_below_drewN | apply below_drew1) | exact HB.out)) hb); have n1_ := Aside0.mk (hbox); have n2_ := Aside0.mk ((by rw [hg]; exact (below_size (by repeat (first | (with_reducible first | exact HB.out | apply below_alloc | apply pw_below_drewN | apply below_drew1) | exact HB.out))) : w.heap.size ≤ gb243)); have n3_ := Aside0.mk ((by rw [hg]; exact (below_size (by repeat (first | (with_reducible first | exact HB.out | apply below_alloc | apply pw_below_drewN | apply below_drew1) | exact HB.out))) : w.heap.size ≤ gb243)); clear HB; have HB := n0_; have BK243 := n1_; have GW243 := n2_; have GE243 := n3_; clear n0_ n1_ n2_ n3_; clear hb hbox hg) | ((with_reducible refine gate_dst (N := 3) rfl ?_); refine box_event ?hg (N := 3) ?hd (cs := #[.int .i64 a1_0, .int .i64 a1_1, .int .i64 a1_2]) (t := 42) ?hr ?_; (case hd => rfl); (case hg => rfl); (case hr => first | (go_simp; done) | (go_simp; rfl)); intro gb244 hg w12 hbox hb; have n0_ := Aside0.mk (blk_below (g := gb243) (o := .cells #[.int .i64 a0_0, .int .i64 a0_1, .int .i64 a0_2] 42 (0, 0)) (by (with_reducible repeat (first | refine blk_drewN ?_ _ | refine blk_drew ?_ | refine blk_alloc ?_ _)); exact BK243.out) hb); have n1_ := Aside0.mk (below_step (by repeat (first | (with_reducible first | exact HB.out | apply below_alloc | apply pw_below_drewN | apply below_drew1 | refine below_set ?_ GE243.out) | exact HB.out)) hb); have n2_ := Aside0.mk (hbox); have n3_ := Aside0.mk ((by rw [hg]; exact (below_size (by repeat (first | (with_reducible first | exact HB.out | apply below_alloc | apply pw_below_drewN | apply below_drew1 | refine below_set ?_ GE243.out) | exact HB.out))) : w.heap.size ≤ gb244)); have n4_ := Aside0.mk ((by rw [hg]; exact (below_size (by repeat (first | (with_reducible first | exact HB.out | apply below_alloc | apply pw_below_drewN | apply below_drew1 | refine below_set ?_ GE243.out) | exact HB.out))) : w.heap.size ≤ gb244)); have n5_ := Aside0.mk ((by rw [hg]; exact Nat.ne_of_lt (blk_lt (g := gb243) (o := .cells #[.int .i64 a0_0, .int .i64 a0_1, .int .i64 a0_2] 42 (0, 0)) (by (with_reducible repeat (first | refine blk_drewN ?_ _ | refine blk_drew ?_ | refine blk_alloc ?_ _)); exact BK243.out)) : gb243 ≠ gb244)); have n6_ := Aside0.mk ((by rw [hg]; exact Nat.ne_of_gt (blk_lt (g := gb243) (o := .cells #[.int .i64 a0_0, .int .i64 a0_1, .int .i64 a0_2] 42 (0, 0)) (by (with_reducible repeat (first | refine blk_drewN ?_ _ | refine blk_drew ?_ | refine blk_alloc ?_ _)); exact BK243.out)) : gb244 ≠ gb243)); clear BK243; clear HB; have BK243 := n0_; have HB := n1_; have BK244 := n2_; have GW244 := n3_; have GE244 := n4_; have NB243_244 := n5_; have NB244_243 := n6_; clear n0_ n1_ n2_ n3_ n4_ n5_ n6_; clear hb hbox hg; have hnb13 := NB243_244.out; have hnc13 := NB244_243.out; have hcz14_0 : w12.cell? ⟨gb243, 0, none⟩ = some (.int .i64 a0_0) := (blk_cell BK243.out 0).trans rfl; have hcz14_1 : w12.cell? ⟨gb243, 1, none⟩ = some (.int .i64 a0_1) := (blk_cell BK243.out 1).trans rfl; have hcz14_2 : w12.cell? ⟨gb243, 2, none⟩ = some (.int .i64 a0_2) := (blk_cell BK243.out 2).trans rfl; have hfz14_0 := blk_frozen BK243.out 0; have hfz14_1 := blk_frozen BK243.out 1; have hfz14_2 := blk_frozen BK243.out 2; have hcz15_0 : w12.cell? ⟨gb244, 0, none⟩ = some (.int .i64 a1_0) := (blk_cell BK244.out 0).trans rfl; have hcz15_1 : w12.cell? ⟨gb244, 1, none⟩ = some (.int .i64 a1_1) := (blk_cell BK244.out 1).trans rfl; have hcz15_2 : w12.cell? ⟨gb244, 2, none⟩ = some (.int .i64 a1_2) := (blk_cell BK244.out 2).trans rfl; have hfz15_0 := blk_frozen BK244.out 0; have hfz15_1 := blk_frozen BK244.out 1; have hfz15_2 := blk_frozen BK244.out 2))
    go_ret
    exact ⟨by first | rfl | (simp [errW_none, errW_some] <;> rfl) | (simp [*, errW_none, errW_some] <;> rfl), by repeat (first | (with_reducible first | exact HB.out | apply below_alloc | apply pw_below_drewN | apply below_drew1 | refine below_set ?_ GE243.out | refine below_set ?_ GE244.out) | exact HB.out)⟩
  ·rw [if_neg c4] at H
   have c4b0 : (a0_1 == a1_1) = false := beq_eq_false_iff_ne.mpr c4
   have c4b1 : (a0_1 != a1_1) = true := bne_iff_ne.mpr c4
   obtain rfl := Option.some.inj H
   go_enter Try.func84, Try.ntmps84
   go_wp2_with (first | ((with_reducible refine gate_dst (N := 2) rfl ?_); refine box_event ?hg (N := 2) ?hd (cs := #[.int .i64 a0_0, .int .i64 a0_1, .int .i64 a0_2]) (t := 42) ?hr ?_; (case hd => rfl); (case hg => rfl); (case hr => first | (go_simp; done) | (go_simp; rfl)); intro gb243 hg w16 hbox hb; have n0_ := Aside0.mk (below_step (by repeat (first | (with_reducible first | exact HB.out | apply below_alloc | apply pw_below_drewN | apply below_drew1) | exact HB.out)) hb); have n1_ := Aside0.mk (hbox); have n2_ := Aside0.mk ((by rw [hg]; exact (below_size (by repeat (first | (with_reducible first | exact HB.out | apply below_alloc | apply pw_below_drewN | apply below_drew1) | exact HB.out))) : w.heap.size ≤ gb243)); have n3_ := Aside0.mk ((by rw [hg]; exact (below_size (by repeat (first | (with_reducible first | exact HB.out | apply below_alloc | apply pw_below_drewN | apply below_drew1) | exact HB.out))) : w.heap.size ≤ gb243)); clear HB; have HB := n0_; have BK243 := n1_; have GW243 := n2_; have GE243 := n3_; clear n0_ n1_ n2_ n3_; clear hb hbox hg) | ((with_reducible refine gate_dst (N := 3) rfl ?_); refine box_event ?hg (N := 3) ?hd (cs := #[.int .i64 a1_0, .int .i64 a1_1, .int .i64 a1_2]) (t := 42) ?hr ?_; (case hd => rfl); (case hg => rfl); (case hr => first | (go_simp; done) | (go_simp; rfl)); intro gb244 hg w17 hbox hb; have n0_ := Aside0.mk (blk_below (g := gb243) (o := .cells #[.int .i64 a0_0, .int .i64 a0_1, .int .i64 a0_2] 42 (0, 0)) (by (with_reducible repeat (first | refine blk_drewN ?_ _ | refine blk_drew ?_ | refine blk_alloc ?_ _)); exact BK243.out) hb); have n1_ := Aside0.mk (below_step (by repeat (first | (with_reducible first | exact HB.out | apply below_alloc | apply pw_below_drewN | apply below_drew1 | refine below_set ?_ GE243.out) | exact HB.out)) hb); have n2_ := Aside0.mk (hbox); have n3_ := Aside0.mk ((by rw [hg]; exact (below_size (by repeat (first | (with_reducible first | exact HB.out | apply below_alloc | apply pw_below_drewN | apply below_drew1 | refine below_set ?_ GE243.out) | exact HB.out))) : w.heap.size ≤ gb244)); have n4_ := Aside0.mk ((by rw [hg]; exact (below_size (by repeat (first | (with_reducible first | exact HB.out | apply below_alloc | apply pw_below_drewN | apply below_drew1 | refine below_set ?_ GE243.out) | exact HB.out))) : w.heap.size ≤ gb244)); have n5_ := Aside0.mk ((by rw [hg]; exact Nat.ne_of_lt (blk_lt (g := gb243) (o := .cells #[.int .i64 a0_0, .int .i64 a0_1, .int .i64 a0_2] 42 (0, 0)) (by (with_reducible repeat (first | refine blk_drewN ?_ _ | refine blk_drew ?_ | refine blk_alloc ?_ _)); exact BK243.out)) : gb243 ≠ gb244)); have n6_ := Aside0.mk ((by rw [hg]; exact Nat.ne_of_gt (blk_lt (g := gb243) (o := .cells #[.int .i64 a0_0, .int .i64 a0_1, .int .i64 a0_2] 42 (0, 0)) (by (with_reducible repeat (first | refine blk_drewN ?_ _ | refine blk_drew ?_ | refine blk_alloc ?_ _)); exact BK243.out)) : gb244 ≠ gb243)); clear BK243; clear HB; have BK243 := n0_; have HB := n1_; have BK244 := n2_; have GW244 := n3_; have GE244 := n4_; have NB243_244 := n5_; have NB244_243 := n6_; clear n0_ n1_ n2_ n3_ n4_ n5_ n6_; clear hb hbox hg; have hnb18 := NB243_244.out; have hnc18 := NB244_243.out; have hcz19_0 : w17.cell? ⟨gb243, 0, none⟩ = some (.int .i64 a0_0) := (blk_cell BK243.out 0).trans rfl; have hcz19_1 : w17.cell? ⟨gb243, 1, none⟩ = some (.int .i64 a0_1) := (blk_cell BK243.out 1).trans rfl; have hcz19_2 : w17.cell? ⟨gb243, 2, none⟩ = some (.int .i64 a0_2) := (blk_cell BK243.out 2).trans rfl; have hfz19_0 := blk_frozen BK243.out 0; have hfz19_1 := blk_frozen BK243.out 1; have hfz19_2 := blk_frozen BK243.out 2; have hcz20_0 : w17.cell? ⟨gb244, 0, none⟩ = some (.int .i64 a1_0) := (blk_cell BK244.out 0).trans rfl; have hcz20_1 : w17.cell? ⟨gb244, 1, none⟩ = some (.int .i64 a1_1) := (blk_cell BK244.out 1).trans rfl; have hcz20_2 : w17.cell? ⟨gb244, 2, none⟩ = some (.int .i64 a1_2) := (blk_cell BK244.out 2).trans rfl; have hfz20_0 := blk_frozen BK244.out 0; have hfz20_1 := blk_frozen BK244.out 1; have hfz20_2 := blk_frozen BK244.out 2))
   go_ret
   exact ⟨by first | rfl | (simp [errW_none, errW_some] <;> rfl) | (simp [*, errW_none, errW_some] <;> rfl), by repeat (first | (with_reducible first | exact HB.out | apply below_alloc | apply pw_below_drewN | apply below_drew1 | refine below_set ?_ GE243.out | refine below_set ?_ GE244.out) | exact HB.out)⟩
 ·rw [if_neg c3] at H
  have c3b0 : (a0_0 == a1_0) = false := beq_eq_false_iff_ne.mpr c3
  have c3b1 : (a0_0 != a1_0) = true := bne_iff_ne.mpr c3
  obtain rfl := Option.some.inj H
  go_enter Try.func84, Try.ntmps84
  go_wp2_with (first | ((with_reducible refine gate_dst (N := 2) rfl ?_); refine box_event ?hg (N := 2) ?hd (cs := #[.int .i64 a0_0, .int .i64 a0_1, .int .i64 a0_2]) (t := 42) ?hr ?_; (case hd => rfl); (case hg => rfl); (case hr => first | (go_simp; done) | (go_simp; rfl)); intro gb243 hg w21 hbox hb; have n0_ := Aside0.mk (below_step (by repeat (first | (with_reducible first | exact HB.out | apply below_alloc | apply pw_below_drewN | apply below_drew1) | exact HB.out)) hb); have n1_ := Aside0.mk (hbox); have n2_ := Aside0.mk ((by rw [hg]; exact (below_size (by repeat (first | (with_reducible first | exact HB.out | apply below_alloc | apply pw_below_drewN | apply below_drew1) | exact HB.out))) : w.heap.size ≤ gb243)); have n3_ := Aside0.mk ((by rw [hg]; exact (below_size (by repeat (first | (with_reducible first | exact HB.out | apply below_alloc | apply pw_below_drewN | apply below_drew1) | exact HB.out))) : w.heap.size ≤ gb243)); clear HB; have HB := n0_; have BK243 := n1_; have GW243 := n2_; have GE243 := n3_; clear n0_ n1_ n2_ n3_; clear hb hbox hg) | ((with_reducible refine gate_dst (N := 3) rfl ?_); refine box_event ?hg (N := 3) ?hd (cs := #[.int .i64 a1_0, .int .i64 a1_1, .int .i64 a1_2]) (t := 42) ?hr ?_; (case hd => rfl); (case hg => rfl); (case hr => first | (go_simp; done) | (go_simp; rfl)); intro gb244 hg w22 hbox hb; have n0_ := Aside0.mk (blk_below (g := gb243) (o := .cells #[.int .i64 a0_0, .int .i64 a0_1, .int .i64 a0_2] 42 (0, 0)) (by (with_reducible repeat (first | refine blk_drewN ?_ _ | refine blk_drew ?_ | refine blk_alloc ?_ _)); exact BK243.out) hb); have n1_ := Aside0.mk (below_step (by repeat (first | (with_reducible first | exact HB.out | apply below_alloc | apply pw_below_drewN | apply below_drew1 | refine below_set ?_ GE243.out) | exact HB.out)) hb); have n2_ := Aside0.mk (hbox); have n3_ := Aside0.mk ((by rw [hg]; exact (below_size (by repeat (first | (with_reducible first | exact HB.out | apply below_alloc | apply pw_below_drewN | apply below_drew1 | refine below_set ?_ GE243.out) | exact HB.out))) : w.heap.size ≤ gb244)); have n4_ := Aside0.mk ((by rw [hg]; exact (below_size (by repeat (first | (with_reducible first | exact HB.out | apply below_alloc | apply pw_below_drewN | apply below_drew1 | refine below_set ?_ GE243.out) | exact HB.out))) : w.heap.size ≤ gb244)); have n5_ := Aside0.mk ((by rw [hg]; exact Nat.ne_of_lt (blk_lt (g := gb243) (o := .cells #[.int .i64 a0_0, .int .i64 a0_1, .int .i64 a0_2] 42 (0, 0)) (by (with_reducible repeat (first | refine blk_drewN ?_ _ | refine blk_drew ?_ | refine blk_alloc ?_ _)); exact BK243.out)) : gb243 ≠ gb244)); have n6_ := Aside0.mk ((by rw [hg]; exact Nat.ne_of_gt (blk_lt (g := gb243) (o := .cells #[.int .i64 a0_0, .int .i64 a0_1, .int .i64 a0_2] 42 (0, 0)) (by (with_reducible repeat (first | refine blk_drewN ?_ _ | refine blk_drew ?_ | refine blk_alloc ?_ _)); exact BK243.out)) : gb244 ≠ gb243)); clear BK243; clear HB; have BK243 := n0_; have HB := n1_; have BK244 := n2_; have GW244 := n3_; have GE244 := n4_; have NB243_244 := n5_; have NB244_243 := n6_; clear n0_ n1_ n2_ n3_ n4_ n5_ n6_; clear hb hbox hg; have hnb23 := NB243_244.out; have hnc23 := NB244_243.out; have hcz24_0 : w22.cell? ⟨gb243, 0, none⟩ = some (.int .i64 a0_0) := (blk_cell BK243.out 0).trans rfl; have hcz24_1 : w22.cell? ⟨gb243, 1, none⟩ = some (.int .i64 a0_1) := (blk_cell BK243.out 1).trans rfl; have hcz24_2 : w22.cell? ⟨gb243, 2, none⟩ = some (.int .i64 a0_2) := (blk_cell BK243.out 2).trans rfl; have hfz24_0 := blk_frozen BK243.out 0; have hfz24_1 := blk_frozen BK243.out 1; have hfz24_2 := blk_frozen BK243.out 2; have hcz25_0 : w22.cell? ⟨gb244, 0, none⟩ = some (.int .i64 a1_0) := (blk_cell BK244.out 0).trans rfl; have hcz25_1 : w22.cell? ⟨gb244, 1, none⟩ = some (.int .i64 a1_1) := (blk_cell BK244.out 1).trans rfl; have hcz25_2 : w22.cell? ⟨gb244, 2, none⟩ = some (.int .i64 a1_2) := (blk_cell BK244.out 2).trans rfl; have hfz25_0 := blk_frozen BK244.out 0; have hfz25_1 := blk_frozen BK244.out 1; have hfz25_2 := blk_frozen BK244.out 2))
  go_ret
  exact ⟨by first | rfl | (simp [errW_none, errW_some] <;> rfl) | (simp [*, errW_none, errW_some] <;> rfl), by repeat (first | (with_reducible first | exact HB.out | apply below_alloc | apply pw_below_drewN | apply below_drew1 | refine below_set ?_ GE243.out | refine below_set ?_ GE244.out) | exact HB.out)⟩

end Go.Proofs.Ytplpjmhmochcfaa.QFnExactApplyDifference
