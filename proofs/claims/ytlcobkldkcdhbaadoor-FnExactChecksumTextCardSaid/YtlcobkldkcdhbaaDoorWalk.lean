/- The program's ChecksumText and the law over it, walked: the strings of the library by the kit's contracts; the table of powers reads as it was laid. -/
import Derived.Test.YtlcobkldkcdhbaaDoorWNEv
import Derived.Test.YtlcobkldkcdhbaaDoorPure
import Derived.Test.YtlcobkldkcdhbaaDoorShelf
import Derived.WalkKit
import Derived.Lib.AppendIntMem
namespace Go.Proofs.YtlcobkldkcdhbaaDoor
open Go Go.Proofs Go.RowKit Go.Proofs.YtlcobkldkcdhbaaDoorW.PrintWords
theorem Tryd.wordsInfo9 : (Tryd.prog.info? 9).map (fun i => (i.zero, i.size, i.bytes)) = some (some (.string ⟨#[]⟩), 1, 16) := by kernel_rfl
theorem own_one {w : World} {base : Nat} {v x : Value} (h : w.ownsRow base 9 1 v 1 [x]) : ∃ g cap, v = .slice (some ⟨g, 0, none⟩) 1 cap ∧ base ≤ g ∧ g < w.heap.size ∧ 1 ≤ cap ∧ w.cell? ⟨g, 0, none⟩ = some x := by
  obtain ⟨_, ⟨_, h0⟩ | ⟨g, cap, cur, rfl, hb, hh, hc, hr⟩⟩ := id h
  · omega
  · have h1 := h.cellAt 0 (by omega)
    refine ⟨g, cap, rfl, hb, ?_, hc, h1.trans rfl⟩
    rcases Nat.lt_or_ge g w.heap.size with h2 | h2
    · exact h2
    · rw [Array.getElem?_eq_none h2] at hh; cases hh
theorem grow_size (w : World) (o : Obj) (k : Nat) (os : Array Obj) : (Sort.grow ((w.alloc o).drewN k) os).heap.size = w.heap.size + 1 + os.size := by
  show ((w.heap.push o) ++ os).size = _
  simp
theorem asize (w : World) (o : Obj) : (w.alloc o).heap.size = w.heap.size + 1 := by show (w.heap.push o).size = _; simp
theorem Join_one (bk o c : Nat) (x sep : ByteArray) (w : World) (hc : w.cell? ⟨bk, o, none⟩ = some (.string x)) :
    Calls Tryd.prog 13 #[.slice (some ⟨bk, o, none⟩) 1 c, .string sep] w fun e w' => e = .returned (.string x) ∧ w' = w := Any.strings_Join_one Tryd.lays156 Tryd.Builder_Extra_156 bk o c x sep w hc
set_option maxHeartbeats 4000000 in
set_option maxRecDepth 100000 in
theorem words_one (n : Int) (h0 : -9223372036854775808 ≤ n) (h1 : n ≤ 9223372036854775807) (bk off c : Nat) (w : World)
    (hc : w.cell? ⟨bk, off, none⟩ = some (.int .i64 n)) (hbk : bk < w.heap.size)
    (htab : Lib.TabIs Tryd.prog w "internal/strconv.uint64pow10" .u64 Lib.pow10Tab) :
    Calls Tryd.prog 9 #[.slice (some ⟨bk, off, none⟩) 1 c] w fun e w' => e = .returned (.string ⟨(Lib.itoa n).toArray⟩) ∧ Below w.heap.size w w' := by
  obtain ⟨i0, hi, hz0, hz1, hz2⟩ := info_parts Tryd.wordsInfo9
  have hown0 := World.ownsRow_made (base := w.heap.size) (size := 1) w #[] 0 (e := 9) (Nat.le_refl _) (by unfold maxLen; omega) rfl
  have htab0 := Lib.tabIs_alloc htab (.cells #[] 9)
  have hcB : (w.alloc (.cells #[] 9)).cell? ⟨bk, off, none⟩ = some (.int .i64 n) := by rw [World.cell?_alloc_old _ _ _ (by simp; omega)]; exact hc
  go_enter Tryd.func9, Tryd.ntmps9
  go_wp2
  refine wp_loop_rounds 2 ?_
  rw [rounds_succ]
  go_wp2_with (first
    | (go_at_call 12; refine (Tryd.strconv_Itoa n h0 h1 _ htab0).mono ?_; rintro e w' ⟨rfl, k, os, rfl⟩)
    | (at_builtin; refine wpList_append_own _ rfl _ _ 29 rfl w.heap.size 9 i0 (.string ⟨#[]⟩) 1 16 Tryd.underlying29 hi hz0 hz1 hz2 rfl (by decide) _ _ _ rfl ((Lib.ownsRow_grow hown0 _ _).alloc _) _ 1 1 [.string ⟨(Lib.itoa n).toArray⟩] rfl rfl ?c1 ?c2 ?c3 ?c4 ?c5 ?_))
  case c1 =>
    intro j u hj
    rcases j with _ | j
    · obtain rfl : Value.string ⟨(Lib.itoa n).toArray⟩ = u := by simpa using hj
      rw [← grow_size w (.cells #[] 9) k os]
      have h := World.cell?_alloc_new (Sort.grow ((w.alloc (.cells #[] 9)).drewN k) os) #[.string ⟨(Lib.itoa n).toArray⟩] 9 0
      simpa [Addr.add] using h
    · simp at hj
  case c2 => intro u hu; simp at hu; subst hu; rfl
  case c3 => unfold maxLen; omega
  case c4 => omega
  case c5 => rw [asize, grow_size]; omega
  · intro v' w1 hown' hgrow _
    obtain ⟨g, cap, rfl, hg, hgl, hcap, hgc⟩ := own_one hown'
    have hb1 : Below w.heap.size w w1 := by
      have hb0 : Below w.heap.size w (Sort.grow ((w.alloc (.cells #[] 9)).drewN k) os) := ((Below.refl _ _).alloc (Nat.le_refl _) _).trans (Lib.below_grow _ _ (by rw [asize]; omega) _ _)
      exact (hb0.alloc (by rw [grow_size]; omega) _).grown hgrow (by rw [asize, grow_size]; omega) (fun q hq => by simp [Value.ownBlock] at hq; omega)
    clear hown' hgrow hown0 hcB htab0
    go_wp2
    rw [rounds_succ]
    go_wp2_with (go_at_call 13; refine (Join_one g 0 cap ⟨(Lib.itoa n).toArray⟩ _ w1 hgc).mono ?_; rintro e w' ⟨rfl, rfl⟩)
    go_ret
    exact ⟨rfl, hb1⟩
open Go.Proofs.YtlcobkldkcdhbaaDoor.PFnExactChecksumText
theorem tab_drewN {w : World} (k : Nat) (h : Lib.TabIs Tryd.prog w "internal/strconv.uint64pow10" .u64 Lib.pow10Tab) : Lib.TabIs Tryd.prog (w.drewN k) "internal/strconv.uint64pow10" .u64 Lib.pow10Tab := h
set_option maxHeartbeats 4000000 in
set_option maxRecDepth 100000 in
theorem text_yes (n : Nat) (hn : n < 1000003) (w : World)
    (htab : Lib.TabIs Tryd.prog w "internal/strconv.uint64pow10" .u64 Lib.pow10Tab) :
    Calls Tryd.prog 5 #[.int .i64 (n : Int)] w fun e w' => e = .returned (.tuple #[.string ⟨((Lib.decDigits (10000000 + n)).drop 1).toArray⟩, .bool true]) ∧ Below w.heap.size w w' := by
  have hi : Lib.itoa (10000000 + (n : Int)) = Lib.decDigits (10000000 + n) := Lib.itoa_nonneg (10000000 + n)
  have hlen := Pure.dec_length n (by omega)
  obtain ⟨T, hT⟩ : ∃ T : ByteArray, (⟨(Lib.itoa (10000000 + (n : Int))).toArray⟩ : ByteArray) = T := ⟨_, rfl⟩
  have hsz : T.size = 8 := by rw [← hT, hi]; simp [ByteArray.size, hlen]
  go_enter Tryd.func5, Tryd.ntmps5
  go_wp2_with (first
    | (go_at_call 8; refine (impl_isChecksum.calls _ _ _ (Pure.impl_yes n hn)).mono ?_; rintro e w' ⟨rfl, ⟨nd, rfl⟩⟩)
    | (go_at_call 9; refine (words_one (10000000 + (n : Int)) (by omega) (by omega) w.heap.size 0 1 _ (World.cell?_alloc_new (w.drewN nd) #[.int .i64 (10000000 + (n : Int))] 3 0) (by rw [asize]; exact Nat.lt_succ_self _) (Lib.tabIs_alloc (tab_drewN nd htab) _)).mono ?_; rintro e w1 ⟨rfl, hb⟩; rw [hT]))
  go_ret2
  refine ⟨?_, ?_⟩
  · rw [show T.extract 1 8 = (⟨((Lib.decDigits (10000000 + n)).drop 1).toArray⟩ : ByteArray) from by
      apply ByteArray.ext
      rw [ByteArray.data_extract, ← hT, hi, List.extract_toArray, List.extract_eq_drop_take', List.take_of_length_le (by rw [hlen]; exact Nat.le_refl _)]]
    rfl
  · exact below_then (below_alloc (pw_below_drewN (Below.refl _ w) nd) _) (by rw [asize]; exact Nat.le_succ _) hb
set_option maxHeartbeats 4000000 in
set_option maxRecDepth 100000 in
theorem text_no (a : Int) (ha : ¬ (0 ≤ a ∧ a < 1000003)) (w : World) :
    Calls Tryd.prog 5 #[.int .i64 a] w fun e w' => e = .returned (.tuple #[.string ⟨#[]⟩, .bool false]) ∧ Below w.heap.size w w' := by
  go_enter Tryd.func5, Tryd.ntmps5
  go_wp2_with (go_at_call 8; refine (impl_isChecksum.calls _ _ _ (Pure.impl_no a ha)).mono ?_; rintro e w' ⟨rfl, ⟨nd, rfl⟩⟩)
  go_ret2
  exact ⟨rfl, pw_below_drewN (Below.refl _ w) nd⟩
set_option maxHeartbeats 4000000 in
set_option maxRecDepth 100000 in
/-- THE LAW, walked: it returns true; of the world below the heap's end nothing is turned. -/
theorem law (a : Int) (w : World) (htab : Lib.TabIs Tryd.prog w "internal/strconv.uint64pow10" .u64 Lib.pow10Tab) :
    Calls Tryd.prog 3 #[.int .i64 a] w fun e w' => e = .returned (.bool true) ∧ Below w.heap.size w w' := by
  by_cases ha : 0 ≤ a ∧ a < 1000003
  · obtain ⟨n, rfl⟩ : ∃ n : Nat, a = n := ⟨a.toNat, by omega⟩
    have hn : n < 1000003 := by omega
    obtain ⟨k, hk⟩ := Pure.spec_yes n hn
    have hA := text_yes n hn
    generalize (⟨((Lib.decDigits (10000000 + n)).drop 1).toArray⟩ : ByteArray) = T at hk hA
    clear ha
    go_enter Tryd.func3, Tryd.ntmps3
    go_wp2_with (first
      | (go_at_call 4; refine (spec_ChecksumText.calls k _ _ _ _ hk).mono ?_; rintro e w1 ⟨rfl, hb⟩; have ht1 := Lib.tabBelow_of_tabIs htab w1 hb)
      | (go_at_call 5; refine (hA _ (by assumption)).mono ?_; rintro e w2 ⟨rfl, hb2⟩))
    go_ret
    exact ⟨rfl, below_then hb hb.size hb2⟩
  · have hk := Pure.spec_no a ha
    have hA := text_no a ha
    clear ha
    go_enter Tryd.func3, Tryd.ntmps3
    go_wp2_with (first
      | (go_at_call 4; refine (spec_ChecksumText.calls 0 _ _ _ _ hk).mono ?_; rintro e w1 ⟨rfl, hb⟩)
      | (go_at_call 5; refine (hA _).mono ?_; rintro e w2 ⟨rfl, hb2⟩))
    go_ret
    exact ⟨rfl, below_then hb hb.size hb2⟩
end Go.Proofs.YtlcobkldkcdhbaaDoor
