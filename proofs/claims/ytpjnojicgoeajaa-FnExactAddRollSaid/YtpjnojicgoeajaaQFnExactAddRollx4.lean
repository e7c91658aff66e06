/- Written by a program of this session (the kit's printer, with leaf contracts proved by hand put in): what each Go function computes, and that the call computes it. No condition but those that each theorem names. -/
import Derived.Test.YtpjnojicgoeajaaQFnExactAddRollx0
namespace Go.Proofs.Ytpjnojicgoeajaa.QFnExactAddRoll
open Go.RowKit Go.Proofs.YtpjnojicgoeajaaW.PrintWords Go.Proofs.YtpjnojicgoeajaaW.PrintLast Go.Proofs.YtpjnojicgoeajaaW.PrintMore
attribute [local go_sem] max2_int min2_int max_two min_two max_three min_three max_four min_four   -- for this text's walks alone
set_option linter.unusedVariables false
set_option linter.unusedSimpArgs false

/-! ### impl_findRoll: function 48 (by hand: the place of a title) -/
def impl_findRoll.idx (t : ByteArray) : Int → List S39 → Int
  | _, [] => -1
  | i, x :: l => if x.f0.toList = t.toList then i else impl_findRoll.idx t (i + 1) l
def impl_findRoll.f (l0 : List S39) (a1 : ByteArray) : Option Int := some (impl_findRoll.idx a1 0 l0)
set_option maxHeartbeats 4000000 in
set_option maxRecDepth 100000 in
theorem impl_findRoll.clo (B : Nat) (t : ByteArray) (x0 x1 : ByteArray) (x2 x3 : Int) (b : Bool) (W : World) (hB : B < W.heap.size) (hc : W.cell? ⟨B, 0, none⟩ = some (.string t)) (hb : (x0.toList == t.toList) = b) :
    Calls Try.prog 65 #[.agg #[.string x0, .string x1, .int .i64 x2, .int .i64 x3], .pointer (some ⟨B, 0, none⟩)] W fun e w' => e = .returned (.bool b) ∧ Below W.heap.size W w' := by
  have hc2 : ∀ o : Obj, (W.alloc o).cell? ⟨B, 0, none⟩ = some (.string t) := fun o => (World.cell?_alloc_lt _ _ _ hB).trans hc
  go_enter Try.func65, Try.ntmps65
  go_wp2
  go_ret
  exact ⟨by rw [← hb]; rfl, below_alloc (Below.refl _ _) _⟩
set_option maxHeartbeats 8000000 in
set_option maxRecDepth 100000 in
theorem impl_findRoll.fn (A0 : Option Addr) (c0 : Nat) (l0 : List S39) (B : Nat) (t : ByteArray) (w : World) (hB : B < w.heap.size) (hcB : w.cell? ⟨B, 0, none⟩ = some (.string t)) (hr0 : Kd.C k39 w A0 l0.length l0) :
    Calls Try.prog 64 #[.slice A0 l0.length c0, .func (.func 65) #[] #[.pointer (some ⟨B, 0, none⟩)]] w fun e w' => e = .returned (.int .i64 (impl_findRoll.idx t 0 l0)) ∧ Below w.heap.size w w' := by
  have HR0 := Aside0.mk hr0
  have HCB := Aside0.mk hcB
  clear hr0 hcB
  have hmax := HR0.out.2.1
  have eg := enters_of (P := Try.prog) Try.func65 (by kernel_rfl) rfl
  go_enter Try.func64, Try.ntmps64
  go_wp2
  go_loopg [5, 8] l0.length (fun gg _ s8 wr => ∃ kk : Nat, kk ≤ l0.length ∧ l0.length - kk ≤ gg ∧ s8 = .int .i64 kk ∧ Aside0 (Below w.heap.size w wr) ∧ Aside0 (impl_findRoll.idx t 0 l0 = impl_findRoll.idx t kk (l0.drop kk)))
  case atStart => exact ⟨0, Nat.zero_le _, by omega, rfl, ⟨Below.refl _ w⟩, ⟨rfl⟩⟩
  case round =>
    obtain ⟨kk, hkk, hg, rfl, HB, HI⟩ := hrel
    by_cases hlt : kk < l0.length
    · have hltz : (kk : Int) < (l0.length : Int) := by omega
      obtain ⟨ad, e1, hx0, hx1, hx2, hx3⟩ := at_T39 HR0.out (kk : Int) (by omega) hltz
      cases e1
      simp only [Int.toNat_natCast] at hx0 hx1 hx2 hx3
      replace hx0 := (HB.out.cell (World.block_lt_of_cell? w _ hx0)).trans hx0
      replace hx1 := (HB.out.cell (World.block_lt_of_cell? w _ hx1)).trans hx1
      replace hx2 := (HB.out.cell (World.block_lt_of_cell? w _ hx2)).trans hx2
      replace hx3 := (HB.out.cell (World.block_lt_of_cell? w _ hx3)).trans hx3
      have hdrop : l0.drop kk = rd_T39 l0 (kk : Int) :: l0.drop (kk + 1) := by
        rw [List.drop_eq_getElem_cons hlt]
        congr 1
        simp [rd_T39, List.getD_eq_getElem?_getD, List.getElem?_eq_getElem hlt]
      have hsz : w.heap.size ≤ wr.heap.size := HB.out.size
      cases hq : ((rd_T39 l0 (kk : Int)).f0.toList == t.toList) with
      | true =>
        have hcall := impl_findRoll.clo B t (rd_T39 l0 (kk : Int)).f0 (rd_T39 l0 (kk : Int)).f1 (rd_T39 l0 (kk : Int)).f2 (rd_T39 l0 (kk : Int)).f3 true wr (by omega) (pw_cell_below HB.out HCB.out) hq
        have HD : Aside0 (impl_findRoll.idx t 0 l0 = (kk : Int)) := ⟨by rw [HI.out, hdrop]; simp only [impl_findRoll.idx]; rw [if_pos (by simpa using hq)]⟩
        clear hq hdrop HI
        go_wp2_with (go_at_call 65; refine hcall.mono ?_; rintro e w' ⟨rfl, hb'⟩)
        go_ret
        exact ⟨by rw [HD.out]; rfl, below_then HB.out hsz hb'⟩
      | false =>
        have hcall := impl_findRoll.clo B t (rd_T39 l0 (kk : Int)).f0 (rd_T39 l0 (kk : Int)).f1 (rd_T39 l0 (kk : Int)).f2 (rd_T39 l0 (kk : Int)).f3 false wr (by omega) (pw_cell_below HB.out HCB.out) hq
        have HD : Aside0 (impl_findRoll.idx t 0 l0 = impl_findRoll.idx t ((kk + 1 : Nat) : Int) (l0.drop (kk + 1))) := ⟨by rw [HI.out, hdrop]; simp only [impl_findRoll.idx]; rw [if_neg (by simpa using hq)]; simp⟩
        clear hq hdrop HI
        go_wp2_with (go_at_call 65; refine hcall.mono ?_; rintro e w' ⟨rfl, hb'⟩)
        go_roundg (l0.length - (kk + 1))
        case measure => omega
        case rel => exact ⟨kk + 1, by omega, by omega, by go_num, ⟨below_then HB.out hsz hb'⟩, HD⟩
    · have hltz : ¬ (kk : Int) < (l0.length : Int) := by omega
      have hkl : kk = l0.length := by omega
      have HD : Aside0 (impl_findRoll.idx t 0 l0 = -1) := ⟨by rw [HI.out, hkl, List.drop_length]; rfl⟩
      clear HI hkl
      go_wp2
      go_ret
      exact ⟨by rw [HD.out]; rfl, HB.out⟩
set_option maxHeartbeats 8000000 in
set_option maxRecDepth 100000 in
theorem impl_findRoll.calls (A0 : Option Addr) (c0 : Nat) (l0 : List S39) (a1 : ByteArray) (r : Int) (w : World) (hr0 : Kd.C k39 w A0 l0.length l0) (hc0 : l0.length ≤ c0) (h : impl_findRoll.f l0 a1 = some r) :
    Calls Try.prog 48 #[.slice A0 l0.length c0, .string a1] w fun e w' => e = .returned (.int .i64 r) ∧ Below w.heap.size w w' := by
  obtain rfl := Option.some.inj h
  clear h
  have HR0 := Aside0.mk hr0
  clear hr0 hc0
  go_enter Try.func48, Try.ntmps48
  go_wp2_with (go_at_call 64; refine (impl_findRoll.fn A0 c0 l0 w.heap.size a1 _ (by simp) (blk_cell (blk_new w _) 0) (Kd.C_below HR0.out (below_alloc (Below.refl _ _) _))).mono ?_; rintro e w' ⟨rfl, hb⟩)
  go_ret
  exact ⟨rfl, below_then (below_alloc (Below.refl _ _) _) (by simp) hb⟩


end Go.Proofs.Ytpjnojicgoeajaa.QFnExactAddRoll
