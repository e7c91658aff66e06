/- Go's stable sort at elements of several cells, walked: what each of its functions leaves behind; each theorem names its conditions. -/
import Derived.Shelf.GgSortMore.Stable
import Derived.Shelf.SlSortFuncK.SWK
import Derived.Shelf.SlSortFuncK.AtK
import Derived.Shelf.GgSortFunc.SmallK
import Derived.Deep.Cut
import Derived.Test.YtcnegcdmmackeaaGreatSym0
namespace Go.Proofs.YtcnegcdmmackeaaGreat.SymSort
open Go.Shelf Go.RowKit Go.Lib Go.Sort
set_option linter.unusedVariables false
set_option linter.unusedSimpArgs false
variable {P : Program} {ρ : Ren} {α : Type} [Inhabited α]

/-- A function's own box of two cells (block B), in the world W. -/
def Bx2 (B : Nat) (x y : Value) (W : World) : Prop := W.cell? ⟨B, 0, none⟩ = some x ∧ W.cell? ⟨B, 1, none⟩ = some y ∧ B < W.heap.size
theorem Bx2.step {B : Nat} {x y : Value} {W w1 : World} (h : Bx2 B x y W) (enc : α → List Value) (k : Nat) {blk off : Nat} {d' : Array α} (hne : B ≠ blk) (h1 : AtK enc k W blk off d' w1) : Bx2 B x y w1 := by
  obtain ⟨m, os', rfl⟩ := h1
  have hs : ∀ X : World, (putRowK enc k X blk off d').heap.size = X.heap.size := fun X => by simp [putRowK, putRow, mapBlock]
  have e : ∀ o, (grow (putRowK enc k (Sort.ahead W m) blk off d') os').cell? ⟨B, o, none⟩ = W.cell? ⟨B, o, none⟩ := fun o => by
    rw [cell?_grow _ _ _ (by rw [hs]; exact h.2.2), cell?_putRowK_other enc k _ blk off d' _ hne]; rfl
  exact ⟨(e 0).trans h.1, (e 1).trans h.2.1, by rw [size_grow, hs]; exact Nat.lt_of_lt_of_le h.2.2 (Nat.le_add_right _ _)⟩
theorem AtK.below {enc : α → List Value} {k : Nat} {W w1 : World} {blk off : Nat} {d' : Array α} (h1 : AtK enc k W blk off d' w1) : W.heap.size ≤ w1.heap.size := by
  obtain ⟨m, os', rfl⟩ := h1
  rw [size_grow, show (putRowK enc k (Sort.ahead W m) blk off d').heap.size = W.heap.size by simp [putRowK, putRow, mapBlock, Sort.ahead]]; omega
theorem SWK_on {enc : α → List Value} {k : Nat} {w W w1 : World} {blk off : Nat} {d d' : Array α} (h : AtK enc k w blk off d W) (hblk : blk < w.heap.size) (hs : d'.size = d.size) (h1 : AtK enc k W blk off d' w1) : AtK enc k w blk off d' w1 := h.stepG hblk hs h1
/-- What is asked of 'less': in every world that the sort passes through it tells whether an element is less than another one; it reads, it may draw, it may lay new blocks. -/
def LessLays (P : Program) (g : Nat) (lb : Array Value) (enc : α → List Value) (k : Nat) (lt : α → α → Bool) (blk off size : Nat) (w : World) : Prop :=
  ∀ (W : World) (dk : Array α), AtK enc k w blk off dk W → dk.size = size → ∀ i j : Nat, i < size → j < size →
    Calls P g (#[.int .i64 i, .int .i64 j] ++ lb) W fun e w' => e = .returned (.bool (lt dk[i]! dk[j]!)) ∧ AtK enc k W blk off dk w'
theorem LessLays.at_ {P : Program} {g : Nat} {lb : Array Value} {enc : α → List Value} {k : Nat} {lt : α → α → Bool} {blk off size : Nat} {w W : World} {D : Array α} (h : LessLays P g lb enc k lt blk off size w) (hA : AtK enc k w blk off D W) (hs : D.size = size) (hblk : blk < w.heap.size) :
    LessLays P g lb enc k lt blk off size W := fun X dk hX hk i j hi hj => h X dk (SWK_on hA hblk (hk.trans hs.symm) hX) hk i j hi hj
def RotPost (enc : α → List Value) (k : Nat) (w : World) (blk off a m b : Nat) (d : Array α) (e : Ending) (w' : World) : Prop := e = .returned (.tuple #[]) ∧ ∃ d', Rot a m b d d' ∧ PermIn a b d d' ∧ AtK enc k w blk off d' w'
set_option maxHeartbeats 1600000 in
set_option maxRecDepth 1000000 in
theorem swapRange (L : LaysGt.n49 P ρ) (enc : α → List Value) (k : Nat) (hk : ∀ x, (enc x).length = k) (lf : Fn) (la lb : Array Value) (sf : Nat) (sb : Array Value) (blk off a b n : Nat) (d : Array α) (w : World)
    (hswap : SwapSwapsK P sf sb enc k blk off d.size) (hH : HoldsK enc k w blk off d) (hblk : blk < w.heap.size) (h1 : a + n ≤ d.size) (h2 : b + n ≤ d.size) (hsz : d.size < 4611686018427387904) :
    Calls P (ρ.f 49) #[.agg #[.func lf la lb, .func (.func sf) #[] sb], .int .i64 a, .int .i64 b, .int .i64 n] w fun e w' => e = .returned (.tuple #[]) ∧ AtK enc k w blk off (swR a b n d) w' := by
  have mixed := L.mixed; have t0 := L.t0; have a0 := L.a0; have z0 := L.z0; have v0 := L.v0; have t3 := L.t3; have a3 := L.a3; have z3 := L.z3; have v3 := L.v3; have t4 := L.t4; have a4 := L.a4; have z4 := L.z4; have v4 := L.v4; have t26 := L.t26; have a26 := L.a26; have z26 := L.z26; have v26 := L.v26; have t38 := L.t38; have a38 := L.a38; have z38 := L.z38; have v38 := L.v38; have t42 := L.t42; have a42 := L.a42; have z42 := L.z42; have v42 := L.v42
  have u42 := run_underlying L.t42
  have hne : w.heap.size ≠ blk := by omega
  go_enter L.f49, BodyGt.n49_ntmps ρ
  go_wp2
  go_loopg [8] n (fun kx s8 wr => ∃ i : Nat, s8 = .int .i64 i ∧ i ≤ n ∧ n - i ≤ kx ∧ AtK enc k w blk off (swR a b i d) wr ∧ Bx2 w.heap.size (.func lf la lb) (.func (.func sf) #[] sb) wr)
  case atStart => exact ⟨0, rfl, by omega, by omega, (SWK.start hH).alloc _, ⟨by simp, by simp, by simp⟩⟩
  case round =>
    obtain ⟨i, rfl, hi, hkx, hAt, hBx⟩ := hrel
    obtain ⟨c0, c1, c2⟩ := hBx
    have hds := swR_size a b i d
    obtain ⟨hHk, hbk⟩ := hAt.holds hH hds hblk
    by_cases hlt : i < n
    · have hs := hswap wr (swR a b i d) hHk hds (a + i) (b + i) (by omega) (by omega)
      rw [show ((a + i : Nat) : Int) = (a : Int) + (i : Int) by omega, show ((b + i : Nat) : Int) = (b : Int) + (i : Int) by omega] at hs
      have hA1 : SWK enc k wr blk off (swR a b (i + 1) d) _ := (SWK.start hHk).swap hk hbk (a + i) (b + i) (by omega) (by omega)
      have hA2 : SWK enc k w blk off (swR a b (i + 1) d) _ := (show SWK enc k w blk off (swR a b i d) wr from hAt).swap hk hblk (a + i) (b + i) (by omega) (by omega)
      clear hswap hHk hds
      go_wp2
      go_roundg (n - (i + 1))
      case measure => omega
      case rel =>
        exact ⟨i + 1, by go_num, by omega, by omega, hA2, Bx2.step ⟨c0, c1, c2⟩ enc k hne hA1⟩
    · go_wp2
      go_end0
      obtain rfl : i = n := by omega
      exact ⟨rfl, hAt⟩
set_option maxHeartbeats 1600000 in
set_option maxRecDepth 1000000 in
theorem rotate (L : LaysGt.n42 P ρ) (enc : α → List Value) (k : Nat) (hk : ∀ x, (enc x).length = k) (lf : Fn) (la lb : Array Value) (sf : Nat) (sb : Array Value) (blk off a m b : Nat) (d : Array α) (w : World)
    (hswap : SwapSwapsK P sf sb enc k blk off d.size) (hH : HoldsK enc k w blk off d) (hblk : blk < w.heap.size) (h1 : a < m) (h2 : m < b) (hb : b ≤ d.size) (hsz : d.size < 4611686018427387904) :
    Calls P (ρ.f 42) #[.agg #[.func lf la lb, .func (.func sf) #[] sb], .int .i64 a, .int .i64 m, .int .i64 b] w (RotPost enc k w blk off a m b d) := by
  have mixed := L.mixed; have t0 := L.t0; have a0 := L.a0; have z0 := L.z0; have v0 := L.v0; have t3 := L.t3; have a3 := L.a3; have z3 := L.z3; have v3 := L.v3; have t4 := L.t4; have a4 := L.a4; have z4 := L.z4; have v4 := L.v4; have t26 := L.t26; have a26 := L.a26; have z26 := L.z26; have v26 := L.v26; have t38 := L.t38; have a38 := L.a38; have z38 := L.z38; have v38 := L.v38; have t42 := L.t42; have a42 := L.a42; have z42 := L.z42; have v42 := L.v42
  have u42 := run_underlying L.t42
  have e49 : ∀ args w, (callFunc (ρ.f 49) args).run P w = .ok (.enter (ρ.f 49) args) w := enters_of L.f49 (by kernel_rfl) rfl
  have hne : w.heap.size ≠ blk := by omega
  go_enter L.f42, BodyGt.n42_ntmps ρ
  go_wp2
  rw [show (m : Int) - (a : Int) = ((m - a : Nat) : Int) by omega, show (b : Int) - (m : Int) = ((b - m : Nat) : Int) by omega]
  go_loopg [8, 9] (b - a) (fun kx s8 s9 wr => ∃ (i j : Nat) (dk : Array α), s8 = .int .i64 i ∧ s9 = .int .i64 j ∧ 0 < i ∧ 0 < j ∧ i ≤ m - a ∧ j ≤ b - m ∧ i + j ≤ kx ∧ dk.size = d.size ∧ PermIn a b d dk ∧ AtK enc k w blk off dk wr ∧ Bx2 w.heap.size (.func lf la lb) (.func (.func sf) #[] sb) wr ∧ Hid (∀ d', Rot (m - i) m (m + j) dk d' → Rot a m b d d'))
  case atStart => exact ⟨m - a, b - m, d, rfl, rfl, by omega, by omega, by omega, by omega, by omega, rfl, permIn_refl _ _ _, (SWK.start hH).alloc _, ⟨by simp, by simp, by simp⟩, fun d' h => by rwa [show m - (m - a) = a by omega, show m + (b - m) = b by omega] at h⟩
  case round =>
    obtain ⟨i, j, dk, rfl, rfl, hi, hj, him, hjm, hkx, hds, hP, hAt, hBx, HR⟩ := hrel
    obtain ⟨c0, c1, c2⟩ := hBx
    obtain ⟨hHk, hbk⟩ := hAt.holds hH hds hblk
    have hs : ∀ x y n : Nat, x + n ≤ dk.size → y + n ≤ dk.size → Calls P (ρ.f 49) #[.agg #[.func lf la lb, .func (.func sf) #[] sb], .int .i64 x, .int .i64 y, .int .i64 n] wr fun e w' => e = .returned (.tuple #[]) ∧ AtK enc k wr blk off (swR x y n dk) w' := fun x y n hx hy =>
      swapRange { L with } enc k hk lf la lb sf sb blk off x y n dk wr (by rw [hds]; exact hswap) hHk hbk hx hy (by omega)
    by_cases hij : i = j
    · subst hij
      have hc := hs (m - i) m i (by omega) (by omega)
      rw [show ((m - i : Nat) : Int) = (m : Int) - (i : Int) by omega] at hc
      have hR := Rot.of_swR (m - i) m (m + i) dk (by omega) (by omega) (by omega)
      rw [show m - (m - i) = i by omega] at hR
      have hR2 := HR.out _ hR
      have hP2 := permIn_trans _ _ _ _ _ hP (swR_perm (m - i) m a b dk (by omega) (by omega) i (by omega) (by omega) (by omega))
      have hsz2 := swR_size (m - i) m i dk
      clear hs hHk hswap hR HR hP
      go_wp2_with (go_at_fn (ρ.f 49); refine hc.mono ?_; rintro e w1 ⟨rfl, hw1⟩)
      go_end0
      exact ⟨rfl, _, hR2, hP2, SWK_on hAt hblk hsz2 hw1⟩
    · have n1 : ((i : Int) == (j : Int)) = false := beq_eq_false_iff_ne.2 (by omega)
      have n2 : ((i : Int) != (j : Int)) = true := by simp [bne, n1]
      by_cases hlt : j < i
      · have hc := hs (m - i) m j (by omega) (by omega)
        rw [show ((m - i : Nat) : Int) = (m : Int) - (i : Int) by omega] at hc
        have hP2 := permIn_trans _ _ _ _ _ hP (swR_perm (m - i) m a b dk (by omega) (by omega) j (by omega) (by omega) (by omega))
        have hsz2 := swR_size (m - i) m j dk
        have HR2 : Hid (∀ d', Rot (m - (i - j)) m (m + j) (swR (m - i) m j dk) d' → Rot a m b d d') := fun d' h => HR.out _ (Rot.left hlt (by omega) (by omega) h)
        clear hs hHk hswap HR hP
        go_wp2_with (go_at_fn (ρ.f 49); refine hc.mono ?_; rintro e w1 ⟨rfl, hw1⟩)
        go_roundg (i - j + j)
        case measure => omega
        case rel => exact ⟨i - j, j, _, by congr 1; omega, rfl, by omega, hj, by omega, hjm, by omega, hsz2.trans hds, hP2, SWK_on hAt hblk hsz2 hw1, Bx2.step ⟨c0, c1, c2⟩ enc k hne hw1, HR2⟩
      · have hlt2 : i < j := by omega
        have hc := hs (m - i) (m + j - i) i (by omega) (by omega)
        rw [show ((m - i : Nat) : Int) = (m : Int) - (i : Int) by omega, show ((m + j - i : Nat) : Int) = (m : Int) + (j : Int) - (i : Int) by omega] at hc
        have hP2 := permIn_trans _ _ _ _ _ hP (swR_perm (m - i) (m + j - i) a b dk (by omega) (by omega) i (by omega) (by omega) (by omega))
        have hsz2 := swR_size (m - i) (m + j - i) i dk
        have HR2 : Hid (∀ d', Rot (m - i) m (m + (j - i)) (swR (m - i) (m + j - i) i dk) d' → Rot a m b d d') := fun d' h => HR.out _ (Rot.right hlt2 (by omega) (by omega) h)
        clear hs hHk hswap HR hP
        go_wp2_with (go_at_fn (ρ.f 49); refine hc.mono ?_; rintro e w1 ⟨rfl, hw1⟩)
        go_roundg (i + (j - i))
        case measure => omega
        case rel => exact ⟨i, j - i, _, rfl, by congr 1; omega, hi, by omega, him, by omega, by omega, hsz2.trans hds, hP2, SWK_on hAt hblk hsz2 hw1, Bx2.step ⟨c0, c1, c2⟩ enc k hne hw1, HR2⟩
def SymPost (lt : α → α → Bool) (enc : α → List Value) (k : Nat) (w : World) (blk off a b : Nat) (d : Array α) (e : Ending) (w' : World) : Prop := e = .returned (.tuple #[]) ∧ ∃ d', PermIn a b d d' ∧ SortedIn lt a b d' ∧ AtK enc k w blk off d' w'
set_option maxHeartbeats 12800000 in
set_option maxRecDepth 1000000 in
theorem symL (L : LaysGt.n30 P ρ) (enc : α → List Value) (k : Nat) (hk : ∀ x, (enc x).length = k) (lt : α → α → Bool) (hO : SWO lt) (g : Nat) (lb : Array Value) (sf : Nat) (sb : Array Value) (eg : ∀ args w, (callFunc g args).run P w = .ok (.enter g args) w)
    (blk off a m b : Nat) (d : Array α) (w : World) (hL : LessLays P g lb enc k lt blk off d.size w) (hS : SwapSwapsK P sf sb enc k blk off d.size) (hH : HoldsK enc k w blk off d) (hblk : blk < w.heap.size) (ham : a < m) (hmb : m < b) (hb : b ≤ d.size) (hsz : d.size < 4611686018427387904) (hs1 : SortedIn lt a m d) (hs2 : SortedIn lt m b d) (hm1 : m = a + 1) :
    Calls P (ρ.f 30) #[.agg #[.func (.func g) #[] lb, .func (.func sf) #[] sb], .int .i64 a, .int .i64 m, .int .i64 b] w (SymPost lt enc k w blk off a b d) := by
  have mixed := L.mixed; have t0 := L.t0; have a0 := L.a0; have z0 := L.z0; have v0 := L.v0; have t3 := L.t3; have a3 := L.a3; have z3 := L.z3; have v3 := L.v3; have t4 := L.t4; have a4 := L.a4; have z4 := L.z4; have v4 := L.v4; have t26 := L.t26; have a26 := L.a26; have z26 := L.z26; have v26 := L.v26; have t38 := L.t38; have a38 := L.a38; have z38 := L.z38; have v38 := L.v38; have t42 := L.t42; have a42 := L.a42; have z42 := L.z42; have v42 := L.v42; have t47 := L.t47; have a47 := L.a47; have z47 := L.z47; have v47 := L.v47
  have u42 := run_underlying L.t42
  have e42 : ∀ args w, (callFunc (ρ.f 42) args).run P w = .ok (.enter (ρ.f 42) args) w := enters_of L.f42 (by kernel_rfl) rfl
  have e30 : ∀ args w, (callFunc (ρ.f 30) args).run P w = .ok (.enter (ρ.f 30) args) w := enters_of L.f30 (by kernel_rfl) rfl
  have hne : w.heap.size ≠ blk := by omega
  have q1 : ((m : Int) - (a : Int) == 1) = true := beq_iff_eq.2 (by omega)
  have HM : Hid (m = a + 1) := hm1
  clear hm1
  go_enter L.f30, BodyGt.n30_ntmps ρ
  go_wp2
  go_loopg [8, 9] (b - m) (fun kx s8 s9 wr => ∃ (i j : Nat), s8 = .int .i64 i ∧ s9 = .int .i64 j ∧ m ≤ i ∧ i ≤ j ∧ j ≤ b ∧ j - i ≤ kx ∧ Hid (i = m ∨ lt d[i - 1]! d[a]! = true) ∧ Hid (j = b ∨ lt d[j]! d[a]! = false) ∧ AtK enc k w blk off d wr ∧ Bx2 w.heap.size (.func (.func g) #[] lb) (.func (.func sf) #[] sb) wr)
  case atStart => exact ⟨m, b, rfl, rfl, by omega, by omega, by omega, by omega, Or.inl rfl, Or.inl rfl, (SWK.start hH).alloc _, ⟨by simp, by simp, by simp⟩⟩
  case round =>
    obtain ⟨i, j, rfl, rfl, hi, hij, hj, hkx, HI, HJ, hAt, hBx⟩ := hrel
    obtain ⟨c0, c1, c2⟩ := hBx
    by_cases hlt : i < j
    · have hc := hL wr d hAt rfl ((i + j) / 2) a (by omega) (by omega)
      rw [show (((i + j) / 2 : Nat) : Int) = ((i : Int) + (j : Int)) / 2 by omega] at hc
      cases hlv : lt d[(i + j) / 2]! d[a]! with
      | true =>
        rw [hlv] at hc
        have HI2 : Hid ((i + j) / 2 + 1 = m ∨ lt d[(i + j) / 2 + 1 - 1]! d[a]! = true) := Or.inr (by rw [Nat.add_sub_cancel]; exact hlv)
        clear HI hlv
        go_wp2_with (go_at_fn g; refine hc.mono ?_; rintro e w' ⟨rfl, hw'⟩)
        go_roundg (j - ((i + j) / 2 + 1))
        case measure => omega
        case rel => exact ⟨(i + j) / 2 + 1, j, by congr 1, rfl, by omega, by omega, hj, by omega, HI2, HJ, SWK_on hAt hblk rfl hw', Bx2.step ⟨c0, c1, c2⟩ enc k hne hw'⟩
      | false =>
        rw [hlv] at hc
        have HJ2 : Hid ((i + j) / 2 = b ∨ lt d[(i + j) / 2]! d[a]! = false) := Or.inr hlv
        clear HJ hlv
        go_wp2_with (go_at_fn g; refine hc.mono ?_; rintro e w' ⟨rfl, hw'⟩)
        go_roundg ((i + j) / 2 - i)
        case measure => omega
        case rel => exact ⟨i, (i + j) / 2, rfl, by congr 1, hi, by omega, by omega, by omega, HI, HJ2, SWK_on hAt hblk rfl hw', Bx2.step ⟨c0, c1, c2⟩ enc k hne hw'⟩
    · obtain rfl : i = j := by omega
      have hds0 : d.size = d.size := rfl
      clear hL
      go_wp2
      obtain ⟨wo, HWO⟩ : ∃ wo : World, Hid (wo = wr) := ⟨wr, rfl⟩
      go_loopg [11] (i - 1 - a) (fun kx s11 wr => ∃ (q : Nat) (dk : Array α), s11 = .int .i64 q ∧ a ≤ q ∧ q + 1 ≤ i ∧ i - 1 - q ≤ kx ∧ Rot a (a + 1) (q + 1) d dk ∧ PermIn a b d dk ∧ AtK enc k w blk off dk wr ∧ Bx2 w.heap.size (.func (.func g) #[] lb) (.func (.func sf) #[] sb) wr)
      case atStart => exact ⟨a, d, rfl, by omega, by omega, by omega, Rot.same d (Or.inr rfl) (by omega) (by omega), permIn_refl _ _ _, hAt, ⟨c0, c1, c2⟩⟩
      case round =>
        clear c0 c1 c2 hAt
        obtain ⟨q, dk, rfl, haq, hqi, hkq, HR, HP, hAt, hBx⟩ := hrel
        obtain ⟨c0, c1, c2⟩ := hBx
        obtain ⟨hHk, hbk⟩ := hAt.holds hH HR.1 hblk
        by_cases hlt : q < i - 1
        · have hltz : (q : Int) < (i : Int) - 1 := by omega
          have hs := hS wr dk hHk HR.1 q (q + 1) (by omega) (by omega)
          rw [show ((q + 1 : Nat) : Int) = (q : Int) + 1 by omega] at hs
          have hA1 : SWK enc k wr blk off (swp dk q (q + 1)) _ := (SWK.start hHk).swap hk hbk q (q + 1) (by rw [HR.1]; omega) (by rw [HR.1]; omega)
          have hA2 : SWK enc k w blk off (swp dk q (q + 1)) _ := (show SWK enc k w blk off dk wr from hAt).swap hk hblk q (q + 1) (by rw [HR.1]; omega) (by rw [HR.1]; omega)
          have HR2 := Rot.stepUp haq (by omega) HR
          have HP2 := permIn_trans _ _ _ _ _ HP (swp_permIn dk a b q (q + 1) (by omega) (by omega) (by omega) (by omega) (by rw [HR.1]; exact hb))
          clear hS hHk hAt HR HP
          go_wp2
          go_roundg (i - 1 - (q + 1))
          case measure => omega
          case rel => exact ⟨q + 1, _, by go_num, by omega, by omega, by omega, HR2, HP2, hA2, Bx2.step ⟨c0, c1, c2⟩ enc k hne hA1⟩
        · have hltz : ¬ (q : Int) < (i : Int) - 1 := by omega
          obtain rfl : i = q + 1 := by omega
          have hm1 := HM.out
          have hF : SortedIn lt a b dk := one_left hO HR (by omega) hj (by rw [← hm1]; exact hs2) HJ.out (by rw [← hm1]; exact HI.out)
          clear hS hHk hm1
          go_wp2
          (try simp only [Exit.inBlock, Exit.then]); refine bodyPost_ret (results_none rfl _ _ _) rfl ?_
          exact ⟨rfl, dk, HP, hF, hAt⟩
set_option maxHeartbeats 12800000 in
set_option maxRecDepth 1000000 in
theorem symR (L : LaysGt.n30 P ρ) (enc : α → List Value) (k : Nat) (hk : ∀ x, (enc x).length = k) (lt : α → α → Bool) (hO : SWO lt) (g : Nat) (lb : Array Value) (sf : Nat) (sb : Array Value) (eg : ∀ args w, (callFunc g args).run P w = .ok (.enter g args) w)
    (blk off a m b : Nat) (d : Array α) (w : World) (hL : LessLays P g lb enc k lt blk off d.size w) (hS : SwapSwapsK P sf sb enc k blk off d.size) (hH : HoldsK enc k w blk off d) (hblk : blk < w.heap.size) (ham : a < m) (hmb : m < b) (hb : b ≤ d.size) (hsz : d.size < 4611686018427387904) (hs1 : SortedIn lt a m d) (hs2 : SortedIn lt m b d) (hm1 : ¬ m = a + 1) (hb1 : b = m + 1) :
    Calls P (ρ.f 30) #[.agg #[.func (.func g) #[] lb, .func (.func sf) #[] sb], .int .i64 a, .int .i64 m, .int .i64 b] w (SymPost lt enc k w blk off a b d) := by
  have mixed := L.mixed; have t0 := L.t0; have a0 := L.a0; have z0 := L.z0; have v0 := L.v0; have t3 := L.t3; have a3 := L.a3; have z3 := L.z3; have v3 := L.v3; have t4 := L.t4; have a4 := L.a4; have z4 := L.z4; have v4 := L.v4; have t26 := L.t26; have a26 := L.a26; have z26 := L.z26; have v26 := L.v26; have t38 := L.t38; have a38 := L.a38; have z38 := L.z38; have v38 := L.v38; have t42 := L.t42; have a42 := L.a42; have z42 := L.z42; have v42 := L.v42; have t47 := L.t47; have a47 := L.a47; have z47 := L.z47; have v47 := L.v47
  have u42 := run_underlying L.t42
  have e42 : ∀ args w, (callFunc (ρ.f 42) args).run P w = .ok (.enter (ρ.f 42) args) w := enters_of L.f42 (by kernel_rfl) rfl
  have e30 : ∀ args w, (callFunc (ρ.f 30) args).run P w = .ok (.enter (ρ.f 30) args) w := enters_of L.f30 (by kernel_rfl) rfl
  have hne : w.heap.size ≠ blk := by omega
  have q1 : ((m : Int) - (a : Int) == 1) = false := beq_eq_false_iff_ne.2 (by omega)
  have q2 : ((b : Int) - (m : Int) == 1) = true := beq_iff_eq.2 (by omega)
  have HB : Hid (b = m + 1) := hb1
  clear hb1 hm1
  go_enter L.f30, BodyGt.n30_ntmps ρ
  go_wp2
  go_loopg [12, 13] (m - a) (fun kx s8 s9 wr => ∃ (i j : Nat), s8 = .int .i64 i ∧ s9 = .int .i64 j ∧ a ≤ i ∧ i ≤ j ∧ j ≤ m ∧ j - i ≤ kx ∧ Hid (i = a ∨ lt d[m]! d[i - 1]! = false) ∧ Hid (j = m ∨ lt d[m]! d[j]! = true) ∧ AtK enc k w blk off d wr ∧ Bx2 w.heap.size (.func (.func g) #[] lb) (.func (.func sf) #[] sb) wr)
  case atStart => exact ⟨a, m, rfl, rfl, by omega, by omega, by omega, by omega, Or.inl rfl, Or.inl rfl, (SWK.start hH).alloc _, ⟨by simp, by simp, by simp⟩⟩
  case round =>
    obtain ⟨i, j, rfl, rfl, hi, hij, hj, hkx, HI, HJ, hAt, hBx⟩ := hrel
    obtain ⟨c0, c1, c2⟩ := hBx
    by_cases hlt : i < j
    · have hc := hL wr d hAt rfl m ((i + j) / 2) (by omega) (by omega)
      rw [show (((i + j) / 2 : Nat) : Int) = ((i : Int) + (j : Int)) / 2 by omega] at hc
      cases hlv : lt d[m]! d[(i + j) / 2]! with
      | false =>
        rw [hlv] at hc
        have HI2 : Hid ((i + j) / 2 + 1 = a ∨ lt d[m]! d[(i + j) / 2 + 1 - 1]! = false) := Or.inr (by rw [Nat.add_sub_cancel]; exact hlv)
        clear HI hlv
        go_wp2_with (go_at_fn g; refine hc.mono ?_; rintro e w' ⟨rfl, hw'⟩)
        go_roundg (j - ((i + j) / 2 + 1))
        case measure => omega
        case rel => exact ⟨(i + j) / 2 + 1, j, by congr 1, rfl, by omega, by omega, hj, by omega, HI2, HJ, SWK_on hAt hblk rfl hw', Bx2.step ⟨c0, c1, c2⟩ enc k hne hw'⟩
      | true =>
        rw [hlv] at hc
        have HJ2 : Hid ((i + j) / 2 = m ∨ lt d[m]! d[(i + j) / 2]! = true) := Or.inr hlv
        clear HJ hlv
        go_wp2_with (go_at_fn g; refine hc.mono ?_; rintro e w' ⟨rfl, hw'⟩)
        go_roundg ((i + j) / 2 - i)
        case measure => omega
        case rel => exact ⟨i, (i + j) / 2, rfl, by congr 1, hi, by omega, by omega, by omega, HI, HJ2, SWK_on hAt hblk rfl hw', Bx2.step ⟨c0, c1, c2⟩ enc k hne hw'⟩
    · obtain rfl : i = j := by omega
      clear hL
      go_wp2
      go_loopg [15] (m - i) (fun kx s11 wr => ∃ (q : Nat) (dk : Array α), s11 = .int .i64 q ∧ i ≤ q ∧ q ≤ m ∧ q - i ≤ kx ∧ Rot q m (m + 1) d dk ∧ PermIn a b d dk ∧ AtK enc k w blk off dk wr ∧ Bx2 w.heap.size (.func (.func g) #[] lb) (.func (.func sf) #[] sb) wr)
      case atStart => exact ⟨m, d, rfl, by omega, by omega, by omega, Rot.same d (Or.inl rfl) (by omega) (by omega), permIn_refl _ _ _, hAt, ⟨c0, c1, c2⟩⟩
      case round =>
        clear c0 c1 c2 hAt
        obtain ⟨q, dk, rfl, hiq, hqm, hkq, HR, HP, hAt, hBx⟩ := hrel
        obtain ⟨c0, c1, c2⟩ := hBx
        obtain ⟨hHk, hbk⟩ := hAt.holds hH HR.1 hblk
        by_cases hlt : i < q
        · have hs := hS wr dk hHk HR.1 q (q - 1) (by omega) (by omega)
          rw [show ((q - 1 : Nat) : Int) = (q : Int) - 1 by omega] at hs
          have hA1 : SWK enc k wr blk off (swp dk q (q - 1)) _ := (SWK.start hHk).swap hk hbk q (q - 1) (by rw [HR.1]; omega) (by rw [HR.1]; omega)
          have hA2 : SWK enc k w blk off (swp dk q (q - 1)) _ := (show SWK enc k w blk off dk wr from hAt).swap hk hblk q (q - 1) (by rw [HR.1]; omega) (by rw [HR.1]; omega)
          have HR2 := Rot.stepDown (by omega) hqm (by omega) HR
          have HP2 := permIn_trans _ _ _ _ _ HP (swp_permIn dk a b q (q - 1) (by omega) (by omega) (by omega) (by omega) (by rw [HR.1]; exact hb))
          clear hS hHk hAt HR HP
          go_wp2
          go_roundg (q - 1 - i)
          case measure => omega
          case rel => exact ⟨q - 1, _, by congr 1; omega, by omega, by omega, by omega, HR2, HP2, hA2, Bx2.step ⟨c0, c1, c2⟩ enc k hne hA1⟩
        · obtain rfl : i = q := by omega
          have hF : SortedIn lt a b dk := by rw [HB.out]; exact one_right hO HR hi (by omega) hs1 HI.out HJ.out
          clear hS hHk
          go_wp2
          (try simp only [Exit.inBlock, Exit.then]); refine bodyPost_ret (results_none rfl _ _ _) rfl ?_
          exact ⟨rfl, dk, HP, hF, hAt⟩
end Go.Proofs.YtcnegcdmmackeaaGreat.SymSort
