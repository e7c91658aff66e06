/- Go's stable sort at elements of several cells, walked: what each of its functions leaves behind; each theorem names its conditions. -/
import Derived.Test.YtcnegcdmmackeaaGreatSym2
import Derived.Lib.Hide
namespace Go.Proofs.YtcnegcdmmackeaaGreat.SymSort
open Go.Shelf Go.RowKit Go.Lib Go.Sort
set_option linter.unusedVariables false
set_option linter.unusedSimpArgs false
variable {P : Program} {ρ : Ren} {α : Type} [Inhabited α]
set_option maxHeartbeats 2000000 in
set_option maxRecDepth 100000 in
theorem insertion (L : LaysGt.n29 P ρ) (enc : α → List Value) (k : Nat) (hk : ∀ x, (enc x).length = k) (lt : α → α → Bool) (hO : SWO lt) (g : Nat) (lb : Array Value) (sf : Nat) (sb : Array Value) (blk off a b : Nat) (d : Array α) (w : World)
    (eg : ∀ args w, (callFunc g args).run P w = .ok (.enter g args) w) (hL : LessLays P g lb enc k lt blk off d.size w) (hS : SwapSwapsK P sf sb enc k blk off d.size)
    (hH : HoldsK enc k w blk off d) (hblk : blk < w.heap.size) (hab : a ≤ b) (hb : b ≤ d.size) (hsz : d.size < 4611686018427387904) :
    Calls P (ρ.f 29) #[.agg #[.func (.func g) #[] lb, .func (.func sf) #[] sb], .int .i64 a, .int .i64 b] w (SymPost lt enc k w blk off a b d) := by
  have mixed := L.mixed; have t0 := L.t0; have a0 := L.a0; have z0 := L.z0; have v0 := L.v0; have t3 := L.t3; have a3 := L.a3; have z3 := L.z3; have v3 := L.v3; have t4 := L.t4; have a4 := L.a4; have z4 := L.z4; have v4 := L.v4; have t26 := L.t26; have a26 := L.a26; have z26 := L.z26; have v26 := L.v26; have t38 := L.t38; have a38 := L.a38; have z38 := L.z38; have v38 := L.v38; have t42 := L.t42; have a42 := L.a42; have z42 := L.z42; have v42 := L.v42
  have u42 := run_underlying L.t42
  have hne : w.heap.size ≠ blk := by omega
  have HF : Hid (PermIn a b d (Sort.insertionSort lt d a b) ∧ SortedIn lt a b (Sort.insertionSort lt d a b)) := insertionSort_holds hO d a b hab hb
  go_enter L.f29, BodyGt.n29_ntmps ρ
  go_wp2
  go_loopg [6] (b + 1 - a) (fun kx s6 wr => ∃ (i : Nat) (dk : Array α), s6 = .int .i64 i ∧ a < i ∧ i ≤ b + 1 ∧ b + 1 - i ≤ kx ∧ dk.size = d.size ∧ AtK enc k w blk off dk wr ∧ Bx2 w.heap.size (.func (.func g) #[] lb) (.func (.func sf) #[] sb) wr ∧ Hid (insOuter lt a b i dk = insOuter lt a b (a + 1) d))
  case atStart => exact ⟨a + 1, d, by go_num, by omega, by omega, by omega, rfl, (SWK.start hH).alloc _, ⟨by simp, by simp, by simp⟩, rfl⟩
  case round =>
    obtain ⟨i, dk, rfl, hai, hib, hkx, hsk, hAt, hBx, HO⟩ := hrel
    obtain ⟨c0, c1, c2⟩ := hBx
    by_cases hlt : i < b
    · go_wp2
      go_loopg [7] i (fun kx s7 wr => ∃ (j : Nat) (dj : Array α), s7 = .int .i64 j ∧ a ≤ j ∧ j ≤ i ∧ j ≤ kx ∧ dj.size = d.size ∧ AtK enc k w blk off dj wr ∧ Bx2 w.heap.size (.func (.func g) #[] lb) (.func (.func sf) #[] sb) wr ∧ Hid (insInner lt a j dj = insInner lt a i dk))
      case atStart => exact ⟨i, dk, rfl, by omega, Nat.le_refl _, Nat.le_refl _, hsk, hAt, ⟨c0, c1, c2⟩, rfl⟩
      case round =>
        clear c0 c1 c2 hAt
        obtain ⟨j, dj, rfl, haj, hji, hkj, hsj, hAt, hBx, HI⟩ := hrel
        obtain ⟨c0, c1, c2⟩ := hBx
        obtain ⟨hHk, hbk⟩ := hAt.holds hH hsj hblk
        have OUT : Hid ((j ≤ a ∨ lt dj[j]! dj[j - 1]! = false) → insOuter lt a b (i + 1) dj = insOuter lt a b (a + 1) d) := fun hs => by
          rw [← HO.out, insOuter_go _ _ _ _ _ hlt, ← HI.out, insInner_stop _ _ _ _ hs]
        by_cases hja : a < j
        · have hc := hL _ dj hAt hsj j (j - 1) (by omega) (by omega)
          rw [show (((j - 1 : Nat) : Int)) = (j : Int) - 1 by omega] at hc
          have hs := fun (W : World) (h : HoldsK enc k W blk off dj) => hS W dj h hsj j (j - 1) (by omega) (by omega)
          rw [show (((j - 1 : Nat) : Int)) = (j : Int) - 1 by omega] at hs
          have HS := Lib.hid hs
          clear hs hHk hS
          cases hlv : lt dj[j]! dj[j - 1]! with
          | true =>
            rw [hlv] at hc
            have HI2 : Hid (insInner lt a (j - 1) (swp dj j (j - 1)) = insInner lt a i dk) := by rw [← insInner_go lt a j dj hja hlv]; exact HI.out
            go_wp2_with (go_at_fn g; refine hc.mono ?_; rintro e w1 ⟨rfl, hw1⟩; have hA1 := SWK_on hAt hblk rfl hw1; obtain ⟨hHk, hbk1⟩ := hA1.holds hH hsj hblk; obtain ⟨x0, x1, x2⟩ := Bx2.step ⟨c0, c1, c2⟩ enc k hne hw1; have hs := HS.out _ hHk; have hB1 : SWK enc k w1 blk off (swp dj j (j - 1)) _ := (SWK.start hHk).swap hk hbk1 j (j - 1) (by omega) (by omega); have hA2 : SWK enc k w blk off (swp dj j (j - 1)) _ := (show SWK enc k w blk off dj w1 from hA1).swap hk hblk j (j - 1) (by omega) (by omega); clear hHk hw1 HS hlv hA1)
            go_roundg (j - 1)
            case measure => omega
            case rel => exact ⟨j - 1, _, by congr 1; omega, by omega, by omega, Nat.le_refl _, by rw [size_swp]; exact hsj, hA2, Bx2.step ⟨x0, x1, x2⟩ enc k hne hB1, HI2⟩
          | false =>
            rw [hlv] at hc
            have HO2 : Hid (insOuter lt a b (i + 1) dj = insOuter lt a b (a + 1) d) := OUT.out (Or.inr hlv)
            clear hlv HS
            go_wp2_with (go_at_fn g; refine hc.mono ?_; rintro e w1 ⟨rfl, hw1⟩)
            go_roundg (b + 1 - (i + 1))
            case measure => omega
            case rel => exact ⟨i + 1, dj, by go_num, by omega, by omega, Nat.le_refl _, hsj, SWK_on hAt hblk rfl hw1, Bx2.step ⟨c0, c1, c2⟩ enc k hne hw1, HO2⟩
        · have HO2 : Hid (insOuter lt a b (i + 1) dj = insOuter lt a b (a + 1) d) := OUT.out (Or.inl (by omega))
          clear hHk hS hL
          go_wp2
          go_roundg (b + 1 - (i + 1))
          case measure => omega
          case rel => exact ⟨i + 1, dj, by go_num, by omega, by omega, Nat.le_refl _, hsj, hAt, ⟨c0, c1, c2⟩, HO2⟩
    · clear hL hS
      go_wp2
      go_end0
      refine ⟨rfl, dk, ?_, ?_, hAt⟩
      · rw [show dk = Sort.insertionSort lt d a b by unfold Sort.insertionSort; rw [← HO.out, insOuter_stop _ _ _ _ _ hlt]]; exact HF.out.1
      · rw [show dk = Sort.insertionSort lt d a b by unfold Sort.insertionSort; rw [← HO.out, insOuter_stop _ _ _ _ _ hlt]]; exact HF.out.2
def StablePost (lt : α → α → Bool) (enc : α → List Value) (k : Nat) (w : World) (blk off : Nat) (d : Array α) (e : Ending) (w' : World) : Prop := e = .returned (.tuple #[]) ∧ ∃ d', PermIn 0 d.size d d' ∧ SortedIn lt 0 d.size d' ∧ AtK enc k w blk off d' w'
set_option maxHeartbeats 12800000 in
set_option maxRecDepth 1000000 in
theorem stable (L : LaysGt.n15 P ρ) (enc : α → List Value) (k : Nat) (hk : ∀ x, (enc x).length = k) (lt : α → α → Bool) (hO : SWO lt) (g : Nat) (lb : Array Value) (sf : Nat) (sb : Array Value) (eg : ∀ args w, (callFunc g args).run P w = .ok (.enter g args) w)
    (blk off n : Nat) (d : Array α) (w : World) (hn : d.size = n) (hL : LessLays P g lb enc k lt blk off d.size w) (hS : SwapSwapsK P sf sb enc k blk off d.size) (hH : HoldsK enc k w blk off d) (hblk : blk < w.heap.size) (hsz : n < 1152921504606846976) :
    Calls P (ρ.f 15) #[.agg #[.func (.func g) #[] lb, .func (.func sf) #[] sb], .int .i64 n] w (StablePost lt enc k w blk off d) := by
  have mixed := L.mixed; have t0 := L.t0; have a0 := L.a0; have z0 := L.z0; have v0 := L.v0; have t3 := L.t3; have a3 := L.a3; have z3 := L.z3; have v3 := L.v3; have t4 := L.t4; have a4 := L.a4; have z4 := L.z4; have v4 := L.v4; have t26 := L.t26; have a26 := L.a26; have z26 := L.z26; have v26 := L.v26; have t38 := L.t38; have a38 := L.a38; have z38 := L.z38; have v38 := L.v38; have t42 := L.t42; have a42 := L.a42; have z42 := L.z42; have v42 := L.v42; have t47 := L.t47; have a47 := L.a47; have z47 := L.z47; have v47 := L.v47
  have u42 := run_underlying L.t42
  have e29 : ∀ args w, (callFunc (ρ.f 29) args).run P w = .ok (.enter (ρ.f 29) args) w := enters_of L.f29 (by kernel_rfl) rfl
  have e30 : ∀ args w, (callFunc (ρ.f 30) args).run P w = .ok (.enter (ρ.f 30) args) w := enters_of L.f30 (by kernel_rfl) rfl
  have LJ : LaysGt.n29 P ρ := { L with }
  have LM : LaysGt.n30 P ρ := { L with }
  have hne : w.heap.size ≠ blk := by omega
  have LR : ∀ {D : Array α} {X : World}, AtK enc k w blk off D X → D.size = d.size → LessLays P g lb enc k lt blk off D.size X := fun {D X} hA hs => by rw [hs]; exact hL.at_ hA hs hblk
  have SR : ∀ {D : Array α}, D.size = d.size → SwapSwapsK P sf sb enc k blk off D.size := fun {D} hs => by rw [hs]; exact hS
  have INS : ∀ (a b : Nat) (D : Array α) (X : World), AtK enc k w blk off D X → D.size = n → a ≤ b → b ≤ n → Calls P (ρ.f 29) #[.agg #[.func (.func g) #[] lb, .func (.func sf) #[] sb], .int .i64 a, .int .i64 b] X (SymPost lt enc k X blk off a b D) := fun a b D X hA hs hab hb => by
    have hHs := hA.holds hH (hs.trans hn.symm) hblk
    exact insertion LJ enc k hk lt hO g lb sf sb blk off a b D X eg (LR hA (hs.trans hn.symm)) (SR (hs.trans hn.symm)) hHs.1 hHs.2 hab (by omega) (by omega)
  have SYM : ∀ (a m b : Nat) (D : Array α) (X : World), AtK enc k w blk off D X → D.size = n → a < m → m < b → b ≤ n → SortedIn lt a m D → SortedIn lt m b D → Calls P (ρ.f 30) #[.agg #[.func (.func g) #[] lb, .func (.func sf) #[] sb], .int .i64 a, .int .i64 m, .int .i64 b] X (SymPost lt enc k X blk off a b D) := fun a m b D X hA hs ham hmb hb h1 h2 => by
    have hHs := hA.holds hH (hs.trans hn.symm) hblk
    exact symMerge LM enc k hk lt hO g lb sf sb eg _ blk off a m b D X (Nat.lt_succ_self _) (LR hA (hs.trans hn.symm)) (SR (hs.trans hn.symm)) hHs.1 hHs.2 ham hmb (by omega) (by omega) h1 h2
  have HN : Hid (d.size = n) := hn
  have HINS := Lib.hid INS
  have HSYM := Lib.hid SYM
  clear INS SYM LR SR hn hL hS
  go_enter L.f15, BodyGt.n15_ntmps ρ
  go_wp2
  go_loopg [5, 6] n (fun kx s5 s6 wr => ∃ (p a b : Nat) (dk : Array α), s5 = .int .i64 a ∧ s6 = .int .i64 b ∧ Hid (a = p * 20) ∧ b ≤ a + 20 ∧ a + 20 ≤ b ∧ a ≤ n ∧ n - a ≤ kx ∧ Hid (Head lt 20 p dk) ∧ Hid (PermIn 0 n d dk) ∧ AtK enc k w blk off dk wr ∧ Bx2 w.heap.size (.func (.func g) #[] lb) (.func (.func sf) #[] sb) wr)
  case atStart => exact ⟨0, 0, 20, d, rfl, rfl, rfl, by omega, by omega, by omega, by omega, Head.zero _ _, permIn_refl _ _ _, (SWK.start hH).alloc _, ⟨by simp, by simp, by simp⟩⟩
  case round =>
    obtain ⟨p, a, b, dk, rfl, rfl, HA, hb1, hb2, han, hkx, HHd, HP, hAt, hBx⟩ := hrel
    obtain ⟨c0, c1, c2⟩ := hBx
    by_cases hlt : b ≤ n
    · have hc := HINS.out a b dk wr hAt (HP.out.1.trans HN.out) (by omega) hlt
      go_wp2_with (go_at_fn (ρ.f 29); refine hc.mono ?_; rintro e w1 ⟨rfl, d1, hP, hS1, hw1⟩)
      go_roundg (n - b)
      case measure => omega
      case rel =>
        have hab : a + 20 = b := by omega
        have hA := HA.out
        have hn := HN.out
        exact ⟨p + 1, b, b + 20, d1, rfl, by go_num, by show b = (p + 1) * 20; omega, by omega, by omega, hlt, Nat.le_refl _, HHd.out.step (n := b) (by rw [← hA]; exact hP) (by rw [← hA, hab]; exact hS1), permIn_trans _ _ _ _ _ HP.out (permIn_mono _ _ _ _ _ _ (Nat.zero_le _) hlt (by rw [HP.out.1, hn]; omega) hP), SWK_on hAt hblk hP.1 hw1, Bx2.step ⟨c0, c1, c2⟩ enc k hne hw1⟩
    · have hc := HINS.out a n dk wr hAt (HP.out.1.trans HN.out) (by omega) (Nat.le_refl _)
      go_wp2_with (go_at_fn (ρ.f 29); refine hc.mono ?_; rintro e w1 ⟨rfl, d1, hP, hS1, hw1⟩)
      have hn := HN.out
      have HR1 : Hid (Runs lt 20 n d1) := Runs.of_head (HHd.out.step_none (n := n) (by rw [← HA.out]; exact hP)) (by have := HA.out; omega) (by rw [← HA.out]; exact hS1)
      have HP1 : Hid (PermIn 0 n d d1) := permIn_trans _ _ _ _ _ HP.out (permIn_mono _ _ _ _ _ _ (Nat.zero_le _) (Nat.le_refl _) (by rw [HP.out.1, hn]; omega) hP)
      have hAt1 := SWK_on hAt hblk hP.1 hw1
      obtain ⟨x0, x1, x2⟩ := Bx2.step ⟨c0, c1, c2⟩ enc k hne hw1
      clear hn hP hS1 hw1 hAt c0 c1 c2 HHd HP HA hb1 hb2 han hlt
      go_loopg [4] n (fun kx s4 wr => ∃ (s : Nat) (dk : Array α), s4 = .int .i64 s ∧ 20 ≤ s ∧ s ≤ 2 * n + 20 ∧ n - s ≤ kx ∧ Hid (Runs lt s n dk) ∧ Hid (PermIn 0 n d dk) ∧ AtK enc k w blk off dk wr ∧ Bx2 w.heap.size (.func (.func g) #[] lb) (.func (.func sf) #[] sb) wr)
      case atStart => exact ⟨20, d1, rfl, by omega, by omega, by omega, HR1, HP1, hAt1, ⟨x0, x1, x2⟩⟩
      case round =>
        clear x0 x1 x2 hAt1 HR1 HP1
        obtain ⟨s, dk, rfl, hs1, hs2, hkx, HR, HP, hAt, hBx⟩ := hrel
        obtain ⟨c0, c1, c2⟩ := hBx
        by_cases hlt : s < n
        · go_wp2
          obtain ⟨wo, hwo⟩ : ∃ wo : World, wo = wr := ⟨_, rfl⟩
          go_loopg [5, 6] n (fun kx s5 s6 wr => ∃ (p a b : Nat) (dj : Array α), s5 = .int .i64 a ∧ s6 = .int .i64 b ∧ Hid (a = p * (2 * s)) ∧ b = a + 2 * s ∧ a ≤ n ∧ n - a ≤ kx ∧ Hid (Head lt (2 * s) p dj) ∧ Hid (Tail lt s n (2 * p) dj) ∧ Hid (PermIn 0 n d dj) ∧ AtK enc k w blk off dj wr ∧ Bx2 w.heap.size (.func (.func g) #[] lb) (.func (.func sf) #[] sb) wr)
          case atStart => exact ⟨0, 0, 2 * s, dk, rfl, by congr 1, by show 0 = 0 * (2 * s); omega, by omega, by omega, by omega, Head.zero _ _, HR.out.tail, HP, hAt, ⟨c0, c1, c2⟩⟩
          case round =>
            clear c0 c1 c2 hAt HR HP hwo
            obtain ⟨p, a, b, dj, rfl, rfl, HA, hb, han, hkx2, HHd, HT, HP, hAt, hBx⟩ := hrel
            have hb1 : b ≤ a + 2 * s := by omega
            have hb2 : a + 2 * s ≤ b := by omega
            clear hb
            obtain ⟨c0, c1, c2⟩ := hBx
            have T0 := HT.out.at0 HA.out
            have T1 := HT.out.at1 HA.out
            by_cases hle : b ≤ n
            · have hc := HSYM.out a (a + s) b dj wr hAt (HP.out.1.trans HN.out) (by omega) (by omega) hle (sorted_to T0 (by omega)) (sorted_to T1 (by omega))
              rw [show ((a + s : Nat) : Int) = (a : Int) + (s : Int) by omega] at hc
              clear T0 T1
              go_wp2_with (go_at_fn (ρ.f 30); refine hc.mono ?_; rintro e w1 ⟨rfl, d1, hP, hS1, hw1⟩)
              go_roundg (n - b)
              case measure => omega
              case rel =>
                have hab : b = a + 2 * s := by omega
                have hA := HA.out
                have hn := HN.out
                exact ⟨p + 1, b, b + 2 * s, d1, rfl, by congr 1, by show b = (p + 1) * (2 * s); rw [Nat.add_mul, ← hA]; omega, rfl, hle, Nat.le_refl _, HHd.out.step (n := b) (by rw [← hA]; exact hP) (by rw [← hA, ← hab]; exact hS1), HT.out.two hA hP (by omega), permIn_trans _ _ _ _ _ HP.out (permIn_mono _ _ _ _ _ _ (Nat.zero_le _) hle (by rw [HP.out.1, hn]; omega) hP), SWK_on hAt hblk hP.1 hw1, Bx2.step ⟨c0, c1, c2⟩ enc k hne hw1⟩
            · by_cases hm : a + s < n
              · have hmz : (a : Int) + (s : Int) < (n : Int) := by omega
                have hc := HSYM.out a (a + s) n dj wr hAt (HP.out.1.trans HN.out) (by omega) hm (Nat.le_refl _) (sorted_to T0 (by omega)) (sorted_to T1 (by omega))
                rw [show ((a + s : Nat) : Int) = (a : Int) + (s : Int) by omega] at hc
                clear T0 T1
                go_wp2_with (go_at_fn (ρ.f 30); refine hc.mono ?_; rintro e w1 ⟨rfl, d1, hP, hS1, hw1⟩)
                go_roundg (n - 2 * s)
                case measure => omega
                case rel =>
                  have hn := HN.out
                  have hA := HA.out
                  exact ⟨s * 2, d1, by congr 1, by omega, by omega, by omega, (show Runs lt (s * 2) n d1 by rw [Nat.mul_comm s 2]; exact Runs.of_head (HHd.out.step_none (n := n) (by rw [← hA]; exact hP)) (by omega) (by rw [← hA]; exact hS1)), permIn_trans _ _ _ _ _ HP.out (permIn_mono _ _ _ _ _ _ (Nat.zero_le _) (Nat.le_refl _) (by rw [HP.out.1, hn]; omega) hP), SWK_on hAt hblk hP.1 hw1, Bx2.step ⟨c0, c1, c2⟩ enc k hne hw1⟩
              · have hmz : ¬ (a : Int) + (s : Int) < (n : Int) := by omega
                have K : Hid (Runs lt (s * 2) n dj) := by
                  have hA := HA.out
                  show Runs lt (s * 2) n dj
                  rw [Nat.mul_comm s 2]; exact Runs.of_head HHd.out (by omega) (by rw [← hA]; exact sorted_to T0 (by omega))
                clear T0 T1
                go_wp2
                go_roundg (n - 2 * s)
                case measure => omega
                case rel => exact ⟨s * 2, dj, by congr 1, by omega, by omega, by omega, K, HP, hAt, ⟨c0, c1, c2⟩⟩
        · go_wp2
          go_end0
          refine ⟨rfl, dk, by rw [HN.out]; exact HP.out, by rw [HN.out]; exact HR.out.whole (by omega), hAt⟩
/-- sort.SliceStable at a slice of 2 elements or more, each of k cells (structs): a permutation of what the row held, sorted. -/
theorem sliceStable (L : LaysGt.n8 P ρ) (t e : TypeId) (i ie : TypeInfo) (hi : P.info? t = some i) (hd : i.desc = .slice e) (hpk : P.packed t = false) (hie : P.info? e = some ie) (ke : Nat) (hke : ∀ w, (Extern.Rtype.kind e).run P w = .ok ke w)
    (enc : α → List Value) (k : Nat) (hk : ∀ x, (enc x).length = k) (hs1 : ie.size = k) (hagg : ∀ w, (isAgg e).run P w = .ok true w) (h1 : ∀ x, ∀ v ∈ enc x, v.oneCell' = true) (lt : α → α → Bool) (hO : SWO lt) (g : Nat) (lb : Array Value)
    (eg : ∀ args w, (callFunc g args).run P w = .ok (.enter g args) w) (blk off c : Nat) (d : Array α) (h2 : 2 ≤ d.size) (hsz : d.size < 1152921504606846976)
    (f : Nat) (hf : P.funcs.findIdx? (·.name == "internal/reflectlite" ++ ".Swapper$" ++ toString (swapperK d.size ie ke)) = some f)
    (gS : Bool) (hx : ∀ args W, (callFunc f args).run P W = ((Extern.ReflectliteSwapper.swap gS args).run P W).andThen fun v w' => .ok (.value v) w')
    (w : World) (hless : LessLays P g lb enc k lt blk off d.size w) (hH : HoldsK enc k w blk off d) (hblk : blk < w.heap.size) :
    Calls P (ρ.f 8) #[.iface t (.slice (some ⟨blk, off, none⟩) d.size c), .func (.func g) #[] lb] w fun e w' => e = .returned (.tuple #[]) ∧ (fun W' => ∃ d', PermIn 0 d.size d d' ∧ SortedIn lt 0 d.size d' ∧ AtK enc k w blk off d' W') w' := by
  refine Any.sort_SliceStable_of_stable L t e i ie hi hd hpk hie ke hke _ d.size c (by omega) f hf (.func g) #[] lb w (fun W' => ∃ d', PermIn 0 d.size d d' ∧ SortedIn lt 0 d.size d' ∧ AtK enc k w blk off d' W') ?_
  have hB : sliceBound P e ie ke (some ⟨blk, off, none⟩) d.size c = #[.slice (some ⟨blk, off, none⟩) d.size c, typeHandle P e] := by
    unfold sliceBound; rw [if_neg (swapperK_gt _ _ _ h2)]
  have hW : stableWorld P ρ t (some ⟨blk, off, none⟩) d.size c w = grow w #[.cells #[.slice (some ⟨blk, off, none⟩) d.size c] t, .cells #[.pointer (some ⟨P.globals.size, t, none⟩), .pointer (some ⟨w.heap.size, 0, none⟩), .int .u64 151] (ρ.t 36)] := by
    unfold stableWorld; rw [alloc_eq_grow, alloc_eq_grow, grow_grow]; rfl
  generalize (#[.cells #[.slice (some ⟨blk, off, none⟩) d.size c] t, .cells #[.pointer (some ⟨P.globals.size, t, none⟩), .pointer (some ⟨w.heap.size, 0, none⟩), .int .u64 151] (ρ.t 36)] : Array Obj) = os0 at hW
  rw [hB, hW]
  have hp := stable (P := P) (ρ := ρ) { L with } enc k hk lt hO g lb f _ eg blk off d.size d (grow w os0) rfl (hless.at_ ⟨0, os0, by rw [show Sort.ahead w 0 = w from rfl, putRowK_self enc k w blk off d hH]⟩ rfl hblk)
    (swapSwapsK_of_literal gS f hx e ie hie enc k hk hs1 hagg h1 blk off d.size c) (holdsK_grow enc k w _ blk off d hblk hH) (by rw [size_grow]; omega) hsz
  refine hp.mono ?_
  rintro e w' ⟨rfl, d', p, s, n, os, rfl⟩
  exact ⟨rfl, d', p, s, n, os0 ++ os, by rw [ahead_grow, putRowK_grow enc k (Sort.ahead w n) _ blk off _ hblk, grow_grow]⟩
/-- .. at no element or one. -/
theorem sliceStable_tiny (L : LaysGt.n8 P ρ) (t e : TypeId) (i ie : TypeInfo) (hi : P.info? t = some i) (hd : i.desc = .slice e) (hpk : P.packed t = false) (hie : P.info? e = some ie) (ke : Nat) (hke : ∀ w, (Extern.Rtype.kind e).run P w = .ok ke w)
    (p : Option Addr) (n c : Nat) (hn : n ≤ 1) (f : Nat) (hf : P.funcs.findIdx? (·.name == "internal/reflectlite" ++ ".Swapper$" ++ toString (swapperK n ie ke)) = some f) (lf : Fn) (la lb : Array Value) (w : World) :
    Calls P (ρ.f 8) #[.iface t (.slice p n c), .func lf la lb] w fun e w' => e = .returned (.tuple #[]) ∧ ∃ os, w' = grow w os := Any.sort_SliceStable_tiny L t e i ie hi hd hpk hie ke hke p n c hn f hf lf la lb w
#print axioms sliceStable
end Go.Proofs.YtcnegcdmmackeaaGreat.SymSort
