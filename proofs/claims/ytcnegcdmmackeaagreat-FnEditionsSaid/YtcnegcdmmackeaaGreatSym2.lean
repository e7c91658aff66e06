/- Go's stable sort at elements of several cells, walked: what each of its functions leaves behind; each theorem names its conditions. -/
import Derived.Test.YtcnegcdmmackeaaGreatSym1
namespace Go.Proofs.YtcnegcdmmackeaaGreat.SymSort
open Go.Shelf Go.RowKit Go.Lib Go.Sort
set_option linter.unusedVariables false
set_option linter.unusedSimpArgs false
variable {P : Program} {ρ : Ren} {α : Type} [Inhabited α]
set_option maxHeartbeats 12800000 in
set_option maxRecDepth 1000000 in
theorem symMerge (L : LaysGt.n30 P ρ) (enc : α → List Value) (k : Nat) (hk : ∀ x, (enc x).length = k) (lt : α → α → Bool) (hO : SWO lt) (g : Nat) (lb : Array Value) (sf : Nat) (sb : Array Value) (eg : ∀ args w, (callFunc g args).run P w = .ok (.enter g args) w) :
    ∀ (N blk off a m b : Nat) (d : Array α) (w : World), b - a < N → LessLays P g lb enc k lt blk off d.size w → SwapSwapsK P sf sb enc k blk off d.size → HoldsK enc k w blk off d → blk < w.heap.size → a < m → m < b → b ≤ d.size → d.size < 4611686018427387904 → SortedIn lt a m d → SortedIn lt m b d →
    Calls P (ρ.f 30) #[.agg #[.func (.func g) #[] lb, .func (.func sf) #[] sb], .int .i64 a, .int .i64 m, .int .i64 b] w (SymPost lt enc k w blk off a b d) := by
  have mixed := L.mixed; have t0 := L.t0; have a0 := L.a0; have z0 := L.z0; have v0 := L.v0; have t3 := L.t3; have a3 := L.a3; have z3 := L.z3; have v3 := L.v3; have t4 := L.t4; have a4 := L.a4; have z4 := L.z4; have v4 := L.v4; have t26 := L.t26; have a26 := L.a26; have z26 := L.z26; have v26 := L.v26; have t38 := L.t38; have a38 := L.a38; have z38 := L.z38; have v38 := L.v38; have t42 := L.t42; have a42 := L.a42; have z42 := L.z42; have v42 := L.v42; have t47 := L.t47; have a47 := L.a47; have z47 := L.z47; have v47 := L.v47
  have u42 := run_underlying L.t42
  have e42 : ∀ args w, (callFunc (ρ.f 42) args).run P w = .ok (.enter (ρ.f 42) args) w := enters_of L.f42 (by kernel_rfl) rfl
  have e30 : ∀ args w, (callFunc (ρ.f 30) args).run P w = .ok (.enter (ρ.f 30) args) w := enters_of L.f30 (by kernel_rfl) rfl
  intro N
  induction N with
  | zero => intro _ _ _ _ _ _ _ h; exact absurd h (Nat.not_lt_zero _)
  | succ N ih =>
    intro blk off a m b d w hN hL hS hH hblk ham hmb hb hsz hs1 hs2
    have hne : w.heap.size ≠ blk := by omega
    by_cases hm1 : m = a + 1
    · exact symL L enc k hk lt hO g lb sf sb eg blk off a m b d w hL hS hH hblk ham hmb hb hsz hs1 hs2 hm1
    · have q1 : ((m : Int) - (a : Int) == 1) = false := beq_eq_false_iff_ne.2 (by omega)
      by_cases hb1 : b = m + 1
      · exact symR L enc k hk lt hO g lb sf sb eg blk off a m b d w hL hS hH hblk ham hmb hb hsz hs1 hs2 hm1 hb1
      · have q2 : ((b : Int) - (m : Int) == 1) = false := beq_eq_false_iff_ne.2 (by omega)
        obtain ⟨mid, hmid⟩ : ∃ mid : Nat, ((a : Int) + (b : Int)) / 2 = (mid : Int) := ⟨(a + b) / 2, by omega⟩
        have m1 : a < mid := by omega
        have m2 : mid < b := by omega
        have m3 : 2 * mid ≤ a + b := by omega
        have m4 : a + b ≤ 2 * mid + 1 := by omega
        have HQ : Hid (¬ m = a + 1) := hm1
        have HQ2 : Hid (¬ b = m + 1) := hb1
        clear hm1 hb1
        go_enter L.f30, BodyGt.n30_ntmps ρ
        go_upto_if 106 with fail
        go_cut [18, 19] from 23 (fun s18 s19 wc => ∃ lo hi : Nat, s18 = .int .i64 lo ∧ s19 = .int .i64 hi ∧ Hid ((mid < m ∧ lo + b = mid + m ∧ hi = mid) ∨ (m ≤ mid ∧ lo = a ∧ hi = m)) ∧ AtK enc k w blk off d wc ∧ Bx2 w.heap.size (.func (.func g) #[] lb) (.func (.func sf) #[] sb) wc)
        case first =>
          by_cases hmm : mid < m
          · go_wp2
            go_meet
            case rel => exact ⟨mid + m - b, mid, by congr 1; omega, rfl, Or.inl ⟨hmm, by omega, rfl⟩, (SWK.start hH).alloc _, ⟨by simp, by simp, by simp⟩⟩
          · go_wp2
            go_meet
            case rel => exact ⟨a, m, rfl, rfl, Or.inr ⟨by omega, rfl, rfl⟩, (SWK.start hH).alloc _, ⟨by simp, by simp, by simp⟩⟩
        case rest =>
          obtain ⟨lo, hi, rfl, rfl, HL, hAt0, hBx0⟩ := hcut
          have l1 : lo ≤ hi ∧ a ≤ lo ∧ hi ≤ mid ∧ hi ≤ m ∧ mid + m ≤ lo + b := by have := HL.out; have := HQ.out; have := HQ2.out; omega
          obtain ⟨l1, l2, l3, l4, l5⟩ := l1
          obtain ⟨c0, c1, c2⟩ := hBx0
          go_wp2
          go_loopg [18, 19] (hi - lo) (fun kx s18 s19 wr => ∃ (s r : Nat), s18 = .int .i64 s ∧ s19 = .int .i64 r ∧ lo ≤ s ∧ s ≤ r ∧ r ≤ hi ∧ r - s ≤ kx ∧ Hid (s = lo ∨ lt d[mid + m - s]! d[s - 1]! = false) ∧ Hid (r = hi ∨ lt d[mid + m - 1 - r]! d[r]! = true) ∧ AtK enc k w blk off d wr ∧ Bx2 w.heap.size (.func (.func g) #[] lb) (.func (.func sf) #[] sb) wr)
          case atStart => exact ⟨lo, hi, rfl, rfl, by omega, by omega, by omega, by omega, Or.inl rfl, Or.inl rfl, hAt0, ⟨c0, c1, c2⟩⟩
          case round =>
            clear c0 c1 c2 hAt0
            obtain ⟨s, r, rfl, rfl, hs, hsr, hr, hkx, HI, HJ, hAt, hBx⟩ := hrel
            obtain ⟨c0, c1, c2⟩ := hBx
            by_cases hlt : s < r
            · have hc := hL wr d hAt rfl (mid + m - 1 - (s + r) / 2) ((s + r) / 2) (by omega) (by omega)
              rw [show ((mid + m - 1 - (s + r) / 2 : Nat) : Int) = (mid : Int) + (m : Int) - 1 - ((s : Int) + (r : Int)) / 2 by omega, show (((s + r) / 2 : Nat) : Int) = ((s : Int) + (r : Int)) / 2 by omega] at hc
              cases hlv : lt d[mid + m - 1 - (s + r) / 2]! d[(s + r) / 2]! with
              | false =>
                rw [hlv] at hc
                have HI2 : Hid ((s + r) / 2 + 1 = lo ∨ lt d[mid + m - ((s + r) / 2 + 1)]! d[(s + r) / 2 + 1 - 1]! = false) := Or.inr (by rw [Nat.add_sub_cancel, show mid + m - ((s + r) / 2 + 1) = mid + m - 1 - (s + r) / 2 by omega]; exact hlv)
                clear HI hlv
                go_wp2_with (go_at_fn g; refine hc.mono ?_; rintro e w' ⟨rfl, hw'⟩)
                go_roundg (r - ((s + r) / 2 + 1))
                case measure => omega
                case rel => exact ⟨(s + r) / 2 + 1, r, by congr 1, rfl, by omega, by omega, hr, by omega, HI2, HJ, SWK_on hAt hblk rfl hw', Bx2.step ⟨c0, c1, c2⟩ enc k hne hw'⟩
              | true =>
                rw [hlv] at hc
                have HJ2 : Hid ((s + r) / 2 = hi ∨ lt d[mid + m - 1 - (s + r) / 2]! d[(s + r) / 2]! = true) := Or.inr hlv
                clear HJ hlv
                go_wp2_with (go_at_fn g; refine hc.mono ?_; rintro e w' ⟨rfl, hw'⟩)
                go_roundg ((s + r) / 2 - s)
                case measure => omega
                case rel => exact ⟨s, (s + r) / 2, rfl, by congr 1, hs, by omega, by omega, by omega, HI, HJ2, SWK_on hAt hblk rfl hw', Bx2.step ⟨c0, c1, c2⟩ enc k hne hw'⟩
            · obtain rfl : s = r := by omega
              obtain ⟨en, hen⟩ : ∃ en : Nat, (mid : Int) + (m : Int) - (s : Int) = (en : Int) := ⟨mid + m - s, by omega⟩
              have n1 : en + s = mid + m := by omega
              have n2 : m ≤ en := by omega
              have n3 : en ≤ b := by omega
              have n4 : mid ≤ en := by omega
              have n5 : s ≤ m := by omega
              have n6 : a ≤ s := by omega
              have n7 : s ≤ mid := by omega
              have hC1 : Hid (s = a ∨ en = b ∨ lt d[en]! d[s - 1]! = false) := by
                rcases HI.out with e | e
                · rcases HL.out with ⟨_, x, _⟩ | ⟨_, x, _⟩
                  · exact Or.inr (Or.inl (by omega))
                  · exact Or.inl (by omega)
                · exact Or.inr (Or.inr (by rw [show en = mid + m - s by omega]; exact e))
              have hC2 : Hid (s = m ∨ en = m ∨ lt d[en - 1]! d[s]! = true) := by
                rcases HJ.out with e | e
                · rcases HL.out with ⟨_, _, x⟩ | ⟨_, _, x⟩
                  · exact Or.inr (Or.inl (by omega))
                  · exact Or.inl (by omega)
                · exact Or.inr (Or.inr (by rw [show en - 1 = mid + m - 1 - s by omega]; exact e))
              clear HI HJ HL hlt hs hr hsr
              have hHs := hAt.holds hH rfl hblk
              have LR : ∀ {D : Array α} {X : World}, AtK enc k w blk off D X → D.size = d.size → LessLays P g lb enc k lt blk off D.size X := fun {D X} hA hs => by rw [hs]; exact hL.at_ hA hs hblk
              have SR : ∀ {D : Array α}, D.size = d.size → SwapSwapsK P sf sb enc k blk off D.size := fun {D} hs => by rw [hs]; exact hS
              go_upto_region 40 with fail
              go_cut [145] from 23 (fun s145 wx => s145 = .bool (decide (s < m) && decide (m < en)) ∧ wx = wr)
              case first =>
                by_cases h1 : s < m
                · by_cases h2 : m < en
                  · go_wp2_with fail
                    go_meet
                    exact ⟨by simp [h1, h2], rfl⟩
                  · have g2 : decide (m < en) = false := decide_eq_false h2
                    go_wp2_with fail
                    go_meet
                    exact ⟨by simp [h1, h2], rfl⟩
                · have g1 : decide (s < m) = false := decide_eq_false h1
                  go_wp2_with fail
                  go_meet
                  exact ⟨by simp [h1], rfl⟩
              case rest =>
                obtain ⟨rfl, rfl⟩ := hcut
                go_upto_if 145 with fail
                go_cut [] from 23 (fun wx => ∃ d1, Rot s m en d d1 ∧ PermIn a b d d1 ∧ AtK enc k w blk off d1 wx ∧ Bx2 w.heap.size (.func (.func g) #[] lb) (.func (.func sf) #[] sb) wx)
                case first =>
                  cases h145 : (decide (s < m) && decide (m < en))
                  · have hx : ¬ (s < m ∧ m < en) := by simpa using h145
                    go_wp2_with fail
                    go_meet
                    case rel => exact ⟨d, Rot.same d (by omega) (by omega) (by omega), permIn_refl _ _ _, hAt, ⟨c0, c1, c2⟩⟩
                  · have hx : s < m ∧ m < en := by simpa using h145
                    have hc := rotate (P := P) (ρ := ρ) { L with } enc k hk (.func g) #[] lb sf sb blk off s m en d _ (SR rfl) hHs.1 hHs.2 hx.1 hx.2 (by omega) hsz
                    clear hHs
                    go_wp2_with (go_at_fn (ρ.f 42); refine hc.mono ?_; rintro e w1 ⟨rfl, d1, hR, hP, hw1⟩)
                    go_meet
                    case rel => exact ⟨d1, hR, permIn_mono _ _ _ _ _ _ (by omega) (by omega) hb hP, SWK_on hAt hblk hR.1 hw1, Bx2.step ⟨c0, c1, c2⟩ enc k hne hw1⟩
                case rest =>
                  obtain ⟨d1, hR1, hP1, hAt1, hBx1⟩ := hcut
                  clear c0 c1 c2 hAt hHs
                  obtain ⟨c0, c1, c2⟩ := hBx1
                  have hHs := hAt1.holds hH hR1.1 hblk
                  have k1 := rot_A1 (lt := lt) hR1 (by omega) hs1
                  have k2 := rot_B1 (lt := lt) hR1 (by omega) (by omega) n3 hs2
                  go_upto_region 42 with fail
                  go_cut [158] from 23 (fun s158 wx => s158 = .bool (decide (a < s) && decide (s < mid)) ∧ wx = wc)
                  case first =>
                    by_cases h1 : a < s
                    · by_cases h2 : s < mid
                      · go_wp2_with fail
                        go_meet
                        exact ⟨by simp [h1, h2], rfl⟩
                      · have g2 : decide (s < mid) = false := decide_eq_false h2
                        go_wp2_with fail
                        go_meet
                        exact ⟨by simp [h1, h2], rfl⟩
                    · have g1 : decide (a < s) = false := decide_eq_false h1
                      go_wp2_with fail
                      go_meet
                      exact ⟨by simp [h1], rfl⟩
                  case rest =>
                    obtain ⟨rfl, rfl⟩ := hcut
                    have e1 : s + (en - m) = mid := by omega
                    rw [e1] at k2
                    go_upto_if 158 with fail
                    go_cut [] from 23 (fun wx => ∃ d2, PermIn a mid d1 d2 ∧ SortedIn lt a mid d2 ∧ AtK enc k w blk off d2 wx ∧ Bx2 w.heap.size (.func (.func g) #[] lb) (.func (.func sf) #[] sb) wx)
                    case first =>
                      cases h158 : (decide (a < s) && decide (s < mid))
                      · have hx : ¬ (a < s ∧ s < mid) := by simpa using h158
                        have k3 : SortedIn lt a mid d1 := by
                          by_cases q : s = mid
                          · rw [q] at k1; exact k1
                          · have q2 : s = a := by omega
                            rw [q2] at k2; exact k2
                        clear k1 k2
                        go_wp2_with fail
                        go_meet
                        case rel => exact ⟨d1, permIn_refl _ _ _, k3, hAt1, ⟨c0, c1, c2⟩⟩
                      · have hx : a < s ∧ s < mid := by simpa using h158
                        have hc := ih blk off a s mid d1 _ (by omega) (LR hAt1 hR1.1) (SR hR1.1) hHs.1 hHs.2 hx.1 hx.2 (by rw [hR1.1]; omega) (by rw [hR1.1]; exact hsz) k1 k2
                        clear hHs k1 k2
                        go_wp2_with (go_at_fn (ρ.f 30); refine hc.mono ?_; rintro e w1 ⟨rfl, d2, hP, hS2, hw1⟩)
                        go_meet
                        case rel => exact ⟨d2, hP, hS2, SWK_on hAt1 hblk hP.1 hw1, Bx2.step ⟨c0, c1, c2⟩ enc k hne hw1⟩
                    case rest =>
                      obtain ⟨d2, hP2, hS2, hAt2, hBx2⟩ := hcut
                      clear c0 c1 c2 hAt1 hHs k1 k2
                      obtain ⟨c0, c1, c2⟩ := hBx2
                      have hz2 : d2.size = d.size := hP2.1.trans hR1.1
                      have hHs := hAt2.holds hH hz2 hblk
                      have k3 := rot_A2 (lt := lt) hR1 n6 n2 hs1
                      rw [e1] at k3
                      have k4 := rot_B2 (lt := lt) (b := b) hR1 n5 n2 hs2
                      have k5 := sorted_out hP2 k3 (Or.inr (Nat.le_refl _))
                      have k6 := sorted_out hP2 k4 (Or.inr n4)
                      clear k3 k4
                      go_upto_region 44 with fail
                      go_cut [171] from 23 (fun s171 wx => s171 = .bool (decide (mid < en) && decide (en < b)) ∧ wx = wc)
                      case first =>
                        by_cases h1 : mid < en
                        · by_cases h2 : en < b
                          · go_wp2_with fail
                            go_meet
                            exact ⟨by simp [h1, h2], rfl⟩
                          · have g2 : decide (en < b) = false := decide_eq_false h2
                            go_wp2_with fail
                            go_meet
                            exact ⟨by simp [h1, h2], rfl⟩
                        · have g1 : decide (mid < en) = false := decide_eq_false h1
                          go_wp2_with fail
                          go_meet
                          exact ⟨by simp [h1], rfl⟩
                      case rest =>
                        obtain ⟨rfl, rfl⟩ := hcut
                        cases h171 : (decide (mid < en) && decide (en < b))
                        · have hx : ¬ (mid < en ∧ en < b) := by simpa using h171
                          have k7 : SortedIn lt mid b d2 := by
                            by_cases q : en = b
                            · rw [q] at k5; exact k5
                            · have q2 : en = mid := by omega
                              rw [q2] at k6; exact k6
                          clear k5 k6
                          have F := sym_fin hO hR1 n6 n5 n2 n3 hb hs1 hs2 hC1.out hC2.out e1 hP1 hP2 hS2 (permIn_refl _ _ _) k7
                          go_wp2_with fail
                          go_end0
                          exact ⟨rfl, d2, F.1, F.2, hAt2⟩
                        · have hx : mid < en ∧ en < b := by simpa using h171
                          have hc := ih blk off mid en b d2 _ (by omega) (LR hAt2 hz2) (SR hz2) hHs.1 hHs.2 hx.1 hx.2 (by rw [hz2]; exact hb) (by rw [hz2]; exact hsz) k5 k6
                          clear hHs k5 k6
                          go_wp2_with (go_at_fn (ρ.f 30); refine hc.mono ?_; rintro e w1 ⟨rfl, d3, hP, hS3, hw1⟩)
                          go_end0
                          have F := sym_fin hO hR1 n6 n5 n2 n3 hb hs1 hs2 hC1.out hC2.out e1 hP1 hP2 hS2 hP hS3
                          exact ⟨rfl, d3, F.1, F.2, SWK_on hAt2 hblk hP.1 hw1⟩
end Go.Proofs.YtcnegcdmmackeaaGreat.SymSort
