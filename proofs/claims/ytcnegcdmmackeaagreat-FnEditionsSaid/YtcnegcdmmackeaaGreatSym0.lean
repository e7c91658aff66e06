/- The plain law of Go's symmetric merge (sort.stable_func, symMerge_func, rotate_func, swapRange_func): over a strict weak order it ends with a sorted permutation. No program in sight. -/
import Derived.Sort.LotA
namespace Go.Proofs.YtcnegcdmmackeaaGreat.SymSort
open Go.Sort
set_option linter.unusedVariables false
set_option linter.unusedSimpArgs false
variable {α : Type} [Inhabited α] {lt : α → α → Bool}

/-- The exchange of two runs of n places, one place after the other. -/
def swR (a b : Nat) : Nat → Array α → Array α
  | 0, d => d
  | n + 1, d => swp (swR a b n d) (a + n) (b + n)
theorem swR_size (a b : Nat) : ∀ (n : Nat) (d : Array α), (swR a b n d).size = d.size
  | 0, _ => rfl
  | n + 1, d => by rw [swR, size_swp, swR_size a b n d]
theorem swR_get (a b : Nat) (d : Array α) : ∀ n : Nat, a + n ≤ b → b + n ≤ d.size → ∀ x, (swR a b n d)[x]! = if a ≤ x ∧ x < a + n then d[x - a + b]! else if b ≤ x ∧ x < b + n then d[x - b + a]! else d[x]!
  | 0, _, _, x => by rw [if_neg (by omega), if_neg (by omega)]; rfl
  | n + 1, h1, h2, x => by
    have ih := swR_get a b d n (by omega) (by omega)
    have hs := swR_size a b n d
    rw [swR]
    by_cases e1 : x = a + n
    · subst e1
      rw [swp_left _ _ _ (by omega) (by omega), ih, if_neg (by omega), if_neg (by omega), if_pos (by omega)]
      congr 1; omega
    · by_cases e2 : x = b + n
      · subst e2
        rw [swp_right _ _ _ (by omega), ih, if_neg (by omega), if_neg (by omega), if_neg (by omega), if_pos (by omega)]
        congr 1; omega
      · rw [swp_other _ _ _ _ e1 e2, ih]
        by_cases c1 : a ≤ x ∧ x < a + n
        · rw [if_pos c1, if_pos (by omega)]
        · by_cases c2 : b ≤ x ∧ x < b + n
          · rw [if_neg c1, if_pos c2, if_neg (by omega), if_pos (by omega)]
          · rw [if_neg c1, if_neg c2, if_neg (by omega), if_neg (by omega)]
theorem swR_perm (a b lo hi : Nat) (d : Array α) (hlo : lo ≤ a) (hhi : hi ≤ d.size) : ∀ n : Nat, a + n ≤ hi → b + n ≤ hi → lo ≤ b → PermIn lo hi d (swR a b n d)
  | 0, _, _, _ => permIn_refl _ _ _
  | n + 1, h1, h2, h3 => permIn_trans _ _ _ _ _ (swR_perm a b lo hi d hlo hhi n (by omega) (by omega) h3) (swp_permIn _ _ _ _ _ (by omega) (by omega) (by omega) (by omega) (by rw [swR_size]; exact hhi))

/-- d' is d with the neighbouring runs [a, m) and [m, b) exchanged. -/
def Rot (a m b : Nat) (d d' : Array α) : Prop := d'.size = d.size ∧ ∀ x, d'[x]! = if a ≤ x ∧ x < a + (b - m) then d[x + (m - a)]! else if a + (b - m) ≤ x ∧ x < b then d[x - (b - m)]! else d[x]!

theorem Rot.of_swR (a m b : Nat) (d : Array α) (h1 : a + (b - m) = m) (h2 : m ≤ b) (h3 : b ≤ d.size) : Rot a m b d (swR a m (m - a) d) := by
  refine ⟨swR_size _ _ _ _, fun x => ?_⟩
  rw [swR_get a m d (m - a) (by omega) (by omega)]
  by_cases c1 : a ≤ x ∧ x < m
  · rw [if_pos (by omega), if_pos (by omega)]; congr 1; omega
  · by_cases c2 : m ≤ x ∧ x < b
    · rw [if_neg (by omega), if_pos (by omega), if_neg (by omega), if_pos (by omega)]; congr 1; omega
    · rw [if_neg (by omega), if_neg (by omega), if_neg (by omega), if_neg (by omega)]
theorem Rot.left {m i j : Nat} {d d' : Array α} (hij : j < i) (him : i ≤ m) (hj : m + j ≤ d.size) (h : Rot (m - (i - j)) m (m + j) (swR (m - i) m j d) d') : Rot (m - i) m (m + j) d d' := by
  refine ⟨h.1.trans (swR_size _ _ _ _), fun x => ?_⟩
  have g := swR_get (m - i) m d j (by omega) (by omega)
  rw [h.2 x]
  by_cases c1 : m - i ≤ x ∧ x < m - i + j
  · rw [if_neg (by omega), if_neg (by omega), g, if_pos (by omega), if_pos (by omega)]; congr 1; omega
  · by_cases c2 : m - i + j ≤ x ∧ x < m - i + j + j
    · rw [if_pos (by omega), g, if_neg (by omega)]
      rw [if_neg (by omega : ¬ (m - i ≤ x ∧ x < m - i + (m + j - m))), if_pos (by omega : m - i + (m + j - m) ≤ x ∧ x < m + j)]
      by_cases c3 : m ≤ x + (m - (m - (i - j)))
      · rw [if_pos (by omega)]; congr 1; omega
      · exfalso; omega
    · by_cases c3 : m - i + j + j ≤ x ∧ x < m + j
      · rw [if_neg (by omega), if_pos (by omega), g, if_neg (by omega), if_neg (by omega), if_neg (by omega), if_pos (by omega)]
      · rw [if_neg (by omega), if_neg (by omega), g, if_neg (by omega), if_neg (by omega), if_neg (by omega), if_neg (by omega)]
theorem Rot.right {m i j : Nat} {d d' : Array α} (hij : i < j) (him : i ≤ m) (hj : m + j ≤ d.size) (h : Rot (m - i) m (m + (j - i)) (swR (m - i) (m + j - i) i d) d') : Rot (m - i) m (m + j) d d' := by
  refine ⟨h.1.trans (swR_size _ _ _ _), fun x => ?_⟩
  have g := swR_get (m - i) (m + j - i) d i (by omega) (by omega)
  rw [h.2 x]
  by_cases c1 : m - i ≤ x ∧ x < m - i + (j - i)
  · rw [if_pos (by omega), g, if_pos (by omega : m - i ≤ x ∧ x < m - i + (m + j - m))]
    by_cases c2 : x + (m - (m - i)) < m + j - i
    · rw [if_neg (by omega), if_neg (by omega)]
    · exfalso; omega
  · by_cases c2 : m - i + (j - i) ≤ x ∧ x < m + (j - i)
    · rw [if_neg (by omega), if_pos (by omega), g]
      by_cases c3 : x < m - i + j
      · rw [if_pos (by omega), if_pos (by omega)]; congr 1; omega
      · exfalso; omega
    · by_cases c3 : m + (j - i) ≤ x ∧ x < m + j
      · rw [if_neg (by omega), if_neg (by omega), g, if_neg (by omega), if_pos (by omega), if_neg (by omega), if_pos (by omega)]; congr 1; omega
      · rw [if_neg (by omega), if_neg (by omega), g, if_neg (by omega), if_neg (by omega), if_neg (by omega), if_neg (by omega)]
theorem Rot.same {a m b : Nat} (d : Array α) (h : a = m ∨ m = b) (hm : a ≤ m) (hb : m ≤ b) : Rot a m b d d := by
  refine ⟨rfl, fun x => ?_⟩
  rcases h with rfl | rfl
  · by_cases c1 : a ≤ x ∧ x < a + (b - a)
    · rw [if_pos c1]; congr 1; omega
    · rw [if_neg c1, if_neg (by omega)]
  · by_cases c1 : a ≤ x ∧ x < m
    · rw [if_neg (by omega), if_pos (by omega)]; congr 1; omega
    · rw [if_neg (by omega), if_neg (by omega)]
/-- One place further to the right. -/
theorem Rot.stepUp {a k : Nat} {d dk : Array α} (hak : a ≤ k) (hk : k + 1 < d.size) (h : Rot a (a + 1) (k + 1) d dk) : Rot a (a + 1) (k + 2) d (swp dk k (k + 1)) := by
  have hs := h.1
  refine ⟨(size_swp _ _ _).trans hs, fun x => ?_⟩
  by_cases e1 : x = k
  · subst e1
    rw [swp_left _ _ _ (by omega) (by omega), h.2, if_neg (by omega), if_neg (by omega), if_pos (by omega)]; congr 1; omega
  · by_cases e2 : x = k + 1
    · subst e2
      rw [swp_right _ _ _ (by omega), h.2, if_neg (by omega), if_pos (by omega), if_neg (by omega), if_pos (by omega)]; congr 1; omega
    · rw [swp_other _ _ _ _ e1 e2, h.2]
      by_cases c1 : a ≤ x ∧ x < k
      · rw [if_pos (by omega), if_pos (by omega)]
      · rw [if_neg (by omega), if_neg (by omega), if_neg (by omega), if_neg (by omega)]
/-- One place further to the left. -/
theorem Rot.stepDown {m k : Nat} {d dk : Array α} (hk : 0 < k) (hkm : k ≤ m) (hm : m < d.size) (h : Rot k m (m + 1) d dk) : Rot (k - 1) m (m + 1) d (swp dk k (k - 1)) := by
  have hs := h.1
  refine ⟨(size_swp _ _ _).trans hs, fun x => ?_⟩
  by_cases e1 : x = k
  · subst e1
    rw [swp_left _ _ _ (by omega) (by omega), h.2, if_neg (by omega), if_neg (by omega), if_neg (by omega), if_pos (by omega)]; congr 1; omega
  · by_cases e2 : x = k - 1
    · subst e2
      rw [swp_right _ _ _ (by omega), h.2, if_pos (by omega), if_pos (by omega)]; congr 1; omega
    · rw [swp_other _ _ _ _ e1 e2, h.2]
      by_cases c1 : k + 1 ≤ x ∧ x < m + 1
      · rw [if_neg (by omega), if_pos (by omega), if_neg (by omega), if_pos (by omega)]
      · rw [if_neg (by omega), if_neg (by omega), if_neg (by omega), if_neg (by omega)]

/-- What a round of the symmetric merge is good for: both runs are cut, the cuts exchanged, nothing behind the middle is less than anything ahead of it. -/
theorem cross {a s m e b : Nat} {d d' : Array α} (hO : SWO lt) (h : Rot s m e d d') (ha : a ≤ s) (hs : s ≤ m) (hm : m ≤ e) (he : e ≤ b) (h1 : SortedIn lt a m d) (h2 : SortedIn lt m b d)
    (c1 : s = a ∨ e = b ∨ lt d[e]! d[s - 1]! = false) (c2 : s = m ∨ e = m ∨ lt d[e - 1]! d[s]! = true) :
    ∀ i j, a ≤ i → i < s + (e - m) → s + (e - m) ≤ j → j < b → lt d'[j]! d'[i]! = false := by
  have tr := hO.ntrans
  have le (x y : α) (h : lt x y = true) : lt y x = false := hO.asymmA h
  -- the last of the first run's head is not above the first of the second run's tail
  have K1 : ∀ i j, a ≤ i → i < s → e ≤ j → j < b → lt d[j]! d[i]! = false := by
    intro i j hi his hj hjb
    rcases c1 with c | c | c
    · omega
    · omega
    · have A : lt d[j]! d[e]! = false := by
        by_cases q : j = e
        · subst q; exact hO.irrefl _
        · exact h2 e j (by omega) (by omega) hjb
      have B : lt d[s - 1]! d[i]! = false := by
        by_cases q : i = s - 1
        · subst q; exact hO.irrefl _
        · exact h1 i (s - 1) hi (by omega) (by omega)
      exact tr _ _ _ (tr _ _ _ A c) B
  have K2 : ∀ i j, m ≤ i → i < e → s ≤ j → j < m → lt d[j]! d[i]! = false := by
    intro i j hi hie hj hjm
    rcases c2 with c | c | c
    · omega
    · omega
    · have A : lt d[j]! d[s]! = false := by
        by_cases q : j = s
        · subst q; exact hO.irrefl _
        · exact h1 s j (by omega) (by omega) hjm
      have B : lt d[e - 1]! d[i]! = false := by
        by_cases q : i = e - 1
        · subst q; exact hO.irrefl _
        · exact h2 i (e - 1) hi (by omega) (by omega)
      exact tr _ _ _ (tr _ _ _ A (le _ _ c)) B
  intro i j hi hic hcj hjb
  rw [h.2 i, h.2 j]
  by_cases i1 : i < s
  · rw [if_neg (by omega : ¬ (s ≤ i ∧ i < s + (e - m))), if_neg (by omega : ¬ (s + (e - m) ≤ i ∧ i < e)), if_neg (by omega : ¬ (s ≤ j ∧ j < s + (e - m)))]
    by_cases j1 : j < e
    · rw [if_pos ⟨hcj, j1⟩]; exact h1 i _ hi (by omega) (by omega)
    · rw [if_neg (by omega)]; exact K1 i j hi i1 (by omega) hjb
  · rw [if_pos (by omega : s ≤ i ∧ i < s + (e - m)), if_neg (by omega : ¬ (s ≤ j ∧ j < s + (e - m)))]
    by_cases j1 : j < e
    · rw [if_pos ⟨hcj, j1⟩]; exact K2 _ _ (by omega) (by omega) (by omega) (by omega)
    · rw [if_neg (by omega)]; exact h2 _ j (by omega) (by omega) hjb
theorem rot_A1 {a s m e : Nat} {d d' : Array α} (h : Rot s m e d d') (hs : s ≤ m) (h1 : SortedIn lt a m d) : SortedIn lt a s d' := fun i j hi hij hj => by
  rw [h.2 i, h.2 j, if_neg (by omega), if_neg (by omega), if_neg (by omega), if_neg (by omega)]; exact h1 i j hi hij (by omega)
theorem rot_B1 {s m e b : Nat} {d d' : Array α} (h : Rot s m e d d') (hs : s ≤ m) (hm : m ≤ e) (he : e ≤ b) (h2 : SortedIn lt m b d) : SortedIn lt s (s + (e - m)) d' := fun i j hi hij hj => by
  rw [h.2 i, h.2 j, if_pos (by omega), if_pos (by omega)]; exact h2 _ _ (by omega) (by omega) (by omega)
theorem rot_A2 {a s m e : Nat} {d d' : Array α} (h : Rot s m e d d') (ha : a ≤ s) (hm : m ≤ e) (h1 : SortedIn lt a m d) : SortedIn lt (s + (e - m)) e d' := fun i j hi hij hj => by
  rw [h.2 i, h.2 j, if_neg (by omega), if_pos (by omega), if_neg (by omega), if_pos (by omega)]; exact h1 _ _ (by omega) (by omega) (by omega)
theorem rot_B2 {s m e b : Nat} {d d' : Array α} (h : Rot s m e d d') (hs : s ≤ m) (hm : m ≤ e) (h2 : SortedIn lt m b d) : SortedIn lt e b d' := fun i j hi hij hj => by
  rw [h.2 i, h.2 j, if_neg (by omega), if_neg (by omega), if_neg (by omega), if_neg (by omega)]; exact h2 i j (by omega) hij hj
theorem glue {a c b : Nat} {d : Array α} (h1 : SortedIn lt a c d) (h2 : SortedIn lt c b d) (hx : ∀ i j, a ≤ i → i < c → c ≤ j → j < b → lt d[j]! d[i]! = false) : SortedIn lt a b d := fun i j hi hij hj => by
  by_cases j1 : j < c
  · exact h1 i j hi hij j1
  · by_cases i1 : c ≤ i
    · exact h2 i j i1 hij hj
    · exact hx i j hi (by omega) (by omega) hj
/-- 'Nothing behind the middle is less than anything ahead of it' stays when each half is permuted. -/
theorem cross_perm {a c b : Nat} {d d1 d2 : Array α} (hc : c ≤ d.size) (hb : b ≤ d.size) (p1 : PermIn a c d d1) (p2 : PermIn c b d1 d2) (hx : ∀ i j, a ≤ i → i < c → c ≤ j → j < b → lt d[j]! d[i]! = false) :
    ∀ i j, a ≤ i → i < c → c ≤ j → j < b → lt d2[j]! d2[i]! = false := by
  have s1 : ∀ i j, a ≤ i → i < c → c ≤ j → j < b → lt d1[j]! d1[i]! = false := fun i j hi hic hcj hjb => by
    rw [p1.2.1 j (Or.inr hcj)]
    exact permIn_all d d1 a c (fun x => lt d[j]! x = false) hc p1 (fun i hi hic => hx i j hi hic hcj hjb) i hi hic
  intro i j hi hic hcj hjb
  rw [p2.2.1 i (Or.inl hic)]
  exact permIn_all d1 d2 c b (fun x => lt x d1[i]! = false) (by rw [p1.1]; exact hb) p2 (fun j hcj hjb => s1 i j hi hic hcj hjb) j hcj hjb
theorem sorted_out {a b x y : Nat} {d d' : Array α} (p : PermIn x y d d') (h : SortedIn lt a b d) (ho : b ≤ x ∨ y ≤ a) : SortedIn lt a b d' := fun i j hi hij hj => by
  rw [p.2.1 i (by omega), p.2.1 j (by omega)]; exact h i j hi hij hj
/-- The whole of a symmetric merge behind its exchange. -/
theorem sym_holds {a s m e b : Nat} {d d1 d2 d3 : Array α} (hO : SWO lt) (hr : Rot s m e d d1) (ha : a ≤ s) (hs : s ≤ m) (hm : m ≤ e) (he : e ≤ b) (hb : b ≤ d.size) (h1 : SortedIn lt a m d) (h2 : SortedIn lt m b d)
    (c1 : s = a ∨ e = b ∨ lt d[e]! d[s - 1]! = false) (c2 : s = m ∨ e = m ∨ lt d[e - 1]! d[s]! = true)
    (p2 : PermIn a (s + (e - m)) d1 d2) (s2 : SortedIn lt a (s + (e - m)) d2) (p3 : PermIn (s + (e - m)) b d2 d3) (s3 : SortedIn lt (s + (e - m)) b d3) : SortedIn lt a b d3 :=
  glue (sorted_out p3 s2 (by omega)) s3 (cross_perm (by rw [hr.1]; omega) (by rw [hr.1]; exact hb) p2 p3 (cross hO hr ha hs hm he h1 h2 c1 c2))
theorem sym_fin {a s m e b mid : Nat} {d d1 d2 d3 : Array α} (hO : SWO lt) (hr : Rot s m e d d1) (ha : a ≤ s) (hs : s ≤ m) (hm : m ≤ e) (he : e ≤ b) (hb : b ≤ d.size) (h1 : SortedIn lt a m d) (h2 : SortedIn lt m b d)
    (c1 : s = a ∨ e = b ∨ lt d[e]! d[s - 1]! = false) (c2 : s = m ∨ e = m ∨ lt d[e - 1]! d[s]! = true) (e1 : s + (e - m) = mid) (p1 : PermIn a b d d1)
    (p2 : PermIn a mid d1 d2) (s2 : SortedIn lt a mid d2) (p3 : PermIn mid b d2 d3) (s3 : SortedIn lt mid b d3) : PermIn a b d d3 ∧ SortedIn lt a b d3 := by
  subst e1
  have q1 : PermIn a b d1 d2 := permIn_mono _ _ _ _ _ _ (Nat.le_refl a) (by omega) (by rw [hr.1]; exact hb) p2
  have q2 : PermIn a b d2 d3 := permIn_mono _ _ _ _ _ _ (by omega) (Nat.le_refl b) (by rw [p2.1, hr.1]; exact hb) p3
  exact ⟨permIn_trans _ _ _ _ _ (permIn_trans _ _ _ _ _ p1 q1) q2, sym_holds hO hr ha hs hm he hb h1 h2 c1 c2 p2 s2 p3 s3⟩
/-- A first run of one element: it is put where the search found its place. -/
theorem one_left {a e b : Nat} {d d' : Array α} (hO : SWO lt) (hr : Rot a (a + 1) e d d') (he : a + 1 ≤ e) (heb : e ≤ b) (h2 : SortedIn lt (a + 1) b d)
    (c1 : e = b ∨ lt d[e]! d[a]! = false) (c2 : e = a + 1 ∨ lt d[e - 1]! d[a]! = true) : SortedIn lt a b d' := by
  have h1 : SortedIn lt a (a + 1) d := fun i j hi hij hj => by omega
  have hx := cross hO hr (Nat.le_refl a) (by omega) he heb h1 h2 (Or.inl rfl) (Or.inr c2)
  have e1 : a + (e - (a + 1)) = e - 1 := by omega
  have hB1 := rot_B1 (lt := lt) hr (by omega) he heb h2
  have hB2 := rot_B2 (lt := lt) (b := b) hr (by omega) he h2
  rw [e1] at hx hB1
  refine glue hB1 (fun i j hi hij hj => ?_) hx
  by_cases q : i = e - 1
  · subst q
    have e2 : d'[e - 1]! = d[a]! := by rw [hr.2, if_neg (by omega), if_pos (by omega)]; congr 1; omega
    have e3 : d'[j]! = d[j]! := by rw [hr.2, if_neg (by omega), if_neg (by omega)]
    rw [e2, e3]
    rcases c1 with c | c
    · omega
    · by_cases q2 : j = e
      · subst q2; exact c
      · exact hO.ntrans _ _ _ (h2 e j (by omega) (by omega) hj) c
  · exact hB2 i j (by omega) hij hj
/-- A second run of one element. -/
theorem one_right {a s m : Nat} {d d' : Array α} (hO : SWO lt) (hr : Rot s m (m + 1) d d') (ha : a ≤ s) (hs : s ≤ m) (h1 : SortedIn lt a m d)
    (c1 : s = a ∨ lt d[m]! d[s - 1]! = false) (c2 : s = m ∨ lt d[m]! d[s]! = true) : SortedIn lt a (m + 1) d' := by
  have h2 : SortedIn lt m (m + 1) d := fun i j hi hij hj => by omega
  have hx := cross hO hr ha hs (by omega) (Nat.le_refl (m + 1)) h1 h2 (Or.inr (Or.inl rfl)) (c2.imp_right fun c => Or.inr (by rw [show m + 1 - 1 = m by omega]; exact c))
  have e1 : s + (m + 1 - m) = s + 1 := by omega
  have hA1 := rot_A1 (lt := lt) hr hs h1
  have hA2 := rot_A2 (lt := lt) hr ha (by omega) h1
  rw [e1] at hx hA2
  refine glue (fun i j hi hij hj => ?_) hA2 hx
  by_cases q : j = s
  · subst q
    have e2 : d'[j]! = d[m]! := by rw [hr.2, if_pos (by omega)]; congr 1; omega
    have e3 : d'[i]! = d[i]! := by rw [hr.2, if_neg (by omega), if_neg (by omega)]
    rw [e2, e3]
    rcases c1 with c | c
    · omega
    · by_cases q2 : i = j - 1
      · subst q2; exact c
      · exact hO.ntrans _ _ _ c (h1 i (j - 1) hi (by omega) (by omega))
  · exact hA1 i j hi hij (by omega)
def Runs (lt : α → α → Bool) (s n : Nat) (d : Array α) : Prop := ∀ q, SortedIn lt (q * s) (min (q * s + s) n) d
def Head (lt : α → α → Bool) (s p : Nat) (d : Array α) : Prop := ∀ q, q < p → SortedIn lt (q * s) (q * s + s) d
def Tail (lt : α → α → Bool) (s n p : Nat) (d : Array α) : Prop := ∀ q, p ≤ q → SortedIn lt (q * s) (min (q * s + s) n) d
theorem mul_lt_step {q p s : Nat} (h : q < p) : q * s + s ≤ p * s := by
  have := Nat.mul_le_mul_right s (show q + 1 ≤ p from h); rwa [Nat.add_mul, Nat.one_mul] at this
theorem Head.step {s p n : Nat} {d d' : Array α} (h : Head lt s p d) (hp : PermIn (p * s) n d d') (hs : SortedIn lt (p * s) (p * s + s) d') : Head lt s (p + 1) d' := fun q hq => by
  by_cases e : q = p
  · subst e; exact hs
  · have := mul_lt_step (s := s) (show q < p by omega)
    exact sorted_out hp (h q (by omega)) (by omega)
theorem Head.step_none {s p n : Nat} {d d' : Array α} (h : Head lt s p d) (hp : PermIn (p * s) n d d') : Head lt s p d' := fun q hq => by
  have := mul_lt_step (s := s) (show q < p by omega)
  exact sorted_out hp (h q (by omega)) (by omega)
theorem Tail.step {s n p x y : Nat} {d d' : Array α} (h : Tail lt s n p d) (hp : PermIn x y d d') (hy : y ≤ (p + 2) * s) : Tail lt s n (p + 2) d' := fun q hq => by
  have : (p + 2) * s ≤ q * s := Nat.mul_le_mul_right s hq
  exact sorted_out hp (h q (by omega)) (by omega)
theorem Runs.of_head {s n p : Nat} {d : Array α} (h : Head lt s p d) (hn : n ≤ p * s + s) (hl : SortedIn lt (p * s) n d) : Runs lt s n d := fun q => by
  by_cases e : q < p
  · intro i j hi hij hj; exact h q e i j hi hij (by omega)
  · by_cases e2 : q = p
    · subst e2; intro i j hi hij hj; exact hl i j hi hij (by omega)
    · have := mul_lt_step (s := s) (show p < q by omega)
      intro i j hi hij hj; omega
theorem Runs.tail {s n : Nat} {d : Array α} (h : Runs lt s n d) : Tail lt s n 0 d := fun q _ => h q
theorem Head.zero (s : Nat) (d : Array α) : Head lt s 0 d := fun q h => by omega
theorem Runs.whole {s n : Nat} {d : Array α} (h : Runs lt s n d) (hn : n ≤ s) : SortedIn lt 0 n d := fun i j hi hij hj => h 0 i j (by omega) hij (by omega)
theorem Tail.at0 {s n p a : Nat} {d : Array α} (h : Tail lt s n (2 * p) d) (ha : a = p * (2 * s)) : SortedIn lt a (min (a + s) n) d := by
  have := h (2 * p) (Nat.le_refl _)
  rwa [show 2 * p * s = a by rw [ha, Nat.mul_comm 2 p, Nat.mul_assoc]] at this
theorem Tail.at1 {s n p a : Nat} {d : Array α} (h : Tail lt s n (2 * p) d) (ha : a = p * (2 * s)) : SortedIn lt (a + s) (min (a + s + s) n) d := by
  have := h (2 * p + 1) (by omega)
  rwa [show (2 * p + 1) * s = a + s by rw [Nat.add_mul, Nat.one_mul, ha, Nat.mul_comm 2 p, Nat.mul_assoc]] at this
theorem sorted_to {a b c : Nat} {d : Array α} (h : SortedIn lt a b d) (e : c ≤ b) : SortedIn lt a c d := fun i j hi hij hj => h i j hi hij (by omega)
theorem Tail.two {s n p a y : Nat} {d d' : Array α} (h : Tail lt s n (2 * p) d) (ha : a = p * (2 * s)) (hp : PermIn a y d d') (hy : y ≤ a + 2 * s) : Tail lt s n (2 * (p + 1)) d' := by
  have := h.step hp (by rw [Nat.add_mul, Nat.mul_comm 2 p, Nat.mul_assoc, ← ha]; exact hy)
  exact this
end Go.Proofs.YtcnegcdmmackeaaGreat.SymSort
