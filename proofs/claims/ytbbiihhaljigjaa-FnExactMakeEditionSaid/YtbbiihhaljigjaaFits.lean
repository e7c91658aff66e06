/- What a row's argument reads as, kind by kind: whoever reads as a datum of type t has the cells of an x of the kind d (Fits), and x keeps the form's bounds. No condition beyond the closed facts on the types. -/
import Derived.Test.YtbbiihhaljigjaaVMWords
import Derived.Deep.Slices
import Derived.WideShapes
import Derived.ChangeArms
import Derived.SizedLaws
namespace Go.Proofs.Ytbbiihhaljigjaa.Fits
open Go Go.Deep Go.ChangeShapes Go.WideShapes Go.RowKit
open Go.Proofs.YtbbiihhaljigjaaW.PrintWords

def Fits {α : Type} (P : Program) (t : TypeId) (d : Kd α) (g : α → Prop) : Prop :=
  P.cellsOf t = d.sz ∧ ∀ (H : Type) (enc : TypeId × Value → H) (w : World) (base : Nat) (spare : Nat → Bool) (held : Bool) (fuel : Nat) (cs : List Value) (x : DataW H × List MemPlace),
    DataW.trod enc P w base spare held fuel t cs = some x → (∀ n ∈ x.1.weights P t, n ≤ reachBytes) → ∃ a, d.K w a cs ∧ g a

variable {P : Program} {t e : TypeId}

theorem fits_int {k : IntKind} (ht : P.underlying t = some (.int k)) (hc : P.cellsOf t = 1) : Fits P t (Kd.int k) (fun n => (Lit.int k n).wf = true) :=
  ⟨hc, fun H enc w base spare held fuel cs x h _ => by
    obtain ⟨n, rfl, _, hn⟩ := DataW.trod_int ht h
    exact ⟨n, rfl, hn⟩⟩

theorem fits_bool (ht : P.underlying t = some .bool) (hc : P.cellsOf t = 1) : Fits P t Kd.bool (fun _ => True) :=
  ⟨hc, fun H enc w base spare held fuel cs x h _ => by
    obtain ⟨n, rfl, _⟩ := DataW.trod_bool ht h
    exact ⟨n, rfl, trivial⟩⟩

theorem fits_string (ht : P.underlying t = some .string) (hc : P.cellsOf t = 1) : Fits P t Kd.string (fun s => s.size ≤ 140737488351232) :=
  ⟨hc, fun H enc w base spare held fuel cs x h hz => by
    obtain ⟨s, rfl, rfl, _⟩ := DataW.trod_string ht h
    refine ⟨s, rfl, ?_⟩
    have := hz s.data.toList.length (by simp [DataW.weights])
    simpa [reachBytes] using this⟩

theorem weights_all {H : Type} {P : Program} {e : TypeId} : ∀ {l : List (DataW H)} {d : DataW H}, d ∈ l → ∀ n ∈ d.weights P e, n ∈ DataW.weightsAll P e l
  | x :: l, d, hd, n, hn => by
    simp only [DataW.weightsAll, List.mem_append]
    rcases List.mem_cons.1 hd with rfl | hd
    · exact Or.inl hn
    · exact Or.inr (weights_all hd n hn)

theorem fits_slice {α : Type} {d : Kd α} {g : α → Prop} (ht : P.underlying t = some (.slice e)) (hc : P.cellsOf t = 1) (he : Fits P e d g) :
    Fits P t (Kd.slice e d) (fun l => l.length * P.bytesOf e ≤ 140737488351232 ∧ ∀ a ∈ l, g a) :=
  ⟨hc, fun H enc w base spare held fuel cs x h hz => by
    rcases open_slice ht h with ⟨rfl, _⟩ | ⟨a, len, cap, m, n, D, Pl, rfl, hb, hl, hm, hmm, rfl, hx⟩
    · exact ⟨[], ⟨none, 0, rfl, Nat.le_refl _, Kd.C_nil d w⟩, by simp, by simp⟩
    have hlm : len ≤ m := by rw [hmm]; split <;> omega
    have hw : ∀ i, i < len → ∀ q ∈ (D i).weights P e, q ≤ reachBytes := by
      intro i hi q hq
      refine hz q ?_
      have hmem : D i ∈ (List.range len).map D := List.mem_map.2 ⟨i, List.mem_range.2 hi, rfl⟩
      have h1 := weights_all hmem q hq
      simp only [DataW.weights, ht, List.mem_cons, List.mem_append]
      exact Or.inr (Or.inl h1)
    have hbig : (len + (m - len)) * P.bytesOf e ≤ reachBytes := by
      refine hz _ ?_
      simp [DataW.weights, ht]
    have hbig2 : len * P.bytesOf e ≤ 140737488351232 := by
      have : len * P.bytesOf e ≤ (len + (m - len)) * P.bytesOf e := Nat.mul_le_mul_right _ (by omega)
      simp only [reachBytes] at hbig
      omega
    have hall : ∀ i, i < len → ∃ a' : α, g a' ∧ ∃ c : List Value, c.length = d.sz ∧ d.K w a' c ∧ ∀ j u, c[j]? = some u → w.cell? (a.add (i * d.sz + j)) = some u := by
      intro i hi
      obtain ⟨cs', h1, h2⟩ := hx i (by omega)
      obtain ⟨a', hk, hg⟩ := he.2 H enc w base spare held n cs' (D i, Pl i) h2 (hw i hi)
      refine ⟨a', hg, cs', d.K_len hk, hk, ?_⟩
      intro j u hj
      rw [he.1] at h1
      obtain ⟨_, hlen, hcell⟩ := World.cells?_some h1
      have hjl : j < d.sz := by
        have := (List.getElem?_eq_some_iff.1 hj).1
        omega
      have h3 := hcell j hjl
      rw [Go.Deep.add_add] at h3
      rw [h3, hj]
    rcases Nat.eq_zero_or_pos len with h0 | h0
    · subst h0
      exact ⟨[], ⟨some a, cap, rfl, by simp, rfl, by simp, fun h => absurd h (Nat.lt_irrefl 0)⟩, by simp, by simp⟩
    obtain ⟨z0, _⟩ := hall 0 h0
    haveI : Inhabited α := ⟨z0⟩
    obtain ⟨f, hf⟩ := choose_lt (n := len) hall
    refine ⟨(List.range len).map f, ⟨some a, cap, by simp, by simpa using hl, ?_⟩, by simpa using hbig2, ?_⟩
    · refine ⟨rfl, by simp [maxLen] at hm ⊢; omega, fun _ => ⟨a, rfl, ?_⟩⟩
      intro j p hp
      obtain ⟨hj, rfl⟩ := List.getElem?_eq_some_iff.1 hp
      simp only [List.length_map, List.length_range] at hj
      obtain ⟨_, c, hc1, hc2, hc3⟩ := hf j hj
      refine ⟨c, hc1, ?_, hc3⟩
      simpa using hc2
    · intro a' ha'
      obtain ⟨i, hi, rfl⟩ := List.mem_map.1 ha'
      exact (hf i (List.mem_range.1 hi)).1⟩

/-- The fields of a struct from the cell o on. -/
def FitsFs {α : Type} (P : Program) (fs : List Field) (o : Nat) (d : Kd α) (g : α → Prop) : Prop :=
  ∀ (H : Type) (enc : TypeId × Value → H) (w : World) (base : Nat) (spare : Nat → Bool) (held : Bool) (fuel : Nat) (cs : List Value) (xs : List (DataW H × List MemPlace)), cs.length = o + d.sz →
    (fs.mapM fun f => DataW.trod enc P w base spare held fuel f.type ((cs.drop f.offset).take (P.cellsOf f.type))) = some xs → (∀ n ∈ DataW.weightsEach P (fs.map (·.type)) (xs.map (·.1)), n ≤ reachBytes) →
    ∃ a, d.K w a (cs.drop o) ∧ g a

theorem fs_one {α : Type} {d : Kd α} {g : α → Prop} {f : Field} {o : Nat} (ho : f.offset = o) (h : Fits P f.type d g) : FitsFs P [f] o d g := by
  intro H enc w base spare held fuel cs xs hl hx hz
  simp only [List.mapM_cons, List.mapM_nil, Option.pure_def, Option.bind_eq_bind, Option.bind_eq_some_iff, Option.some.injEq] at hx
  obtain ⟨y, h1, ys, rfl, rfl⟩ := hx
  rw [ho, h.1, List.take_of_length_le (by rw [List.length_drop]; omega)] at h1
  exact h.2 H enc w base spare held fuel _ y h1 (fun n hn => hz n (by simp [DataW.weightsEach, hn]))

theorem fs_cons {α β : Type} {d : Kd α} {d' : Kd β} {g : α → Prop} {g' : β → Prop} {f : Field} {fs : List Field} {o o' : Nat} (ho : f.offset = o) (h : Fits P f.type d g) (ho' : o + d.sz = o') (h' : FitsFs P fs o' d' g') :
    FitsFs P (f :: fs) o (Kd.pair d d') (fun x => g x.1 ∧ g' x.2) := by
  intro H enc w base spare held fuel cs xs hl hx hz
  simp only [List.mapM_cons, Option.pure_def, Option.bind_eq_bind, Option.bind_eq_some_iff, Option.some.injEq] at hx
  obtain ⟨y, h1, ys, h2, rfl⟩ := hx
  have hsz : (Kd.pair d d').sz = d.sz + d'.sz := rfl
  rw [ho, h.1] at h1
  obtain ⟨a, ka, ga⟩ := h.2 H enc w base spare held fuel _ y h1 (fun n hn => hz n (by simp [DataW.weightsEach, hn]))
  obtain ⟨b, kb, gb⟩ := h' H enc w base spare held fuel cs ys (by omega) h2 (fun n hn => hz n (by simp only [List.map_cons, DataW.weightsEach, List.mem_append]; exact Or.inr hn))
  refine ⟨(a, b), ⟨(cs.drop o).take d.sz, cs.drop o', ?_, ka, kb⟩, ga, gb⟩
  rw [← ho', ← List.drop_drop, List.take_append_drop]

theorem fits_struct {α : Type} {d : Kd α} {g : α → Prop} {fs : Array Field} (ht : P.underlying t = some (.struct fs)) (hc : P.cellsOf t = d.sz) (h : FitsFs P fs.toList 0 d g) : Fits P t d g :=
  ⟨hc, fun H enc w base spare held fuel cs x hx hz => by
    cases fuel with
    | zero => simp [DataW.trod] at hx
    | succ n =>
      have hl : cs.length = P.cellsOf t := by
        obtain ⟨_, _, _, _, hl, _⟩ := DataW.trod_struct ht hx
        exact hl
      unfold DataW.trod at hx
      rw [ht] at hx
      simp only [hl, if_true, Option.map_eq_some_iff] at hx
      obtain ⟨xs, h1, rfl⟩ := hx
      obtain ⟨a, ka, ga⟩ := h H enc w base spare held n cs xs (by omega) h1 (fun n hn => hz n (by simpa [DataW.weights, ht] using hn))
      exact ⟨a, by simpa using ka, ga⟩⟩

theorem fits_iso {α β : Type} {d : Kd α} {g : α → Prop} (f : β → α) (b : α → β) (hb : ∀ a, f (b a) = a) (h : Fits P t d g) : Fits P t (Kd.iso d f) (fun y => g (f y)) :=
  ⟨h.1, fun H enc w base spare held fuel cs x hx hz => by
    obtain ⟨a, ka, ga⟩ := h.2 H enc w base spare held fuel cs x hx hz
    refine ⟨b a, ?_, ?_⟩
    · show d.K w (f (b a)) cs
      rw [hb]; exact ka
    · show g (f (b a))
      rw [hb]; exact ga⟩

theorem fits_imp {α : Type} {d : Kd α} {g g' : α → Prop} (h : Fits P t d g) (hi : ∀ a, g a → g' a) : Fits P t d g' :=
  ⟨h.1, fun H enc w base spare held fuel cs x hx hz => by
    obtain ⟨a, ka, ga⟩ := h.2 H enc w base spare held fuel cs x hx hz
    exact ⟨a, ka, hi a ga⟩⟩

/-- A parameter that is a slice. -/
theorem param_slice {H : Type} {enc : TypeId × Value → H} {W : World} {base b0 : Nat} {spare : Nat → Bool} {held : Bool} {α : Type} {dk : Kd α} {g : α → Prop} {v : Value} {d : DataW H} {p : List MemPlace} {ts : List TypeId} {ds : List (DataW H)} {j : Nat} {r : Reach}
    (ht : P.underlying t = some (.slice e)) (hv : Value.okWide P W r b0 t v)
    (hsz : (DataW.weightsEach P ts ds).all (· ≤ reachBytes) = true) (hj : ts[j]? = some t) (hd : ds[j]? = some d)
    (h : DataW.Trod enc P W base spare held t v d p) (he : Fits P t (Kd.slice e dk) (fun l => l.length * P.bytesOf e ≤ 140737488351232 ∧ ∀ a ∈ l, g a)) :
    ∃ (A : Option Addr) (c : Nat) (l : List α), v = .slice A l.length c ∧ dk.C W A l.length l ∧ l.length ≤ c ∧ l.length * P.bytesOf e ≤ 140737488351232 ∧ ∀ a ∈ l, g a := by
  obtain ⟨a, len, cap, rfl⟩ := okWide_slice ht hv
  obtain ⟨fuel, hf⟩ := h
  obtain ⟨l, ⟨A, c, hcs, hlc, hC⟩, h1, h2⟩ := he.2 H enc W base spare held fuel _ (d, p) hf (fun n hn => by
    have := List.all_eq_true.1 hsz n (DataW.weights_mem_each hj hd n hn)
    simpa using this)
  simp only [Value.cells, List.cons.injEq, and_true] at hcs
  exact ⟨A, c, l, hcs, hC, hlc, h1, h2⟩

/-- A parameter that is a struct: its cells. -/
theorem param_struct {H : Type} {enc : TypeId × Value → H} {W : World} {base b0 : Nat} {spare : Nat → Bool} {held : Bool} {α : Type} {dk : Kd α} {g : α → Prop} {v : Value} {d : DataW H} {p : List MemPlace} {ts : List TypeId} {ds : List (DataW H)} {j : Nat} {r : Reach} {fs : Array Field}
    (ht : P.underlying t = some (.struct fs)) (hv : Value.okWide P W r b0 t v)
    (hsz : (DataW.weightsEach P ts ds).all (· ≤ reachBytes) = true) (hj : ts[j]? = some t) (hd : ds[j]? = some d)
    (h : DataW.Trod enc P W base spare held t v d p) (he : Fits P t dk g) :
    ∃ (cs : List Value) (a : α), v = .agg ⟨cs⟩ ∧ dk.K W a cs ∧ g a := by
  obtain ⟨cs, rfl, _⟩ := okWide_struct ht hv
  obtain ⟨fuel, hf⟩ := h
  obtain ⟨a, ka, ga⟩ := he.2 H enc W base spare held fuel _ (d, p) hf (fun n hn => by
    have := List.all_eq_true.1 hsz n (DataW.weights_mem_each hj hd n hn)
    simpa using this)
  exact ⟨cs.toList, a, rfl, ka, ga⟩
end Go.Proofs.Ytbbiihhaljigjaa.Fits
