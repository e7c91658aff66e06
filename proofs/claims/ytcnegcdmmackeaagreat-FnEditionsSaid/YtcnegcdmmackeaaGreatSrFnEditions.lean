/- Shorter words for what the walks say again and again; each holds under the conditions that it names. -/
import Derived.Test.YtcnegcdmmackeaaGreatSqFnEditions
namespace Go.Proofs.YtcnegcdmmackeaaGreat.QFnEditions
open Go Go.RowKit Go.Proofs.YtcnegcdmmackeaaGreatW.PrintWords Go.Proofs.YtcnegcdmmackeaaGreatW.PrintLast Go.Proofs.YtcnegcdmmackeaaGreatW.PrintMore
theorem fn_ : ¬(false=true) := by decide
theorem sc_ {α β : Type} {v : α} {f : α → Option β} {r : β} (h : (some v).bind f = some r) : ∃ y, Aside0 (y = v) ∧ f y = some r := ⟨v, ⟨rfl⟩, h⟩
theorem nm_ {α : Type} (v : α) : ∃ y, Aside0 (y = v) := ⟨v, ⟨rfl⟩⟩
theorem gi_ {c : Prop} [Decidable c] {α : Type} {x : Option α} {r : α} (h : (if c then x else none) = some r) : c ∧ x = some r := by
  by_cases q : c
  · rw [if_pos q] at h; exact ⟨q, h⟩
  · rw [if_neg q] at h; cases h
theorem gj_ {c : Prop} [Decidable c] {α : Type} {x : Option α} {r : α} (h : (if c then x else none) = some r) : decide c = true ∧ x = some r := ⟨decide_eq_true (gi_ h).1, (gi_ h).2⟩
section
variable {w : World} {g : Nat} {a b c : Value} {t : TypeId}
theorem bc3_ (h : Aside0 (w.heap[g]? = some (.cells #[a, b, c] t (0, 0)))) : w.cell? ⟨g, 0, none⟩ = some a ∧ w.cell? ⟨g, 1, none⟩ = some b ∧ w.cell? ⟨g, 2, none⟩ = some c ∧ w.frozen? ⟨g, 0, none⟩ = false ∧ w.frozen? ⟨g, 1, none⟩ = false ∧ w.frozen? ⟨g, 2, none⟩ = false := ⟨(blk_cell h.out 0).trans rfl, (blk_cell h.out 1).trans rfl, (blk_cell h.out 2).trans rfl, blk_frozen h.out 0, blk_frozen h.out 1, blk_frozen h.out 2⟩
end
theorem put3_ {w : World} {g : Nat} {x y z a b c : Value} {t : TypeId} (h : w.heap[g]? = some (.cells #[x, y, z] t (0, 0))) : (((w.setCell ⟨g, 0, none⟩ a).setCell ⟨g, 1, none⟩ b).setCell ⟨g, 2, none⟩ c).heap[g]? = some (.cells #[a, b, c] t (0, 0)) := blk_put (cs := #[a, b, z]) (blk_put (cs := #[a, y, z]) (blk_put (cs := #[x, y, z]) h 0 _ rfl) 1 _ rfl) 2 _ rfl
theorem bp_ {p q1 : Prop} (h1_ : q1) (e : q1 → p := by intro h1_; (with_reducible repeat (first|refine blk_drewN ?_ _ | refine blk_drew ?_ | refine blk_alloc ?_ _)); first|(with_reducible exact h1_)|exact put3_ h1_|exact h1_) : p := e h1_
theorem bb_ {w W w1 : World} {g : Nat} {o o' : Obj} (h : Aside0 (w.heap[g]? = some o)) (hb : Below W.heap.size W w1) (e : w.heap[g]? = some o → W.heap[g]? = some o' := by intro h1_; (with_reducible repeat (first|refine blk_drewN ?_ _ | refine blk_drew ?_ | refine blk_alloc ?_ _)); first|(with_reducible exact h1_)|exact put3_ h1_|exact h1_) : Aside0 (w1.heap[g]? = some o') := ⟨blk_below (e h.out) hb⟩
theorem bw_ {w W w1 : World} {g : Nat} {o o' : Obj} {row : Option Nat} (h : Aside0 (w.heap[g]? = some o)) (hg : W.grownBy w1 row) (hne : some g ≠ row) (e : w.heap[g]? = some o → W.heap[g]? = some o' := by intro h1_; (with_reducible repeat (first|refine blk_drewN ?_ _ | refine blk_drew ?_ | refine blk_alloc ?_ _)); first|(with_reducible exact h1_)|exact put3_ h1_|exact h1_) : Aside0 (w1.heap[g]? = some o') := ⟨blk_grown (e h.out) hg hne⟩
theorem fb_ {w W : World} {g : Nat} {o o' : Obj} (h : Aside0 (w.heap[g]? = some o)) (k : Nat) (hk : W.heap.size ≤ k) (e : w.heap[g]? = some o → W.heap[g]? = some o' := by intro h1_; (with_reducible repeat (first|refine blk_drewN ?_ _ | refine blk_drew ?_ | refine blk_alloc ?_ _)); first|(with_reducible exact h1_)|exact put3_ h1_|exact h1_) : k ≠ g := by
  have := blk_lt (e h.out); omega
theorem bs_ {n : Nat} {w w' W w2 : World} (h : Aside0 (Below n w w')) (hb : Below W.heap.size W w2) (e : Below n w w' → Below w.heap.size w W := by intro h1_; repeat (first|(with_reducible first|exact h1_|apply below_alloc|apply pw_below_drewN|apply below_drew1)|exact h1_)) : Aside0 (Below w.heap.size w w2) := ⟨below_step (e h.out) hb⟩
theorem bg_ {n g : Nat} {w w' W w2 : World} (h : Aside0 (Below n w w')) (k : Aside0 (w.heap.size ≤ g)) (hb : Below W.heap.size W w2) (e : Below n w w' → w.heap.size ≤ g → Below w.heap.size w W := by intro h1_ h2_; repeat (first|(with_reducible first|exact h1_|apply below_alloc|apply pw_below_drewN|apply below_drew1 | refine below_set ?_ h2_)|exact h1_)) : Aside0 (Below w.heap.size w w2) := ⟨below_step (e h.out k.out) hb⟩
theorem ks_ {w w' w1 w2 : World} {g : Nat} {row : Option Nat} (h : Aside0 (KeepBut w w' g row)) (hk : KeepBut w1 w2 g row) (e : KeepBut w w' g row → KeepBut w w1 g row := by intro h1_; repeat (first|(with_reducible first|exact h1_|apply KeepBut.set_|apply keep_drewN|apply keep_drew|apply keep_alloc)|exact h1_)) : Aside0 (KeepBut w w2 g row) := ⟨KeepBut.trans (e h.out) hk (.inl rfl)⟩
theorem ce_ {w w' : World} {p : Addr} {v : Value} (h : Aside0 (Below w.heap.size w w')) (hx : w.cell? p = some v) : w'.cell? p = some v := (h.out.cell (World.block_lt_of_cell? w _ hx)).trans hx
theorem gw_ {n g : Nat} {w w' W : World} (h : Aside0 (Below n w w')) (hg : g = W.heap.size) (e : Below n w w' → Below w.heap.size w W := by intro h1_; repeat (first|(with_reducible first|exact h1_|apply below_alloc|apply pw_below_drewN|apply below_drew1)|exact h1_)) : Aside0 (w.heap.size ≤ g) := ⟨by rw [hg]; exact below_size (e h.out)⟩
theorem gv_ {n g g' : Nat} {w w' W : World} (h : Aside0 (Below n w w')) (k : Aside0 (w.heap.size ≤ g')) (hg : g = W.heap.size) (e : Below n w w' → w.heap.size ≤ g' → Below w.heap.size w W := by intro h1_ h2_; repeat (first|(with_reducible first|exact h1_|apply below_alloc|apply pw_below_drewN|apply below_drew1 | refine below_set ?_ h2_)|exact h1_)) : Aside0 (w.heap.size ≤ g) := ⟨by rw [hg]; exact below_size (e h.out k.out)⟩
section
variable {P : Program} {ops : Array Oper} {Q : Exit → Act → World → Prop} {md : Region.Mode} {S : World → Prop} {ds : List Nat}
theorem pp_ (i N : Nat) {oi : Oper} {v : Value} {fuel : Nat} {l : Array Bool} {a : Act} {w : World} (l' : Array Bool) {a' : Act} (h : wpAnyLast P md ops Q S ds fuel l' a' w)
    (hi : ops[i]? = some oi := by rfl) (hN : oi.dst = some N := by rfl) (hc : anyB md ops l l' i = true := by exact any_of HT_.out (by kernel_rfl))
    (hQ : ∀ c a w, Q (.panic c) (a.put oi.dst v) w → Q (.panic c) a w := by exact fun _ _ _ h => h) (hw : Region.wanted oi (yielded ops a.tmps) = true := by rfl)
    (hy : ∀ w', (execOp a.eval oi).run P w' = .ok (.value v) w' := by intro w'; go_simp; (with_reducible rfl)) (ha : a.put (some N) v = a' := by simp only [Act.put, pu_]; rfl) : wpAnyLast P md ops Q S ds (fuel + 1) l a w :=
  pure_ l' hi hN hc hQ (Or.inl ⟨hw, hy⟩) ha h
theorem pn_ (i N : Nat) {oi : Oper} {v : Value} {fuel : Nat} {l : Array Bool} {a : Act} {w : World} (l' : Array Bool) {a' : Act} (h : wpAnyLast P md ops Q S ds fuel l' a' w)
    (hi : ops[i]? = some oi := by rfl) (hN : oi.dst = some N := by rfl) (hc : anyB md ops l l' i = true := by kernel_rfl)
    (hQ : ∀ c a w, Q (.panic c) (a.put oi.dst v) w → Q (.panic c) a w := by exact fun _ _ _ h => h) (hw : Region.wanted oi (yielded ops a.tmps) = true := by rfl)
    (hy : ∀ w', (execOp a.eval oi).run P w' = .ok (.value v) w' := by intro w'; go_simp; (with_reducible rfl)) (ha : a.put (some N) v = a' := by simp only [Act.put, pu_]; rfl) : wpAnyLast P md ops Q S ds (fuel + 1) l a w :=
  pure_ l' hi hN hc hQ (Or.inl ⟨hw, hy⟩) ha h
theorem pq_ (i N : Nat) {oi : Oper} {fuel : Nat} {l : Array Bool} {a : Act} {w : World} (l' : Array Bool) {a' : Act} (h : wpAnyLast P md ops Q S ds fuel l' a' w)
    (hi : ops[i]? = some oi := by rfl) (hN : oi.dst = some N := by rfl) (hc : anyB md ops l l' i = true := by exact any_of HT_.out (by kernel_rfl))
    (hQ : ∀ c a w, Q (.panic c) (a.put oi.dst undef) w → Q (.panic c) a w := by exact fun _ _ _ h => h) (hw : Region.wanted oi (yielded ops a.tmps) = false := by rfl)
    (ha : a.put (some N) undef = a' := by simp only [Act.put, pu_]; rfl) : wpAnyLast P md ops Q S ds (fuel + 1) l a w :=
  pure_ l' hi hN hc hQ (Or.inr ⟨hw, rfl⟩) ha h
theorem tk_ (i N : Nat) {oi : Oper} {v : Value} {fuel : Nat} {l : Array Bool} {a : Act} {w : World} (l' : Array Bool) {a' : Act} (h : wpAnyLast P md ops Q S ds fuel l' a' w)
    (hi : ops[i]? = some oi := by rfl) (hN : oi.dst = some N := by rfl) (hc : takeB md ops ds l l' i = true := by exact take_ofW HT_.out HW_.out (by kernel_rfl)) (hS : S w := by exact hHeld)
    (hQ : ∀ c a w, Q (.panic c) (a.put oi.dst v) w → Q (.panic c) a w := by exact fun _ _ _ h => h) (hw : Region.wanted oi (yielded ops a.tmps) = true := by rfl)
    (hy : ∀ w', S w' → (execOp a.eval oi).run P w' = .ok (.value v) w' := by intro w' h_; repeat (have s_ := h_.1; replace h_ := h_.2); go_simp; (with_reducible rfl)) (ha : a.put (some N) v = a' := by simp only [Act.put, pu_]; rfl) : wpAnyLast P md ops Q S ds (fuel + 1) l a w :=
  take_ l' hi hN hc hQ (Or.inl ⟨hw, hy⟩) hS ha h
theorem on_ (i N : Nat) {oi : Oper} {fuel : Nat} {l : Array Bool} {a : Act} {w : World} (l' : Array Bool)
    (h : ∀ K : Act → World → Prop, Shut (∀ a' w', S w' → (S w' → wpAnyLast P md ops Q S ds fuel l' a' w') → K a' w') → if Region.wanted oi (yielded ops a.tmps) = true then Oper.wp P oi a w K Q else K (a.put (some N) undef) w)
    (hi : ops[i]? = some oi := by rfl) (hN : oi.dst = some N := by rfl) (hc : readyB md ops l l' i = true := by exact one_of HT_.out (by kernel_rfl)) (hd : i ∉ ds := by decide) : wpAnyLast P md ops Q S ds (fuel + 1) l a w :=
  one_ l' hi hN hc hd h
theorem dn_ {l : Array Bool} {a : Act} {w : World} {n : Nat} (h : Q .normal a w) (hr : (Region.ready md ops l == []) = true := by exact done_of HT_.out (by kernel_rfl)) : wpAnyLast P md ops Q S ds n l a w := done_ hr h
theorem gl_ (N : Nat) {rest : List Oper} {oi : Oper} {a : Act} {w : World} {f : FuncId} {fn : Func} (hf : P.funcs[f]? = some fn) (args : Array Value) {as_ : Array Operand} {ts : Array TypeId}
    (h : Calls P f args w fun e w' => ∃ v, e = .returned v ∧ wpList P ops Q rest (a.put (some N) v) w')
    (hh : (oi.dst = some N ∧ oi.op = .call { callee := .value (.func f), args := as_, argTypes := ts }) ∧ oi.guard = none ∧ (fn.name == "runtime.NumGoroutine") = false ∧ fn.body.isSome = true ∧ as_.map a.eval = args := by with_unfolding_all (refine ⟨⟨(by with_reducible rfl), (by with_reducible rfl)⟩, rfl, (by kernel_rfl), rfl, ?_⟩; (try simp only [List.map_toArray, List.map_cons, List.map_nil]); first | done | rfl|(simp only [List.length_drop, List.length_take]; rfl))) : wpList P ops Q (oi :: rest) a w :=
  goesL_ (some N) hh.1.1 hh.2.1 hf hh.2.2.1 hh.2.2.2.1 args hh.1.2 hh.2.2.2.2 h
theorem be_ (N : Nat) (cs : Array Value) (t : TypeId) {rest : List Oper} {o : Oper} {a : Act} {W : World}
    (h : ∀ g, g = W.heap.size → ∀ w1, Aside0 (w1.heap[g]? = some (.cells cs t (0, 0))) → Below W.heap.size W w1 → wpList P ops Q rest (a.put o.dst (.pointer (some ⟨g, 0, none⟩))) w1)
    (hh : o.dst = some N ∧ o.guard = none ∧ (execOp a.eval o).run P W = .ok (.value (.pointer (some ⟨W.heap.size, 0, none⟩))) (W.alloc (.cells cs t (0, 0))) := by with_unfolding_all (refine ⟨(by with_reducible rfl), (by with_reducible rfl), ?_⟩; first | (go_simp; done) | (go_simp; rfl))) : wpList P ops Q (o :: rest) a W :=
  box_event hh.2.1 hh.1 hh.2.2 (fun g e w1 hb hB => h g e w1 ⟨hb⟩ hB)
end
theorem bt_ {b : Bool} {α : Type} {x y : Option α} {r : α} (h : (if b = true then x else y) = some r) : (b = true ∧ x = some r) ∨ (b = false ∧ y = some r) := by
  cases b with
  | true => exact .inl ⟨rfl, by rwa [if_pos rfl] at h⟩
  | false => exact .inr ⟨rfl, by rwa [if_neg fn_] at h⟩
theorem bd_ {c : Prop} [Decidable c] {α : Type} {x y : Option α} {r : α} (h : (if c then x else y) = some r) : (decide c = true ∧ x = some r) ∨ (decide c = false ∧ y = some r) := by
  by_cases q : c
  · exact .inl ⟨decide_eq_true q, by rwa [if_pos q] at h⟩
  · exact .inr ⟨decide_eq_false q, by rwa [if_neg q] at h⟩
theorem bq_ {β : Type} [BEq β] [LawfulBEq β] {a b : β} [Decidable (a = b)] {α : Type} {x y : Option α} {r : α} (h : (if a = b then x else y) = some r) : ((a == b) = true ∧ (a != b) = false ∧ x = some r) ∨ ((a == b) = false ∧ (a != b) = true ∧ y = some r) := by
  by_cases q : a = b
  · exact .inl ⟨beq_iff_eq.mpr q, bne_eq_false_iff_eq.mpr q, by rwa [if_pos q] at h⟩
  · exact .inr ⟨beq_eq_false_iff_ne.mpr q, bne_iff_ne.mpr q, by rwa [if_neg q] at h⟩
section
variable {x n : Int} {A : Option Addr} {w w' : World} {a0 a1 a2 : Addr → Addr} {v0 v1 v2 : Value}
theorem rb_ (f : 0 ≤ x → x < n → ∃ ad, A = some ad ∧ w.cell? (a0 ad) = some v0 ∧ w.cell? (a1 ad) = some v1 ∧ w.cell? (a2 ad) = some v2) (h0 : decide (0 ≤ x) = true := by first|(with_reducible assumption) | assumption) (h1 : decide (x < n) = true := by first|(with_reducible assumption) | assumption) : ∃ ad, A = some ad ∧ w.cell? (a0 ad) = some v0 ∧ w.cell? (a1 ad) = some v1 ∧ w.cell? (a2 ad) = some v2 ∧ (0 ≤ x) = True ∧ (x < n) = True :=
  let ⟨ad, e, c0, c1, c2⟩ := f (of_decide_eq_true h0) (of_decide_eq_true h1); ⟨ad, e, c0, c1, c2, eq_true (of_decide_eq_true h0), eq_true (of_decide_eq_true h1)⟩
theorem ra_ (HB : Aside0 (Below w.heap.size w w')) (f : 0 ≤ x → x < n → ∃ ad, A = some ad ∧ w.cell? (a0 ad) = some v0 ∧ w.cell? (a1 ad) = some v1 ∧ w.cell? (a2 ad) = some v2) (h0 : decide (0 ≤ x) = true := by first|(with_reducible assumption) | assumption) (h1 : decide (x < n) = true := by first|(with_reducible assumption) | assumption) : ∃ ad, A = some ad ∧ w'.cell? (a0 ad) = some v0 ∧ w'.cell? (a1 ad) = some v1 ∧ w'.cell? (a2 ad) = some v2 ∧ (0 ≤ x) = True ∧ (x < n) = True :=
  let ⟨ad, e, c0, c1, c2⟩ := f (of_decide_eq_true h0) (of_decide_eq_true h1); ⟨ad, e, ce_ HB c0, ce_ HB c1, ce_ HB c2, eq_true (of_decide_eq_true h0), eq_true (of_decide_eq_true h1)⟩
end
theorem f3_ {W : World} {g : Nat} {a : Addr} {v : Value} (u0 u1 u2 : Value) (e : a.block ≠ g) (h : W.cell? a = some v) : (((W.setCell ⟨g, 0, none⟩ u0).setCell ⟨g, 1, none⟩ u1).setCell ⟨g, 2, none⟩ u2).cell? a = some v := (cell_far (p := ⟨g, 2, none⟩) e u2).trans ((cell_far (p := ⟨g, 1, none⟩) e u1).trans ((cell_far (p := ⟨g, 0, none⟩) e u0).trans h))
section
variable {W : World} {b g : Nat} {a0 a1 a2 : Addr} {v0 v1 v2 : Value}
theorem cy_ (u0 u1 u2 : Value) (hn : b ≠ g) (h0 : W.cell? a0 = some v0) (h1 : W.cell? a1 = some v1) (h2 : W.cell? a2 = some v2) (e0 : b ≠ g → a0.block ≠ g := by intro h1_; first|(rw [add_block]; exact h1_)|(show (Addr.add _ _).block ≠ _; rw [add_block]; exact h1_)|exact h1_) (e1 : b ≠ g → a1.block ≠ g := by intro h1_; first|(rw [add_block]; exact h1_)|(show (Addr.add _ _).block ≠ _; rw [add_block]; exact h1_)|exact h1_) (e2 : b ≠ g → a2.block ≠ g := by intro h1_; first|(rw [add_block]; exact h1_)|(show (Addr.add _ _).block ≠ _; rw [add_block]; exact h1_)|exact h1_) :
    (((W.setCell ⟨g, 0, none⟩ u0).setCell ⟨g, 1, none⟩ u1).setCell ⟨g, 2, none⟩ u2).cell? a0 = some v0 ∧ (((W.setCell ⟨g, 0, none⟩ u0).setCell ⟨g, 1, none⟩ u1).setCell ⟨g, 2, none⟩ u2).cell? a1 = some v1 ∧ (((W.setCell ⟨g, 0, none⟩ u0).setCell ⟨g, 1, none⟩ u1).setCell ⟨g, 2, none⟩ u2).cell? a2 = some v2 ∧
    (∀ n_, ((((W.drewN n_).setCell ⟨g, 0, none⟩ u0).setCell ⟨g, 1, none⟩ u1).setCell ⟨g, 2, none⟩ u2).cell? a0 = some v0) ∧ (∀ n_, ((((W.drewN n_).setCell ⟨g, 0, none⟩ u0).setCell ⟨g, 1, none⟩ u1).setCell ⟨g, 2, none⟩ u2).cell? a1 = some v1) ∧ (∀ n_, ((((W.drewN n_).setCell ⟨g, 0, none⟩ u0).setCell ⟨g, 1, none⟩ u1).setCell ⟨g, 2, none⟩ u2).cell? a2 = some v2) :=
  ⟨f3_ u0 u1 u2 (e0 hn) h0, f3_ u0 u1 u2 (e1 hn) h1, f3_ u0 u1 u2 (e2 hn) h2, fun _ => f3_ u0 u1 u2 (e0 hn) h0, fun _ => f3_ u0 u1 u2 (e1 hn) h1, fun _ => f3_ u0 u1 u2 (e2 hn) h2⟩
end
theorem b3_ {w : World} {g : Nat} {a b c : Value} {t : TypeId} (h : Aside0 (w.heap[g]? = some (.cells #[a, b, c] t (0, 0)))) : w.cell? ⟨g, 0, none⟩ = some a ∧ w.cell? ⟨g, 1, none⟩ = some b ∧ w.cell? ⟨g, 2, none⟩ = some c := ⟨(blk_cell h.out 0).trans rfl, (blk_cell h.out 1).trans rfl, (blk_cell h.out 2).trans rfl⟩
theorem nb_ {w W : World} {g g' : Nat} {o : Obj} (h : Aside0 (w.heap[g]? = some o)) (hg : g' = W.heap.size) (e : w.heap[g]? = some o → W.heap[g]? = some o := by intro h1_; (with_reducible repeat (first|refine blk_drewN ?_ _ | refine blk_drew ?_ | refine blk_alloc ?_ _)); exact h1_) : Aside0 (g ≠ g') := ⟨by rw [hg]; exact Nat.ne_of_lt (blk_lt (e h.out))⟩
theorem kb_ {w w1 w2 : World} {g g' : Nat} {o o' : Obj} (h : Aside0 (w.heap[g']? = some o)) (hk : KeepBut w1 w2 g none) (hn : Aside0 (g' ≠ g)) (e : w.heap[g']? = some o → w1.heap[g']? = some o' := by intro h1_; (with_reducible repeat (first|refine blk_drewN ?_ _ | refine blk_drew ?_ | refine blk_alloc ?_ _)); first|(with_reducible exact h1_)|exact put3_ h1_|exact h1_) : Aside0 (w2.heap[g']? = some o') := ⟨KeepBut.blk hk (e h.out) hn.out (by simp)⟩
theorem mo_ {α : Type} {a b : Option α} (h : LeO a b := by repeat' (first|(with_reducible first|exact LeO.refl _|exact LeO.none _|refine LeO.ite ?_ ?_|refine LeO.bind ?_ (fun _ => ?_)|apply ih0|apply ih1|apply ih2|apply ih3|apply ih4|apply ih5|apply ih6|apply ih7|apply ih8|apply ih9|apply ih10|apply ih11|apply m0|apply m1|apply m2|apply m3|apply m4|apply m5|apply m6|apply m7|apply m8|apply m9|apply m10|apply m11|apply m12|apply m13|apply m14|apply m15|apply m16|apply m17|apply m18|apply m19|apply m20|apply m21|apply m22|apply m23)|exact LeO.none _|refine LeO.ite ?_ ?_|refine LeO.bind ?_ (fun _ => ?_)|apply ih0|apply ih1|apply ih2|apply ih3|apply ih4|apply ih5|apply ih6|apply ih7|apply ih8|apply ih9|apply ih10|apply ih11|apply m0|apply m1|apply m2|apply m3|apply m4|apply m5|apply m6|apply m7|apply m8|apply m9|apply m10|apply m11|apply m12|apply m13|apply m14|apply m15|apply m16|apply m17|apply m18|apply m19|apply m20|apply m21|apply m22|apply m23)) : LeO a b := h
section
variable {P : Program} {ops : Array Oper} {Q : Exit → Act → World → Prop} {md : Region.Mode} {S : World → Prop} {ds : List Nat}
theorem ho_ {fuel : Nat} {l' : Array Bool} {K : Act → World → Prop} (hK : Shut (∀ a' w', S w' → (S w' → wpAnyLast P md ops Q S ds fuel l' a' w') → K a' w')) (N : Nat) {a a' : Act} {v : Value} {w : World} (hs : S w) (h : S w → wpAnyLast P md ops Q S ds fuel l' a' w) (ha : a.put (some N) v = a' := by simp only [Act.put, pu_]; rfl) : K (a.put (some N) v) w := hK.out _ _ hs (fun q => by rw [ha]; exact h q)
theorem li_ {α : Type} (d : Kd α) (e N : Nat) {rest : List Oper} {o : Oper} {a : Act} {W : World} (xs : List α) (inner : List Value) (hrep : Reps (d.M W W.heap.size (fun _ => True)) d.sz xs inner)
    (h : ∀ v1 w1, d.R e w1 W.heap.size (fun _ => True) v1 xs → Below W.heap.size W w1 → W.grownBy w1 none → (∃ b, v1.ownBlock = some b ∧ W.heap.size ≤ b) → wpList P ops Q rest (a.put o.dst v1) w1)
    (hh : o.dst = some N ∧ o.guard = none ∧ (execOp a.eval o).run P W = .ok (.value (.slice (some ⟨W.heap.size, 0, none⟩) xs.length xs.length)) (W.alloc (.cells inner.toArray e)) := by with_unfolding_all (refine ⟨(by with_reducible rfl), (by with_reducible rfl), ?_⟩; first | (go_simp; done) | (go_simp; rfl)))
    (hm : xs.length ≤ 9223372036854775807 := by simp) : wpList P ops Q (o :: rest) a W :=
  Kd.R_lit d (w0 := W) W.heap.size e hh.2.1 hh.1 (okp := fun _ => True) hh.2.2 hrep (fun _ hk => hk) trivial (Below.refl _ _) (Nat.le_refl _) hm h
theorem ls_ {α : Type} (d : Kd α) (e N : Nat) {o : Oper} {a : Act} {W : World} {Kc : Act → World → Prop} (xs : List α) (inner : List Value) (hrep : Reps (d.M W W.heap.size (fun _ => True)) d.sz xs inner)
    (h : ∀ v1 w1, d.R e w1 W.heap.size (fun _ => True) v1 xs → Below W.heap.size W w1 → W.grownBy w1 none → (∃ b, v1.ownBlock = some b ∧ W.heap.size ≤ b) → Kc (a.put o.dst v1) w1)
    (hw : Region.wanted o (yielded ops a.tmps) = true := by rfl) (hd : o.dst = some N := by rfl)
    (hr : (execOp a.eval o).run P W = .ok (.value (.slice (some ⟨W.heap.size, 0, none⟩) xs.length xs.length)) (W.alloc (.cells inner.toArray e)) := by first | (go_simp; done) | (go_simp; rfl)) (hm : xs.length ≤ 9223372036854775807 := by simp) : if Region.wanted o (yielded ops a.tmps) = true then Oper.wp P o a W Kc Q else Kc (a.put o.dst undef) W :=
  Kd.R_lit_step d (w0 := W) W.heap.size e hw hd (okp := fun _ => True) hr hrep (fun _ hk => hk) trivial (Below.refl _ _) (Nat.le_refl _) hm h
end
end Go.Proofs.YtcnegcdmmackeaaGreat.QFnEditions
