/- Plain lemmas on numbers, lists and rounds that the proofs of this seat share; no condition. -/
import Derived.Test.YtcnegcdmmackeaaGreatVEFoot
namespace Go.Proofs.YtcnegcdmmackeaaGreat.Base
open Go Go.RowKit
open Go.Proofs.YtcnegcdmmackeaaGreatW.PrintWords

theorem wrapS {x : Int} (h0 : -9223372036854775808 ≤ x) (h1 : x ≤ 9223372036854775807) : wrap64 x = x := by
  unfold wrap64; omega

theorem ev_const {α : Type} {r : α} : Ev (fun _ => some r) r := Ev.now r
theorem ev_eq {α : Type} {g : Nat → Option α} {a b : α} (h : Ev g a) (e : a = b) : Ev g b := e ▸ h
theorem ev_of_eq {α : Type} {g : Nat → Option α} {r : α} (h : ∀ k, g k = some r) : Ev g r := ⟨0, fun k _ => h k⟩
/-- One round: the left side unfolds to the right one. -/
theorem ev_step {α : Type} {g f : Nat → Option α} {r : α} (k : Ev f r) (h : ∀ k, g (k + 1) = f k) : Ev g r := Ev.step h k

theorem rd_mid (pre suf : List Int) (x : Int) : rd (pre ++ x :: suf) (pre.length : Int) = x := by
  simp [rd]
theorem rd_nat (l : List Int) (i : Nat) (h : i < l.length) : rd l (i : Int) = l[i] := by
  simp [rd, List.getD_eq_getElem?_getD, List.getElem?_eq_getElem h]
theorem getD_mid {α : Type} (pre suf : List α) (x z : α) (i : Nat) (h : i = pre.length) : (pre ++ x :: suf).getD i z = x := by
  subst h; simp
theorem set_mid {α : Type} (pre suf : List α) (x y : α) (i : Nat) (h : i = pre.length) : (pre ++ x :: suf).set i y = pre ++ y :: suf := by
  subst h; simp
theorem snoc_app {α : Type} (pre suf : List α) (x : α) : (pre ++ [x]) ++ suf = pre ++ x :: suf := by simp
theorem snoc_len {α : Type} (pre : List α) (x : α) : (pre ++ [x]).length = pre.length + 1 := by simp
theorem snoc_leni {α : Type} (pre : List α) (x : α) : ((pre ++ [x]).length : Int) = (pre.length : Int) + 1 := by simp
theorem bnot_ne (b : Bool) : (b != b) = false := by cases b <;> rfl

/-- A list, seen from a place of it. -/
theorem at_place {α : Type} (l : List α) (i : Nat) (h : i ≤ l.length) : ∃ pre suf, l = pre ++ suf ∧ pre.length = i :=
  ⟨l.take i, l.drop i, (List.take_append_drop i l).symm, by simp [h]⟩
end Go.Proofs.YtcnegcdmmackeaaGreat.Base
