/-
  PLAIN LAWS OF THE SUMS.
-/
import Derived.Test.YtcanajbdmdhpeaaSumTake
set_option linter.unusedVariables false
set_option linter.unusedSimpArgs false
namespace Go.Proofs.Ytcanajbdmdhpeaa
open Go.ChangeShapes Go.WideShapes Go.ChangeAt Go.RowKit

theorem sumOf_cases (xs : List Int) : ((sumOf xs).1 = -1 ∧ (sumOf xs).2 = -1) ∨ (bytesOk xs = true ∧ xs.length ≤ 20 ∧ sumOf xs = sums xs) := by
  by_cases h : bytesOk xs = true ∧ xs.length ≤ 20
  · exact .inr ⟨h.1, h.2, if_pos h⟩
  · exact .inl (by rw [sumOf, if_neg h]; exact ⟨rfl, rfl⟩)
theorem foldl_fst (xs : List Int) : ∀ s : Int × Int, 0 ≤ s.1 → s.1 < 255 → (xs.foldl sumStep s).1 = (s.1 + xs.sum) % 255 := by
  induction xs with
  | nil => intro s h0 h1; simp; omega
  | cons x xs ih =>
    intro s h0 h1
    have hb := sumStep_bd s x
    rw [List.foldl_cons, ih _ hb.1 (by omega), List.sum_cons]
    simp only [sumStep]
    omega
theorem sums_fst (xs : List Int) : (sums xs).1 = (1 + xs.sum) % 255 := foldl_fst xs (1, 0) (by decide) (by decide)
theorem bytesOk_reverse (xs : List Int) : bytesOk xs.reverse = bytesOk xs := by simp [bytesOk]
theorem sumOf_reverse (xs : List Int) : (sumOf xs.reverse).1 = (sumOf xs).1 := by
  unfold sumOf
  rw [bytesOk_reverse, List.length_reverse]
  split
  · rw [sums_fst, sums_fst, List.sum_reverse]
  · rfl
theorem takeOk_put {xs : List Int} (h : putOk xs = true) : takeOk (sumPut xs) = true ∧ (sumPut xs).take ((sumPut xs).length - 2) = xs := by
  simp only [putOk, Bool.and_eq_true, decide_eq_true_eq] at h
  have hb := sums_bd xs
  have e1 : (sumPut xs).length = xs.length + 2 := by simp [sumPut]
  have e2 : (sumPut xs).take xs.length = xs := by simp [sumPut]
  have e3 : (sumPut xs).drop xs.length = [(sums xs).1, (sums xs).2] := by simp [sumPut]
  have e4 : bytesOk (sumPut xs) = true := by
    rw [sumPut, bytesOk_append, h.1]
    simp [bytesOk, in_]
    omega
  refine ⟨?_, by rw [e1]; simpa using e2⟩
  rw [takeOk_eq e1 e4 (by omega) e3, e2]
  simp
theorem takeOk_parts {xs : List Int} (h : takeOk xs = true) : bytesOk xs = true ∧ 2 ≤ xs.length ∧ xs.length ≤ 20 ∧ xs.drop (xs.length - 2) = [(sums (xs.take (xs.length - 2))).1, (sums (xs.take (xs.length - 2))).2] := by
  simpa [takeOk, and_assoc] using h
theorem putOk_take {xs : List Int} (h : takeOk xs = true) : putOk (xs.take (xs.length - 2)) = true ∧ sumPut (xs.take (xs.length - 2)) = xs := by
  obtain ⟨h1, h2, h3, h4⟩ := takeOk_parts h
  refine ⟨by simp [putOk, bytesOk_take h1]; omega, ?_⟩
  rw [sumPut, ← h4, List.take_append_drop]
/-- A number that is damaged. -/
def damaged (x : Int) : Int := if 254 ≤ x then x - 1 else x + 1
theorem sum_set {xs : List Int} {k : Nat} {x y : Int} (hx : xs[k]? = some x) : (xs.set k y).sum = xs.sum + (y - x) := by
  induction xs generalizing k with
  | nil => simp at hx
  | cons z zs ih =>
    cases k with
    | zero => simp at hx; subst hx; simp; omega
    | succ k =>
      simp at hx
      simp only [List.set_cons_succ, List.sum_cons, ih hx]
      omega
theorem damage_bad {xs : List Int} (h : takeOk xs = true) {k : Nat} {x : Int} (hx : xs[k]? = some x) : takeOk (xs.set k (damaged x)) = false := by
  obtain ⟨h1, h2, h3, h4⟩ := takeOk_parts h
  have hxb := bytesOk_at h1 hx
  have hkl : k < xs.length := (List.getElem?_eq_some_iff.1 hx).1
  rw [← Bool.not_eq_true]
  intro h'
  obtain ⟨_, _, _, h5⟩ := takeOk_parts h'
  rw [List.length_set] at h5
  generalize hn : xs.length - 2 = n at *
  have hd : damaged x = x + 1 ∨ damaged x = x - 1 := by unfold damaged; split <;> simp
  generalize damaged x = y at *
  by_cases hkn : k < n
  · rw [List.drop_set_of_lt (by omega), h4, List.take_set] at h5
    injection h5 with h5 _
    rw [sums_fst, sums_fst, sum_set (k := k) (x := x) (by rw [List.getElem?_take_of_lt hkn]; exact hx)] at h5
    omega
  · rw [show (xs.set k y).take n = xs.take n from by rw [List.take_set_of_le (by omega)], ← h4] at h5
    have h6 : (xs.set k y)[k]? = xs[k]? := by
      have e : k = n + (k - n) := by omega
      rw [e, ← List.getElem?_drop, ← List.getElem?_drop, ← e, h5]
    rw [List.getElem?_set_self hkl, hx] at h6
    injection h6 with h6
    omega
theorem foldl_snd (xs : List Int) : ∀ a b b' : Int, ((xs.foldl sumStep (a, b)).2 - (xs.foldl sumStep (a, b')).2 - (b - b')) % 255 = 0 := by
  induction xs with
  | nil => intro a b b'; simp
  | cons x xs ih =>
    intro a b b'
    have := ih ((a + x) % 255) ((b + (a + x) % 255) % 255) ((b' + (a + x) % 255) % 255)
    simp only [List.foldl_cons, sumStep]
    omega
theorem swap_bad {x y : Int} {zs : List Int} (h : takeOk (x :: y :: zs) = true) (hl : 2 ≤ zs.length) (h' : takeOk (y :: x :: zs) = true) : (x - y) % 255 = 0 := by
  obtain ⟨_, _, _, h4⟩ := takeOk_parts h
  obtain ⟨_, _, _, h5⟩ := takeOk_parts h'
  obtain ⟨n, hn⟩ : ∃ n, zs.length = n + 2 := ⟨zs.length - 2, by omega⟩
  have e1 : (x :: y :: zs).length - 2 = n + 2 := by simp; omega
  have e2 : (y :: x :: zs).length - 2 = n + 2 := by simp; omega
  rw [e1] at h4
  rw [e2] at h5
  simp only [List.drop_succ_cons, List.take_succ_cons] at h4 h5
  rw [h4] at h5
  injection h5 with _ h5
  injection h5 with h5 _
  simp only [sums, List.foldl_cons] at h5
  have h6 := foldl_snd (zs.take n) ((1 + x + y) % 255) (((0 + (1 + x)) + (1 + x + y)) % 255) (((0 + (1 + y)) + (1 + x + y)) % 255)
  have e3 : sumStep (sumStep (1, 0) x) y = ((1 + x + y) % 255, ((0 + (1 + x)) + (1 + x + y)) % 255) := by
    simp only [sumStep, Prod.mk.injEq]
    omega
  have e4 : sumStep (sumStep (1, 0) y) x = ((1 + x + y) % 255, ((0 + (1 + y)) + (1 + x + y)) % 255) := by
    simp only [sumStep, Prod.mk.injEq]
    omega
  rw [e3, e4] at h5
  omega
end Go.Proofs.Ytcanajbdmdhpeaa
