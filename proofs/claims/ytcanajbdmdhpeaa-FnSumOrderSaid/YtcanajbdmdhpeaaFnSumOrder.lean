/-
  FnSumOrder returns true for every code: the first sum has no order.
-/
import Derived.Test.YtcanajbdmdhpeaaSumLaw
import Derived.Test.YtcanajbdmdhpeaaSumDraw
import Derived.Test.YtcanajbdmdhpeaaRow
set_option linter.unusedVariables false
set_option linter.unusedSimpArgs false
namespace Go.Proofs.Ytcanajbdmdhpeaa
open Go.ChangeShapes Go.WideShapes Go.ChangeAt Go.RowKit

set_option maxHeartbeats 4000000 in
theorem FnSumOrder_small (A : Option Addr) (n c : Nat) (w : World) (hC : Code w A n c) : Calls Try.prog 7 #[.slice A n c] w fun e w' => e = .returned (.bool true) ∧ Below w.heap.size w w' := by
  have hn : n ≤ 1048576 := hC.elim fun _ h => h.2.2.1
  have hn2 : ¬ 1048576 < n := by omega
  go_enter Try.func7, Try.ntmps7
  go_wp2_with fail
  (with_reducible refine (DrawSumOf_any _ _ _ _ hC).mono ?_); rintro e w1 ⟨A1, n1, c1, xs, rfl, hn1, hx1, hc1, hd1, hb1⟩; have hz1 := hb1.size; (try simp at hz1)
  have HX := Lib.hid hx1.len
  unfold maxLen at hd1
  go_wp2_with fail
  (with_reducible refine (impl_SumOf _ _ _ _ _ hx1 (by omega)).mono ?_); rintro e w2 ⟨rfl, hb2⟩; have hz2 := hb2.size; (try simp at hz2)
  have hx2 := hx1.below hb2
  go_wp2_with fail
  (with_reducible refine (spec_SumOf _ _ _ _ _ hx2 (by omega)).mono ?_); rintro e w3 ⟨rfl, rfl⟩
  rcases sumOf_cases xs with ⟨e1, e2⟩ | ⟨hB, hl, e0⟩
  · rw [e1, e2]
    clear e1 e2
    go_wp2
    go_ret
    exact ⟨ret_bool (by simp), (by repeat (first | (with_reducible exact b_refl _) | (with_reducible refine b_alloc ?_ _) | (with_reducible refine b_drew ?_) | (with_reducible refine b_drewN ?_ _) | (with_reducible refine b_set ?_ ?_ _) | (with_reducible refine b_trans ?_ (by assumption)) | (with_reducible refine b_only ?_ (by assumption) ?_) | omega | (focus (simp; done)) | (focus (simp; omega))))⟩
  · have hbd := sums_bd xs
    have er := sumOf_reverse xs
    rw [e0] at er
    have HR := Lib.hid er
    have hrl : bytesOk xs.reverse = true := by rw [bytesOk_reverse]; exact hB
    rw [e0]
    have B2 : Below w.heap.size w w2 := (by repeat (first | (with_reducible exact b_refl _) | (with_reducible refine b_alloc ?_ _) | (with_reducible refine b_drew ?_) | (with_reducible refine b_drewN ?_ _) | (with_reducible refine b_set ?_ ?_ _) | (with_reducible refine b_trans ?_ (by assumption)) | (with_reducible refine b_only ?_ (by assumption) ?_) | omega | (focus (simp; done)) | (focus (simp; omega))))
    clear e0 er
    go_wp2
    go_loopw [8, 9] (fun v i wr => ∃ k : Nat, k ≤ n1 ∧ i = .int .i64 ((n1 : Int) - 1 - k) ∧ wr.ownsRow w2.heap.size 3 1 v k ((xs.reverse.take k).map (Value.int .i64)) ∧ Below w2.heap.size w2 wr) (fun _ i _ => (intOf i + 1).toNat)
    case atStart => exact ⟨0, Nat.zero_le _, by simp, by simpa using own_empty w2 w2.heap.size (Nat.le_refl _), (by repeat (first | (with_reducible exact b_refl _) | (with_reducible refine b_alloc ?_ _) | (with_reducible refine b_drew ?_) | (with_reducible refine b_drewN ?_ _) | (with_reducible refine b_set ?_ ?_ _) | (with_reducible refine b_trans ?_ (by assumption)) | (with_reducible refine b_only ?_ (by assumption) ?_) | omega | (focus (simp; done)) | (focus (simp; omega))))⟩
    case round =>
      obtain ⟨k, hk, rfl, hown, hbr⟩ := hrel
      have hsz := hbr.size
      by_cases hlt : k < n1
      · obtain ⟨j, hj⟩ : ∃ j : Nat, n1 = k + 1 + j := ⟨n1 - 1 - k, by omega⟩
        have ej : (n1 : Int) - 1 - k = (j : Int) := by omega
        rw [ej]
        have HJ := Lib.hid hj
        obtain ⟨b, o, x, rfl, hb, ex, hc0⟩ := hx2.at_ (k := j) (by omega)
        have hc := (hbr.cell (p := ⟨b, o + j, none⟩) hb).trans hc0
        have hj2 : j < n1 := by omega
        have ET : Hid (xs.reverse.take (k + 1) = xs.reverse.take k ++ [x]) := by
          show _ = _
          have h1 := HX.out
          rw [List.take_add_one, List.getElem?_reverse (by omega), show xs.length - 1 - k = j from by omega, ex]
          rfl
        clear ex hc0 ej hj
        go_wp2_with (at_builtin; refine at_app (.tmp 55) (.tmp 60) rfl ?_; go_must (refine wpList_app ((own_lift hown (by repeat (first | (with_reducible exact hown) | (with_reducible refine World.ownsRow.drew ?_) | (with_reducible refine own_drewN ?_ _) | (with_reducible refine World.ownsRow.alloc ?_ _) | (with_reducible refine own_below ?_ (by assumption)))))) (Ints.lit [x] (Blk.new _ _ _)) rfl (.tmp 55) (.tmp 60) rfl rfl rfl (k + 1) (by first | omega | (simp; done) | (simp; omega)) (by first | omega | (simp; done) | (simp; omega)) (by first | omega | (simp; done) | (simp; omega)) ?_; intro A5 c5 w5 own5 ho5 hat5 hc5 hd5; (try simp only [List.nil_append] at own5); have hz5 := ho5.size; (try simp at hz5)))
        rw [← ET.out] at own5
        go_roundw
        case rel => exact ⟨k + 1, by omega, congrArg (Value.int .i64) (by have := HJ.out; omega), own5, (by repeat (first | (with_reducible exact b_refl _) | (with_reducible refine b_alloc ?_ _) | (with_reducible refine b_drew ?_) | (with_reducible refine b_drewN ?_ _) | (with_reducible refine b_set ?_ ?_ _) | (with_reducible refine b_trans ?_ (by assumption)) | (with_reducible refine b_only ?_ (by assumption) ?_) | (with_reducible refine b_own ?_ (by assumption) ?_) | omega | (focus (intro g hg; simp [Value.ownBlock] at hg; done)) | (focus (intro g hg; simp [Value.ownBlock] at hg; omega)) | (focus (refine fun g hg => Nat.le_trans ?_ (World.ownsRow.lt (by assumption) g hg).1; first | omega | (simp; done) | (simp; omega))) | (focus (simp; done)) | (focus (simp; omega))))⟩
        case measure => have := HJ.out; first | (simp [intOf]; done) | (simp [intOf]; omega)
      · obtain rfl : k = n1 := by omega
        rw [show (k : Int) - 1 - k = -1 from by omega]
        have hrr : xs.reverse.take k = xs.reverse := List.take_of_length_le (by have := HX.out; simp; omega)
        rw [hrr] at hown
        clear hrr
        obtain ⟨A5, c5, rfl, hc5, hd5⟩ := own_form hown
        go_wp2_with fail
        (with_reducible refine (impl_SumOf _ _ _ _ _ (Ints.of_own hown) (by omega)).mono ?_); rintro e w6 ⟨rfl, hb6⟩; have hz6 := hb6.size; (try simp at hz6)
        rw [HR.out]
        go_wp2
        go_ret
        exact ⟨ret_bool (by simp), b_trans (b_trans B2 hbr) hb6⟩
set_option maxHeartbeats 1000000 in
theorem FnSumOrder_calls (A : Option Addr) (n c : Nat) (w : World) (hC : CodeIn w A n c) : Calls Try.prog 7 #[.slice A n c] w fun e w' => e = .returned (.bool true) ∧ Below w.heap.size w w' := by
  by_cases hn : n ≤ 1048576
  · exact FnSumOrder_small A n c w (hC.code hn)
  · have hl := hC.len
    have hn2 : (1048576 : Int) < n := by omega
    go_enter Try.func7, Try.ntmps7
    go_wp2
    go_ret
    exact ⟨rfl, b_refl _⟩
set_option maxRecDepth 100000 in
theorem FnSumOrder_lifted (os : Os) (started : os.Started) (H : Type) (enc : TypeId × Value → H) :
    ReturnsInHanded {} Try.checked os 7 .any (Rows.fnSumOrderSpec.pre6 enc Try.prog Try.f7 Rows.fnSumOrderRow.domain false) (Rows.fnSumOrderSpec.post enc Try.prog Try.f7 false true false false) := by
  refine returnsInHanded_of_change (C := Try.checked) own started (by kernel_rfl) Try.func7
    (ChangeSpec.witness6 (enc := enc) (C := Try.checked) false ⟨#[], #[.slice none 0 0], []⟩ 8 (by kernel_rfl) (by kernel_rfl) (by kernel_rfl) (by kernel_rfl)) ?_
  intro W base args ds gs before hval0 hW _ _
  have hval : ∀ (j : Nat) t v, Try.f7.params[j]? = some t → args[j]? = some v → Value.okWide Try.prog W .any base t v := hval0
  have hW2 := hW
  obtain ⟨p, q, hA0, hV, rfl, _, _⟩ := hW2
  have hA : DataW.TrodAll enc Try.prog W 0 (fun _ => true) true Try.f7.params.toList args.toList ds p := hA0
  rw [Try.params7] at hA hval
  obtain ⟨v0, d0, rfl, rfl, h0⟩ := trodAll_one hA
  obtain ⟨rfl, rfl⟩ := trodVars_none hV
  obtain ⟨A0, n, c, rfl, hC⟩ := open_code (hval 0 _ v0 rfl rfl) h0
  refine (FnSumOrder_calls A0 n c W hC).mono fun e W' ⟨he, hb⟩ => ?_
  subst he
  exact ⟨_, rfl, law_post (f := Try.f7) (s := Rows.fnSumOrderSpec) 4 laid_out (by kernel_rfl) rfl (by kernel_rfl) Try.underlying4 hW rfl hb⟩
theorem FnSumOrder_holds : Rows.FnSumOrderSaid :=
  OpenClaim.holds_of_wide 7 Try.f7 rfl rfl rfl rfl rfl rfl rfl ⟨rfl, rfl, rfl, rfl, rfl⟩ rfl rfl rfl rfl rfl (by kernel_rfl) Try.func7 (by kernel_rfl)
    (of_decide_eq_true (by kernel_rfl)) (by unfold Func.isWrapper; rw [if_neg (of_decide_eq_false (by kernel_rfl))]; exact ⟨rfl, rfl⟩)
    (fun os started H enc _ => FnSumOrder_lifted os started H enc)

end Go.Proofs.Ytcanajbdmdhpeaa
