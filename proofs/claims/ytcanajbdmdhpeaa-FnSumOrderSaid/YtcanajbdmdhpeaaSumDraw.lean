/-
  THE DRAW OF A LIST WITH ITS SUMS.
-/
import Derived.Test.YtcanajbdmdhpeaaPacketDraw
import Derived.Test.YtcanajbdmdhpeaaSumTake
set_option linter.unusedVariables false
set_option linter.unusedSimpArgs false
namespace Go.Proofs.Ytcanajbdmdhpeaa
open Go.ChangeShapes Go.WideShapes Go.ChangeAt Go.RowKit

set_option maxHeartbeats 2000000 in
theorem DrawSumTake_any (A : Option Addr) (n c : Nat) (w : World) (hC : Code w A n c) : Calls Try.prog 26 #[.slice A n c] w (Listed 21 w) := by
  go_enter Try.func26, Try.ntmps26
  go_wp2_with (first | (go_at_call 32; go_must ((with_reducible refine (open_U _ _ _ _ (hC)).mono ?_); rintro e w1 ⟨rb, rfl, hrb, hr1, hb1⟩; (try simp at hrb); have hrl := hr1.lt; have hz1 := hb1.size; (try simp at hz1))) | (go_at_call 31; go_must ((with_reducible refine (l92Packet_any rb 0 _ ?_ (by omega)).mono ?_); (exact (by repeat (first | (with_reducible refine RdU.up (by assumption) (by omega)) | (with_reducible refine Rd.up (by assumption) (by omega)) | (with_reducible refine RdU.up (RdB.u (by assumption)) (by omega)) | (with_reducible refine RdU.drew ?_) | (with_reducible refine RdU.drewN ?_ _) | (with_reducible refine RdU.alloc ?_ _) | (with_reducible refine RdU.setCell ?_ ?_ _) | (with_reducible refine RdU.below ?_ (by assumption)) | omega | (focus (simp; done)) | (focus (simp; omega))))); rintro e w2 ⟨A2, m, c2, xs, rfl, hm, own2, hc2, hd2, hr2, ho2⟩; have hz2 := ho2.size; (try simp at hz2))))
  (with_reducible refine (spec_SumPut _ _ _ _ _ (Ints.of_own own2) (by omega)).mono ?_); rintro e w3 ⟨A3, m3, c3, rfl, hm3, own3, hc3, hd3, hb3⟩
  have HM := Lib.hid hm3
  have HX := Lib.hid (Ints.of_own own2).len
  have B3 : Below w.heap.size w w3 := (by repeat (first | (with_reducible exact b_refl _) | (with_reducible refine b_alloc ?_ _) | (with_reducible refine b_drew ?_) | (with_reducible refine b_drewN ?_ _) | (with_reducible refine b_set ?_ ?_ _) | (with_reducible refine b_trans ?_ (by assumption)) | (with_reducible refine b_only ?_ (by assumption) ?_) | omega | (focus (simp; done)) | (focus (simp; omega))))
  have hr3 := hr2.below hb3
  have hrl := hr3.lt
  have hz3 := hb3.size
  have hrb2 := hr2.lt
  clear hm3 own2
  by_cases hok : putOk xs = true
  · rw [if_pos hok] at own3
    have hm3 : m3 = m + 2 := by have h := HM.out; rw [if_pos hok, sumPut] at h; have := HX.out; simp at h; omega
    have hl18 : xs.length ≤ 18 := by simp [putOk] at hok; exact hok.2
    have hm4 : 2 ≤ m3 ∧ m3 ≤ 20 := by have := HX.out; omega
    rw [hok]
    clear HM hm3 hl18 hok
    generalize hys : sumPut xs = ys at *
    clear hys HX
    obtain ⟨g, cap, hv, hgb, hgl⟩ := own3.form (by omega)
    injection hv with hA _ hC2
    subst hA; subst hC2
    go_wp2_with fail
    (with_reducible refine (pick_U rb (200) (m3 : Int) _ ?_ (by omega) (by omega)).mono ?_); (exact (by repeat (first | (with_reducible refine RdU.up (by assumption) (by omega)) | (with_reducible refine Rd.up (by assumption) (by omega)) | (with_reducible refine RdU.up (RdB.u (by assumption)) (by omega)) | (with_reducible refine RdU.drew ?_) | (with_reducible refine RdU.drewN ?_ _) | (with_reducible refine RdU.alloc ?_ _) | (with_reducible refine RdU.setCell ?_ ?_ _) | (with_reducible refine RdU.below ?_ (by assumption)) | omega | (focus (simp; done)) | (focus (simp; omega))))); rintro e w4 ⟨v4, rfl, hv4, hu4, hr4, ho4⟩; have hz4 := ho4.size; (try simp at hz4)
    have own4 := own_only own3 ho4 (by omega)
    obtain ⟨K, rfl⟩ := Int.eq_ofNat_of_zero_le hv4
    have hK : K < m3 := by omega
    have hKc : K ≤ c3 := by omega
    go_wp2_with fail
    (with_reducible refine (pick_U rb (201) 6 _ ?_ (by omega) (by omega)).mono ?_); (exact (by repeat (first | (with_reducible refine RdU.up (by assumption) (by omega)) | (with_reducible refine Rd.up (by assumption) (by omega)) | (with_reducible refine RdU.up (RdB.u (by assumption)) (by omega)) | (with_reducible refine RdU.drew ?_) | (with_reducible refine RdU.drewN ?_ _) | (with_reducible refine RdU.alloc ?_ _) | (with_reducible refine RdU.setCell ?_ ?_ _) | (with_reducible refine RdU.below ?_ (by assumption)) | omega | (focus (simp; done)) | (focus (simp; omega))))); rintro e w5 ⟨v5, rfl, hv5, hu5, hr5, ho5⟩; have hz5 := ho5.size; (try simp at hz5)
    have own5 := own_only own4 ho5 (by omega)
    by_cases h0 : v5 = 0
    · subst h0
      go_wp2
      go_ret
      exact ⟨_, K, _, _, rfl, by omega, (Ints.of_own own5).take (by omega), by omega, hd3, (by repeat (first | (with_reducible exact b_refl _) | (with_reducible refine b_alloc ?_ _) | (with_reducible refine b_drew ?_) | (with_reducible refine b_drewN ?_ _) | (with_reducible refine b_set ?_ ?_ _) | (with_reducible refine b_trans ?_ (by assumption)) | (with_reducible refine b_only ?_ (by assumption) ?_) | omega | (focus (simp; done)) | (focus (simp; omega))))⟩
    · have hz0 : (v5 == 0) = false := by simpa using h0
      by_cases h1 : v5 = 1
      · subst h1
        go_wp2_with fail
        (with_reducible refine (pick_U rb (202) 256 _ ?_ (by omega) (by omega)).mono ?_); (exact (by repeat (first | (with_reducible refine RdU.up (by assumption) (by omega)) | (with_reducible refine Rd.up (by assumption) (by omega)) | (with_reducible refine RdU.up (RdB.u (by assumption)) (by omega)) | (with_reducible refine RdU.drew ?_) | (with_reducible refine RdU.drewN ?_ _) | (with_reducible refine RdU.alloc ?_ _) | (with_reducible refine RdU.setCell ?_ ?_ _) | (with_reducible refine RdU.below ?_ (by assumption)) | omega | (focus (simp; done)) | (focus (simp; omega))))); rintro e w6 ⟨v6, rfl, hv6, hu6, hr6, ho6⟩; have hz6 := ho6.size; (try simp at hz6)
        have own6 := own_only own5 ho6 (by omega)
        obtain ⟨u, hu, hcu⟩ := own_cell own6 hK
        have hfu := own6.frozenAt K
        have hst := (own6.stored K (.int .i64 v6)).1
        rw [← List.map_set] at hst
        have HS := Lib.hid hst
        clear hst hu
        go_wp2
        go_ret
        exact ⟨_, m3, _, _, rfl, by omega, Ints.of_own HS.out, hc3, hd3, (by repeat (first | (with_reducible exact b_refl _) | (with_reducible refine b_alloc ?_ _) | (with_reducible refine b_drew ?_) | (with_reducible refine b_drewN ?_ _) | (with_reducible refine b_set ?_ ?_ _) | (with_reducible refine b_trans ?_ (by assumption)) | (with_reducible refine b_only ?_ (by assumption) ?_) | omega | (focus (simp; done)) | (focus (simp; omega))))⟩
      · have hz1 : (v5 == 1) = false := by simpa using h1
        go_wp2
        go_ret
        exact ⟨_, m3, _, _, rfl, by omega, Ints.of_own own5, hc3, hd3, (by repeat (first | (with_reducible exact b_refl _) | (with_reducible refine b_alloc ?_ _) | (with_reducible refine b_drew ?_) | (with_reducible refine b_drewN ?_ _) | (with_reducible refine b_set ?_ ?_ _) | (with_reducible refine b_trans ?_ (by assumption)) | (with_reducible refine b_only ?_ (by assumption) ?_) | omega | (focus (simp; done)) | (focus (simp; omega))))⟩
  · have hf : putOk xs = false := by simpa using hok
    rw [hf]
    clear HM hok own3
    go_wp2
    go_ret
    exact ⟨_, 2, _, [1, 0], rfl, by omega, Ints.lit [1, 0] (Blk.new _ _ _), Nat.le_refl _, by unfold maxLen; omega, (by repeat (first | (with_reducible exact b_refl _) | (with_reducible refine b_alloc ?_ _) | (with_reducible refine b_drew ?_) | (with_reducible refine b_drewN ?_ _) | (with_reducible refine b_set ?_ ?_ _) | (with_reducible refine b_trans ?_ (by assumption)) | (with_reducible refine b_only ?_ (by assumption) ?_) | omega | (focus (simp; done)) | (focus (simp; omega))))⟩
end Go.Proofs.Ytcanajbdmdhpeaa
