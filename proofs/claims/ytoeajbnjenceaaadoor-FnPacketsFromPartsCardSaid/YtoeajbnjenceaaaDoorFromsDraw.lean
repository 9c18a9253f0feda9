/-
  THE DRAW OF BYTES THAT ARE OFTEN THOSE OF PACKETS: a list of at most 412 integers.
-/
import Derived.Test.YtoeajbnjenceaaaDoorPacketsLaw
set_option linter.unusedVariables false
set_option linter.unusedSimpArgs false
namespace Go.Proofs.YtoeajbnjenceaaaDoor
open Go.ChangeShapes Go.WideShapes Go.ChangeAt Go.RowKit

set_option maxHeartbeats 4000000 in
theorem DrawPacketsFrom_any (A : Option Addr) (n c : Nat) (w : World) (hC : Code w A n c) : Calls Tryd.prog 27 #[.slice A n c] w (Listed 412 w) := by
  go_enter Tryd.func27, Tryd.ntmps27
  go_wp2_with (first | (go_at_call 34; go_must ((with_reducible refine (open_U _ _ _ _ (hC)).mono ?_); rintro e w1 ⟨rb, rfl, hrb, hr1, hb1⟩; (try simp at hrb); have hrl := hr1.lt; have hz1 := hb1.size; (try simp at hz1))) | (go_at_call 38; go_must ((with_reducible refine (l92Packets_any rb 0 _ ?_ (by omega)).mono ?_); (exact (by repeat (first | (with_reducible refine RdU.up (by assumption) (by omega)) | (with_reducible refine Rd.up (by assumption) (by omega)) | (with_reducible refine RdU.up (RdB.u (by assumption)) (by omega)) | (with_reducible refine RdU.drew ?_) | (with_reducible refine RdU.drewN ?_ _) | (with_reducible refine RdU.alloc ?_ _) | (with_reducible refine RdU.setCell ?_ ?_ _) | (with_reducible refine RdU.below ?_ (by assumption)) | omega | (focus (simp; done)) | (focus (simp; omega))))); rintro e w2 ⟨A2, m, c2, ss, xss, rfl, hm, own2, hf2, hc2, hd2, hr2, ho2⟩; have hz2 := ho2.size; (try simp at hz2))))
  have htot : tot xss ≤ 1048576 := by have h1 := hf2.tot; have h2 := own2.len; omega
  (with_reducible refine (spec_PacketsBytes _ _ _ _ _ _ own2.read (by omega) htot).mono ?_); rintro e w3 ⟨A3, m3, c3, rfl, hm3, own3, hc3, hd3, hb3⟩
  have hml : m3 ≤ 410 := by rw [hm3]; exact packsOut_len xss
  have B3 : Below w.heap.size w w3 := (by repeat (first | (with_reducible exact b_refl _) | (with_reducible refine b_alloc ?_ _) | (with_reducible refine b_drew ?_) | (with_reducible refine b_drewN ?_ _) | (with_reducible refine b_set ?_ ?_ _) | (with_reducible refine b_trans ?_ (by assumption)) | (with_reducible refine b_only ?_ (by assumption) ?_) | omega | (focus (simp; done)) | (focus (simp; omega))))
  have hr3 := hr2.below hb3
  have hrl := hr3.lt
  have hz3 := hb3.size
  have hrb2 := hr2.lt
  clear hm3 own2 hf2 htot
  generalize packsOut xss = ys at *
  generalize packsOk xss = bo at *
  by_cases h00 : m3 = 0
  · subst h00
    go_wp2
    go_ret
    exact ⟨_, 4, _, [192, 5, 192, 7], rfl, by omega, Ints.lit [192, 5, 192, 7] (Blk.new _ _ _), Nat.le_refl _, by unfold maxLen; omega, (by repeat (first | (with_reducible exact b_refl _) | (with_reducible refine b_alloc ?_ _) | (with_reducible refine b_drew ?_) | (with_reducible refine b_drewN ?_ _) | (with_reducible refine b_set ?_ ?_ _) | (with_reducible refine b_trans ?_ (by assumption)) | (with_reducible refine b_only ?_ (by assumption) ?_) | omega | (focus (simp; done)) | (focus (simp; omega))))⟩
  · have h01 : ¬ (m3 : Int) = 0 := by omega
    have h02 : ((m3 : Int) == 0) = false := by simpa using h01
    obtain ⟨g, cap, hv, hgb, hgl⟩ := own3.form (by omega)
    injection hv with hA _ hC2
    subst hA; subst hC2
    go_wp2_with fail
    (with_reducible refine (pick_U rb (3000) (m3 : Int) _ ?_ (by omega) (by omega)).mono ?_); (exact (by repeat (first | (with_reducible refine RdU.up (by assumption) (by omega)) | (with_reducible refine Rd.up (by assumption) (by omega)) | (with_reducible refine RdU.up (RdB.u (by assumption)) (by omega)) | (with_reducible refine RdU.drew ?_) | (with_reducible refine RdU.drewN ?_ _) | (with_reducible refine RdU.alloc ?_ _) | (with_reducible refine RdU.setCell ?_ ?_ _) | (with_reducible refine RdU.below ?_ (by assumption)) | omega | (focus (simp; done)) | (focus (simp; omega))))); rintro e w4 ⟨v4, rfl, hv4, hu4, hr4, ho4⟩; have hz4 := ho4.size; (try simp at hz4)
    have own4 := own_only own3 ho4 (by omega)
    obtain ⟨K, rfl⟩ := Int.eq_ofNat_of_zero_le hv4
    have hK : K < m3 := by omega
    have hKc : K ≤ c3 := by omega
    go_wp2_with fail
    (with_reducible refine (pick_U rb (3001) 5 _ ?_ (by omega) (by omega)).mono ?_); (exact (by repeat (first | (with_reducible refine RdU.up (by assumption) (by omega)) | (with_reducible refine Rd.up (by assumption) (by omega)) | (with_reducible refine RdU.up (RdB.u (by assumption)) (by omega)) | (with_reducible refine RdU.drew ?_) | (with_reducible refine RdU.drewN ?_ _) | (with_reducible refine RdU.alloc ?_ _) | (with_reducible refine RdU.setCell ?_ ?_ _) | (with_reducible refine RdU.below ?_ (by assumption)) | omega | (focus (simp; done)) | (focus (simp; omega))))); rintro e w5 ⟨v5, rfl, hv5, hu5, hr5, ho5⟩; have hz5 := ho5.size; (try simp at hz5)
    have own5 := own_only own4 ho5 (by omega)
    by_cases h0 : v5 = 0
    · subst h0
      go_wp2
      go_ret
      exact ⟨_, K, _, _, rfl, by omega, (Ints.of_own own5).take (by omega), by omega, hd3, (by repeat (first | (with_reducible exact b_refl _) | (with_reducible refine b_alloc ?_ _) | (with_reducible refine b_drew ?_) | (with_reducible refine b_drewN ?_ _) | (with_reducible refine b_set ?_ ?_ _) | (with_reducible refine b_trans ?_ (by assumption)) | (with_reducible refine b_only ?_ (by assumption) ?_) | omega | (focus (simp; done)) | (focus (simp; omega))))⟩
    · have hz0 : (v5 == 0) = false := by simpa using h0
      by_cases h1 : v5 = 1
      · subst h1
        go_wp2_with fail
        (with_reducible refine (pick_U rb (3002) 5 _ ?_ (by omega) (by omega)).mono ?_); (exact (by repeat (first | (with_reducible refine RdU.up (by assumption) (by omega)) | (with_reducible refine Rd.up (by assumption) (by omega)) | (with_reducible refine RdU.up (RdB.u (by assumption)) (by omega)) | (with_reducible refine RdU.drew ?_) | (with_reducible refine RdU.drewN ?_ _) | (with_reducible refine RdU.alloc ?_ _) | (with_reducible refine RdU.setCell ?_ ?_ _) | (with_reducible refine RdU.below ?_ (by assumption)) | omega | (focus (simp; done)) | (focus (simp; omega))))); rintro e w6 ⟨v6, rfl, hv6, hu6, hr6, ho6⟩; have hz6 := ho6.size; (try simp at hz6)
        have own6 := own_only (own5.alloc _) ho6 (by omega)
        obtain ⟨x, hx, _⟩ := nth_of [0, 192, 219, 220, 256] ((Blk.new _ _ _).grown ho6 (by simp; omega)) hv6 hu6
        obtain ⟨u, hu, hcu⟩ := own_cell own6 hK
        have hfu := own6.frozenAt K
        have hst := (own6.stored K (.int .i64 x)).1
        rw [← List.map_set] at hst
        have HS := Lib.hid hst
        clear hst hu
        go_wp2
        go_ret
        exact ⟨_, m3, _, _, rfl, by omega, Ints.of_own HS.out, hc3, hd3, (by repeat (first | (with_reducible exact b_refl _) | (with_reducible refine b_alloc ?_ _) | (with_reducible refine b_drew ?_) | (with_reducible refine b_drewN ?_ _) | (with_reducible refine b_set ?_ ?_ _) | (with_reducible refine b_trans ?_ (by assumption)) | (with_reducible refine b_only ?_ (by assumption) ?_) | omega | (focus (simp; done)) | (focus (simp; omega))))⟩
      · have hz1 : (v5 == 1) = false := by simpa using h1
        by_cases h2 : v5 = 2
        · subst h2
          go_wp2_with (at_builtin; refine at_app (.tmp 42) (.tmp 43) rfl ?_; go_must (refine wpList_app ((own_lift own5 (by repeat (first | (with_reducible exact own5) | (with_reducible refine World.ownsRow.drew ?_) | (with_reducible refine own_drewN ?_ _) | (with_reducible refine World.ownsRow.alloc ?_ _) | (with_reducible refine own_below ?_ (by assumption)))))) (Ints.lit [192, 3] (Blk.new _ _ _)) rfl (.tmp 42) (.tmp 43) rfl rfl rfl (m3 + 2) (by first | omega | (simp; done) | (simp; omega)) (by first | omega | (simp; done) | (simp; omega)) (by first | omega | (simp; done) | (simp; omega)) ?_; intro A6 c6 w6 own6 ho6 hat6 hc6 hd6; (try simp only [List.nil_append] at own6); have hz6 := ho6.size; (try simp at hz6)))
          go_ret
          exact ⟨_, m3 + 2, _, _, rfl, by omega, Ints.of_own own6, hc6, hd6, (by repeat (first | (with_reducible exact b_refl _) | (with_reducible refine b_alloc ?_ _) | (with_reducible refine b_drew ?_) | (with_reducible refine b_drewN ?_ _) | (with_reducible refine b_set ?_ ?_ _) | (with_reducible refine b_trans ?_ (by assumption)) | (with_reducible refine b_only ?_ (by assumption) ?_) | (with_reducible refine b_own ?_ (by assumption) ?_) | omega | (focus (intro g hg; simp [Value.ownBlock] at hg; done)) | (focus (intro g hg; simp [Value.ownBlock] at hg; omega)) | (focus (refine fun g hg => Nat.le_trans ?_ (World.ownsRow.lt (by assumption) g hg).1; first | omega | (simp; done) | (simp; omega))) | (focus (simp; done)) | (focus (simp; omega))))⟩
        · have hz2 : (v5 == 2) = false := by simpa using h2
          go_wp2
          go_ret
          exact ⟨_, m3, _, _, rfl, by omega, Ints.of_own own5, hc3, hd3, (by repeat (first | (with_reducible exact b_refl _) | (with_reducible refine b_alloc ?_ _) | (with_reducible refine b_drew ?_) | (with_reducible refine b_drewN ?_ _) | (with_reducible refine b_set ?_ ?_ _) | (with_reducible refine b_trans ?_ (by assumption)) | (with_reducible refine b_only ?_ (by assumption) ?_) | omega | (focus (simp; done)) | (focus (simp; omega))))⟩
theorem own_lit192 (w : World) : (w.alloc (.cells #[.int .i64 192] 3)).ownsRow w.heap.size 3 1 (.slice (some ⟨w.heap.size, 0, none⟩) 1 1) 1 (([192] : List Int).map (Value.int .i64)) := by
  simpa using World.ownsRow_lit w #[.int .i64 192] 1 (base := w.heap.size) (e := 3) (size := 1) (Nat.le_refl _) (by unfold maxLen; omega) rfl
end Go.Proofs.YtoeajbnjenceaaaDoor
