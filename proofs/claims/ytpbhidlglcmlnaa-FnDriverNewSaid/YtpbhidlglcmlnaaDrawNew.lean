/-
  THE DRAWS OF A ROOM AND A TRIGGER: DrawPortNew, DrawDriverNew: two numbers.
-/
import Derived.Test.YtpbhidlglcmlnaaReadU
set_option linter.unusedVariables false
set_option linter.unusedSimpArgs false
namespace Go.Proofs.Ytpbhidlglcmlnaa
open Go.ChangeShapes Go.WideShapes Go.ChangeAt Go.RowKit

set_option maxRecDepth 20000 in
set_option maxHeartbeats 8000000 in
theorem DrawPortNew_any (A : Option Addr) (n c : Nat) (w : World) (hC : Code w A n c) : Calls Try.prog 84 #[.slice A n c] w fun e w' => ∃ a b : Int, e = .returned (.tuple #[.int .i64 a, .int .i64 b]) ∧ Below w.heap.size w w' := by
  go_enter Try.func84, Try.ntmps84
  go_wp2_with fail
  (with_reducible refine (open_U _ _ _ _ hC).mono ?_); rintro e w1 ⟨rb, rfl, hrb, hr1, hb1⟩
  go_wp2_with fail
  (with_reducible refine (pick_U rb (0) 8 _ ?_ (by omega) (by omega)).mono ?_); (exact (by repeat (first | (with_reducible refine RdU.up (by assumption) (by omega)) | (with_reducible refine Rd.up (by assumption) (by omega)) | (with_reducible refine RdU.up (RdB.u (by assumption)) (by omega)) | (with_reducible refine RdU.drew ?_) | (with_reducible refine RdU.drewN ?_ _) | (with_reducible refine RdU.alloc ?_ _) | (with_reducible refine RdU.setCell ?_ ?_ _) | (with_reducible refine RdU.below ?_ (by assumption)) | omega | (focus (simp; done)) | (focus (simp; omega))))); rintro e w2 ⟨v2, rfl, hv2, hu2, hr2, ho2⟩; have hz2 := ho2.size; (try simp at hz2)
  have g2 : w1.grownBy w2 (some rb) := ho2
  by_cases q0 : v2 = 0
  case' neg =>
    have z0 : (v2 == 0) = false := by simpa using q0
    clear q0
    go_wp2_with fail
    (with_reducible refine (pick_U rb (1) 16 _ ?_ (by omega) (by omega)).mono ?_); (exact (by repeat (first | (with_reducible refine RdU.up (by assumption) (by omega)) | (with_reducible refine Rd.up (by assumption) (by omega)) | (with_reducible refine RdU.up (RdB.u (by assumption)) (by omega)) | (with_reducible refine RdU.drew ?_) | (with_reducible refine RdU.drewN ?_ _) | (with_reducible refine RdU.alloc ?_ _) | (with_reducible refine RdU.setCell ?_ ?_ _) | (with_reducible refine RdU.below ?_ (by assumption)) | omega | (focus (simp; done)) | (focus (simp; omega))))); rintro e w3 ⟨v3, rfl, hv3, hu3, hr3, ho3⟩; have hz3 := ho3.size; (try simp at hz3)
    go_wp2_with fail
    (with_reducible refine (pick_U rb (2) (1 + v3) _ ?_ (by omega) (by omega)).mono ?_); (exact (by repeat (first | (with_reducible refine RdU.up (by assumption) (by omega)) | (with_reducible refine Rd.up (by assumption) (by omega)) | (with_reducible refine RdU.up (RdB.u (by assumption)) (by omega)) | (with_reducible refine RdU.drew ?_) | (with_reducible refine RdU.drewN ?_ _) | (with_reducible refine RdU.alloc ?_ _) | (with_reducible refine RdU.setCell ?_ ?_ _) | (with_reducible refine RdU.below ?_ (by assumption)) | omega | (focus (simp; done)) | (focus (simp; omega))))); rintro e w4 ⟨v4, rfl, hv4, hu4, hr4, ho4⟩; have hz4 := ho4.size; (try simp at hz4)
    go_wp2
    go_ret2
    exact ⟨_, _, rfl, b_only hb1 (only_trans (only_trans g2 ho3) ho4) hrb⟩
  subst q0
  go_wp2
  refine wp_region_any (by kernel_rfl) ?_
  change wpAny _ _ _ _ _ _ _ (World.drew _)
  have hr5 : RdU (World.drew w2) rb 1 := hr2
  have g5 : w1.grownBy (World.drew w2) (some rb) := only_drew g2
  have lr5 := hr5.lt
  clear hr2 g2 ho2
  generalize World.drew w2 = w5 at *
  refine wpAny_take (i := 1) (v := ?_) rfl (by kernel_rfl) (by kernel_rfl) (by kernel_rfl) (fun _ _ _ h => h) (Or.inl ⟨by rfl, ?_⟩) ?_
  rotate_left 1
  · (intro w; first | (go_simp; done) | (go_simp; with_reducible rfl))
  refine wpAny_take (i := 5) (v := ?_) rfl (by kernel_rfl) (by kernel_rfl) (by kernel_rfl) (fun _ _ _ h => h) (Or.inl ⟨by rfl, ?_⟩) ?_
  rotate_left 1
  · (intro w; first | (go_simp; done) | (go_simp; with_reducible rfl))
  refine wpAny_ready (rs := [0, 2]) (by kernel_rfl) (by simp) ?_
  refine AllReady.cons rfl (fun K hK => ?_) ?_
  · go_simp
    refine hK _ _ ?_
    have hr11 := hr5.alloc (.cells #[.int .i64 0, .int .i64 1, .int .i64 16, .int .i64 17] 3)
    have g11 := only_alloc g5 (.cells #[.int .i64 0, .int .i64 1, .int .i64 16, .int .i64 17] 3)
    have L11 := Blk.new w5 3 (([0, 1, 16, 17] : List Int).map (Value.int .i64)).toArray
    have lt11 := hr5.lt
    have hs11 : w5.heap.size < (w5.alloc (.cells #[.int .i64 0, .int .i64 1, .int .i64 16, .int .i64 17] 3)).heap.size := by simp
    change Blk (w5.alloc (.cells #[.int .i64 0, .int .i64 1, .int .i64 16, .int .i64 17] 3)) _ _ _ at L11
    generalize w5.heap.size = a11 at *
    generalize w5.alloc (.cells #[.int .i64 0, .int .i64 1, .int .i64 16, .int .i64 17] 3) = w11 at *
    refine wpAny_ready (rs := [2]) (by kernel_rfl) (by simp) ?_
    refine AllReady.cons rfl (fun K hK => ?_) AllReady.nil
    go_simp
    (with_reducible refine (pick_U rb 1 4 _ ?_ (by omega) (by omega)).mono ?_); (exact hr11); rintro e w12 ⟨v12, rfl, hv12, hu12, hr12, ho12⟩
    have g12 := only_trans g11 ho12
    have L12 := L11.grown ho12 (by simp; omega)
    go_wp2
    refine wpAny_ready (rs := [3, 6]) (by kernel_rfl) (by simp) ?_
    refine AllReady.cons rfl (fun K hK => ?_) ?_
    · go_simp
      refine hK _ _ ?_
      refine wpAny_ready (rs := [4, 6]) (by kernel_rfl) (by simp) ?_
      refine AllReady.cons rfl (fun K hK => ?_) ?_
      · obtain ⟨x14, hx14, _⟩ := nth_of [0, 1, 16, 17] L12 hv12 hu12
        clear L12
        go_simp
        refine hK _ _ ?_
        refine wpAny_ready (rs := [6]) (by kernel_rfl) (by simp) ?_
        refine AllReady.cons rfl (fun K hK => ?_) AllReady.nil
        go_simp
        (with_reducible refine (pick_U rb 2 18 _ ?_ (by omega) (by omega)).mono ?_); (exact hr12); rintro e w15 ⟨v15, rfl, hv15, hu15, hr15, ho15⟩
        have g15 := only_trans g12 ho15
        go_wp2
        refine wpAny_ready (rs := [7]) (by kernel_rfl) (by simp) ?_
        refine AllReady.cons rfl (fun K hK => ?_) AllReady.nil
        go_simp
        refine hK _ _ ?_
        refine wpAny_ready (rs := [8]) (by kernel_rfl) (by simp) ?_
        refine AllReady.cons rfl (fun K hK => ?_) AllReady.nil
        go_simp
        refine hK _ _ ?_
        refine wpAny_done (by kernel_rfl) ?_ _
        go_wp2
        go_ret2
        exact ⟨_, _, rfl, b_only hb1 g15 hrb⟩
      refine AllReady.cons rfl (fun K hK => ?_) AllReady.nil
      go_simp
      (with_reducible refine (pick_U rb 2 18 _ ?_ (by omega) (by omega)).mono ?_); (exact hr12); rintro e w16 ⟨v16, rfl, hv16, hu16, hr16, ho16⟩
      have g16 := only_trans g12 ho16
      have L16 := L12.grown ho16 (by simp; omega)
      go_wp2
      refine wpAny_ready (rs := [4]) (by kernel_rfl) (by simp) ?_
      refine AllReady.cons rfl (fun K hK => ?_) AllReady.nil
      obtain ⟨x17, hx17, _⟩ := nth_of [0, 1, 16, 17] L16 hv12 hu12
      clear L16
      go_simp
      refine hK _ _ ?_
      refine wpAny_ready (rs := [7]) (by kernel_rfl) (by simp) ?_
      refine AllReady.cons rfl (fun K hK => ?_) AllReady.nil
      go_simp
      refine hK _ _ ?_
      refine wpAny_ready (rs := [8]) (by kernel_rfl) (by simp) ?_
      refine AllReady.cons rfl (fun K hK => ?_) AllReady.nil
      go_simp
      refine hK _ _ ?_
      refine wpAny_done (by kernel_rfl) ?_ _
      go_wp2
      go_ret2
      exact ⟨_, _, rfl, b_only hb1 g16 hrb⟩
    refine AllReady.cons rfl (fun K hK => ?_) AllReady.nil
    go_simp
    (with_reducible refine (pick_U rb 2 18 _ ?_ (by omega) (by omega)).mono ?_); (exact hr12); rintro e w18 ⟨v18, rfl, hv18, hu18, hr18, ho18⟩
    have g18 := only_trans g12 ho18
    have L18 := L12.grown ho18 (by simp; omega)
    go_wp2
    refine wpAny_ready (rs := [3]) (by kernel_rfl) (by simp) ?_
    refine AllReady.cons rfl (fun K hK => ?_) AllReady.nil
    go_simp
    refine hK _ _ ?_
    refine wpAny_ready (rs := [4]) (by kernel_rfl) (by simp) ?_
    refine AllReady.cons rfl (fun K hK => ?_) AllReady.nil
    obtain ⟨x20, hx20, _⟩ := nth_of [0, 1, 16, 17] L18 hv12 hu12
    clear L18
    go_simp
    refine hK _ _ ?_
    refine wpAny_ready (rs := [7]) (by kernel_rfl) (by simp) ?_
    refine AllReady.cons rfl (fun K hK => ?_) AllReady.nil
    go_simp
    refine hK _ _ ?_
    refine wpAny_ready (rs := [8]) (by kernel_rfl) (by simp) ?_
    refine AllReady.cons rfl (fun K hK => ?_) AllReady.nil
    go_simp
    refine hK _ _ ?_
    refine wpAny_done (by kernel_rfl) ?_ _
    go_wp2
    go_ret2
    exact ⟨_, _, rfl, b_only hb1 g18 hrb⟩
  refine AllReady.cons rfl (fun K hK => ?_) AllReady.nil
  go_simp
  (with_reducible refine (pick_U rb 1 4 _ ?_ (by omega) (by omega)).mono ?_); (exact hr5); rintro e w21 ⟨v21, rfl, hv21, hu21, hr21, ho21⟩
  have g21 := only_trans g5 ho21
  go_wp2
  refine wpAny_ready (rs := [0, 6]) (by kernel_rfl) (by simp) ?_
  refine AllReady.cons rfl (fun K hK => ?_) ?_
  · go_simp
    refine hK _ _ ?_
    have hr22 := hr21.alloc (.cells #[.int .i64 0, .int .i64 1, .int .i64 16, .int .i64 17] 3)
    have g22 := only_alloc g21 (.cells #[.int .i64 0, .int .i64 1, .int .i64 16, .int .i64 17] 3)
    have L22 := Blk.new w21 3 (([0, 1, 16, 17] : List Int).map (Value.int .i64)).toArray
    have lt22 := hr21.lt
    have hs22 : w21.heap.size < (w21.alloc (.cells #[.int .i64 0, .int .i64 1, .int .i64 16, .int .i64 17] 3)).heap.size := by simp
    change Blk (w21.alloc (.cells #[.int .i64 0, .int .i64 1, .int .i64 16, .int .i64 17] 3)) _ _ _ at L22
    generalize w21.heap.size = a22 at *
    generalize w21.alloc (.cells #[.int .i64 0, .int .i64 1, .int .i64 16, .int .i64 17] 3) = w22 at *
    refine wpAny_ready (rs := [3, 6]) (by kernel_rfl) (by simp) ?_
    refine AllReady.cons rfl (fun K hK => ?_) ?_
    · go_simp
      refine hK _ _ ?_
      refine wpAny_ready (rs := [4, 6]) (by kernel_rfl) (by simp) ?_
      refine AllReady.cons rfl (fun K hK => ?_) ?_
      · obtain ⟨x24, hx24, _⟩ := nth_of [0, 1, 16, 17] L22 hv21 hu21
        clear L22
        go_simp
        refine hK _ _ ?_
        refine wpAny_ready (rs := [6]) (by kernel_rfl) (by simp) ?_
        refine AllReady.cons rfl (fun K hK => ?_) AllReady.nil
        go_simp
        (with_reducible refine (pick_U rb 2 18 _ ?_ (by omega) (by omega)).mono ?_); (exact hr22); rintro e w25 ⟨v25, rfl, hv25, hu25, hr25, ho25⟩
        have g25 := only_trans g22 ho25
        go_wp2
        refine wpAny_ready (rs := [7]) (by kernel_rfl) (by simp) ?_
        refine AllReady.cons rfl (fun K hK => ?_) AllReady.nil
        go_simp
        refine hK _ _ ?_
        refine wpAny_ready (rs := [8]) (by kernel_rfl) (by simp) ?_
        refine AllReady.cons rfl (fun K hK => ?_) AllReady.nil
        go_simp
        refine hK _ _ ?_
        refine wpAny_done (by kernel_rfl) ?_ _
        go_wp2
        go_ret2
        exact ⟨_, _, rfl, b_only hb1 g25 hrb⟩
      refine AllReady.cons rfl (fun K hK => ?_) AllReady.nil
      go_simp
      (with_reducible refine (pick_U rb 2 18 _ ?_ (by omega) (by omega)).mono ?_); (exact hr22); rintro e w26 ⟨v26, rfl, hv26, hu26, hr26, ho26⟩
      have g26 := only_trans g22 ho26
      have L26 := L22.grown ho26 (by simp; omega)
      go_wp2
      refine wpAny_ready (rs := [4]) (by kernel_rfl) (by simp) ?_
      refine AllReady.cons rfl (fun K hK => ?_) AllReady.nil
      obtain ⟨x27, hx27, _⟩ := nth_of [0, 1, 16, 17] L26 hv21 hu21
      clear L26
      go_simp
      refine hK _ _ ?_
      refine wpAny_ready (rs := [7]) (by kernel_rfl) (by simp) ?_
      refine AllReady.cons rfl (fun K hK => ?_) AllReady.nil
      go_simp
      refine hK _ _ ?_
      refine wpAny_ready (rs := [8]) (by kernel_rfl) (by simp) ?_
      refine AllReady.cons rfl (fun K hK => ?_) AllReady.nil
      go_simp
      refine hK _ _ ?_
      refine wpAny_done (by kernel_rfl) ?_ _
      go_wp2
      go_ret2
      exact ⟨_, _, rfl, b_only hb1 g26 hrb⟩
    refine AllReady.cons rfl (fun K hK => ?_) AllReady.nil
    go_simp
    (with_reducible refine (pick_U rb 2 18 _ ?_ (by omega) (by omega)).mono ?_); (exact hr22); rintro e w28 ⟨v28, rfl, hv28, hu28, hr28, ho28⟩
    have g28 := only_trans g22 ho28
    have L28 := L22.grown ho28 (by simp; omega)
    go_wp2
    refine wpAny_ready (rs := [3]) (by kernel_rfl) (by simp) ?_
    refine AllReady.cons rfl (fun K hK => ?_) AllReady.nil
    go_simp
    refine hK _ _ ?_
    refine wpAny_ready (rs := [4]) (by kernel_rfl) (by simp) ?_
    refine AllReady.cons rfl (fun K hK => ?_) AllReady.nil
    obtain ⟨x30, hx30, _⟩ := nth_of [0, 1, 16, 17] L28 hv21 hu21
    clear L28
    go_simp
    refine hK _ _ ?_
    refine wpAny_ready (rs := [7]) (by kernel_rfl) (by simp) ?_
    refine AllReady.cons rfl (fun K hK => ?_) AllReady.nil
    go_simp
    refine hK _ _ ?_
    refine wpAny_ready (rs := [8]) (by kernel_rfl) (by simp) ?_
    refine AllReady.cons rfl (fun K hK => ?_) AllReady.nil
    go_simp
    refine hK _ _ ?_
    refine wpAny_done (by kernel_rfl) ?_ _
    go_wp2
    go_ret2
    exact ⟨_, _, rfl, b_only hb1 g28 hrb⟩
  refine AllReady.cons rfl (fun K hK => ?_) AllReady.nil
  go_simp
  (with_reducible refine (pick_U rb 2 18 _ ?_ (by omega) (by omega)).mono ?_); (exact hr21); rintro e w31 ⟨v31, rfl, hv31, hu31, hr31, ho31⟩
  have g31 := only_trans g21 ho31
  go_wp2
  refine wpAny_ready (rs := [0]) (by kernel_rfl) (by simp) ?_
  refine AllReady.cons rfl (fun K hK => ?_) AllReady.nil
  go_simp
  refine hK _ _ ?_
  have hr32 := hr31.alloc (.cells #[.int .i64 0, .int .i64 1, .int .i64 16, .int .i64 17] 3)
  have g32 := only_alloc g31 (.cells #[.int .i64 0, .int .i64 1, .int .i64 16, .int .i64 17] 3)
  have L32 := Blk.new w31 3 (([0, 1, 16, 17] : List Int).map (Value.int .i64)).toArray
  have lt32 := hr31.lt
  have hs32 : w31.heap.size < (w31.alloc (.cells #[.int .i64 0, .int .i64 1, .int .i64 16, .int .i64 17] 3)).heap.size := by simp
  change Blk (w31.alloc (.cells #[.int .i64 0, .int .i64 1, .int .i64 16, .int .i64 17] 3)) _ _ _ at L32
  generalize w31.heap.size = a32 at *
  generalize w31.alloc (.cells #[.int .i64 0, .int .i64 1, .int .i64 16, .int .i64 17] 3) = w32 at *
  refine wpAny_ready (rs := [3]) (by kernel_rfl) (by simp) ?_
  refine AllReady.cons rfl (fun K hK => ?_) AllReady.nil
  go_simp
  refine hK _ _ ?_
  refine wpAny_ready (rs := [4]) (by kernel_rfl) (by simp) ?_
  refine AllReady.cons rfl (fun K hK => ?_) AllReady.nil
  obtain ⟨x34, hx34, _⟩ := nth_of [0, 1, 16, 17] L32 hv21 hu21
  clear L32
  go_simp
  refine hK _ _ ?_
  refine wpAny_ready (rs := [7]) (by kernel_rfl) (by simp) ?_
  refine AllReady.cons rfl (fun K hK => ?_) AllReady.nil
  go_simp
  refine hK _ _ ?_
  refine wpAny_ready (rs := [8]) (by kernel_rfl) (by simp) ?_
  refine AllReady.cons rfl (fun K hK => ?_) AllReady.nil
  go_simp
  refine hK _ _ ?_
  refine wpAny_done (by kernel_rfl) ?_ _
  go_wp2
  go_ret2
  exact ⟨_, _, rfl, b_only hb1 g32 hrb⟩
theorem DrawDriverNew_any (A : Option Addr) (n c : Nat) (w : World) (hC : Code w A n c) : Calls Try.prog 46 #[.slice A n c] w fun e w' => ∃ a b : Int, e = .returned (.tuple #[.int .i64 a, .int .i64 b]) ∧ Below w.heap.size w w' := by
  go_enter Try.func46, Try.ntmps46
  go_wp2_with fail
  (with_reducible refine (DrawPortNew_any _ _ _ _ hC).mono ?_); rintro e w1 ⟨a, b, rfl, hb1⟩; have hz1 := hb1.size; (try simp at hz1)
  go_wp2
  go_ret2
  exact ⟨_, _, rfl, (by repeat (first | (with_reducible exact b_refl _) | (with_reducible refine b_alloc ?_ _) | (with_reducible refine b_drew ?_) | (with_reducible refine b_drewN ?_ _) | (with_reducible refine b_set ?_ ?_ _) | (with_reducible refine b_trans ?_ (by assumption)) | (with_reducible refine b_only ?_ (by assumption) ?_) | omega | (focus (simp; done)) | (focus (simp; omega))))⟩
end Go.Proofs.Ytpbhidlglcmlnaa
