/-
  THE DRAW OF AN INTERRUPT's CAUSES: DrawIrqOf: three numbers and a truth (all orders of the region that draws).
-/
import Derived.Test.YtflimlalccmdnaaReadU
set_option linter.unusedVariables false
set_option linter.unusedSimpArgs false
namespace Go.Proofs.Ytflimlalccmdnaa
open Go.ChangeShapes Go.WideShapes Go.ChangeAt Go.RowKit

set_option maxRecDepth 20000 in
set_option maxHeartbeats 16000000 in
theorem DrawIrqOf_any (A : Option Addr) (n c : Nat) (w : World) (hC : Code w A n c) : Calls Try.prog 13 #[.slice A n c] w fun e w' => ∃ (a b : Int) (m : Bool) (d : Int), e = .returned (.tuple #[.int .i64 a, .int .i64 b, .bool m, .int .i64 d]) ∧ Below w.heap.size w w' := by
  go_enter Try.func13, Try.ntmps13
  go_wp2_with fail
  (with_reducible refine (open_U _ _ _ _ hC).mono ?_); rintro e w1 ⟨rb, rfl, hrb, hr1, hb1⟩
  go_wp2_with fail
  (with_reducible refine (pick_U rb (0) 11 _ ?_ (by omega) (by omega)).mono ?_); (exact (by repeat (first | (with_reducible refine RdU.up (by assumption) (by omega)) | (with_reducible refine Rd.up (by assumption) (by omega)) | (with_reducible refine RdU.up (RdB.u (by assumption)) (by omega)) | (with_reducible refine RdU.drew ?_) | (with_reducible refine RdU.drewN ?_ _) | (with_reducible refine RdU.alloc ?_ _) | (with_reducible refine RdU.setCell ?_ ?_ _) | (with_reducible refine RdU.below ?_ (by assumption)) | omega | (focus (simp; done)) | (focus (simp; omega))))); rintro e w2 ⟨v2, rfl, hv2, hu2, hr2, ho2⟩; have hz2 := ho2.size; (try simp at hz2)
  have hl1 := hr1.lt
  obtain ⟨st, hst, _⟩ := nth_of [0, 1, 2, 3, 5, 9, 32, 33, 96, 97, 35] ((Blk.new _ _ _).grown ho2 (by simp; omega)) hv2 hu2
  have g2 : w1.grownBy w2 (some rb) := only_trans (only_alloc (only_refl _ _) _) ho2
  go_wp2_with fail
  (with_reducible refine (pick_U rb (1) 16 _ ?_ (by omega) (by omega)).mono ?_); (exact (by repeat (first | (with_reducible refine RdU.up (by assumption) (by omega)) | (with_reducible refine Rd.up (by assumption) (by omega)) | (with_reducible refine RdU.up (RdB.u (by assumption)) (by omega)) | (with_reducible refine RdU.drew ?_) | (with_reducible refine RdU.drewN ?_ _) | (with_reducible refine RdU.alloc ?_ _) | (with_reducible refine RdU.setCell ?_ ?_ _) | (with_reducible refine RdU.below ?_ (by assumption)) | omega | (focus (simp; done)) | (focus (simp; omega))))); rintro e w3 ⟨v3, rfl, hv3, hu3, hr3, ho3⟩; have hz3 := ho3.size; (try simp at hz3)
  have g3 := only_trans g2 ho3
  clear hst ho2 hr1 hr2 g2 ho3 hv2 hu2
  by_cases q0 : v3 = 0
  case' neg =>
    have z0 : (v3 == 0) = false := by simpa using q0
    clear q0
    go_wp2_with fail
    (with_reducible refine (pick_U rb (2) 3 _ ?_ (by omega) (by omega)).mono ?_); (exact (by repeat (first | (with_reducible refine RdU.up (by assumption) (by omega)) | (with_reducible refine Rd.up (by assumption) (by omega)) | (with_reducible refine RdU.up (RdB.u (by assumption)) (by omega)) | (with_reducible refine RdU.drew ?_) | (with_reducible refine RdU.drewN ?_ _) | (with_reducible refine RdU.alloc ?_ _) | (with_reducible refine RdU.setCell ?_ ?_ _) | (with_reducible refine RdU.below ?_ (by assumption)) | omega | (focus (simp; done)) | (focus (simp; omega))))); rintro e w4 ⟨v4, rfl, hv4, hu4, hr4, ho4⟩; have hz4 := ho4.size; (try simp at hz4)
    go_wp2_with fail
    (with_reducible refine (pick_U rb (3) 2 _ ?_ (by omega) (by omega)).mono ?_); (exact (by repeat (first | (with_reducible refine RdU.up (by assumption) (by omega)) | (with_reducible refine Rd.up (by assumption) (by omega)) | (with_reducible refine RdU.up (RdB.u (by assumption)) (by omega)) | (with_reducible refine RdU.drew ?_) | (with_reducible refine RdU.drewN ?_ _) | (with_reducible refine RdU.alloc ?_ _) | (with_reducible refine RdU.setCell ?_ ?_ _) | (with_reducible refine RdU.below ?_ (by assumption)) | omega | (focus (simp; done)) | (focus (simp; omega))))); rintro e w5 ⟨v5, rfl, hv5, hu5, hr5, ho5⟩; have hz5 := ho5.size; (try simp at hz5)
    go_wp2_with fail
    (with_reducible refine (pick_U rb (4) 16 _ ?_ (by omega) (by omega)).mono ?_); (exact (by repeat (first | (with_reducible refine RdU.up (by assumption) (by omega)) | (with_reducible refine Rd.up (by assumption) (by omega)) | (with_reducible refine RdU.up (RdB.u (by assumption)) (by omega)) | (with_reducible refine RdU.drew ?_) | (with_reducible refine RdU.drewN ?_ _) | (with_reducible refine RdU.alloc ?_ _) | (with_reducible refine RdU.setCell ?_ ?_ _) | (with_reducible refine RdU.below ?_ (by assumption)) | omega | (focus (simp; done)) | (focus (simp; omega))))); rintro e w6 ⟨v6, rfl, hv6, hu6, hr6, ho6⟩; have hz6 := ho6.size; (try simp at hz6)
    go_wp2
    refine bodyPost_ret (results_tmp4 rfl _ _ _) rfl ?_
    exact ⟨_, _, _, _, rfl, b_only hb1 (only_trans (only_trans (only_trans g3 ho4) ho5) ho6) hrb⟩
  subst q0
  go_wp2
  refine wp_region_any (by kernel_rfl) ?_
  change wpAny _ _ _ _ _ _ _ (World.drew _)
  have hr7 : RdU (World.drew w3) rb 2 := hr3
  have g7 : w1.grownBy (World.drew w3) (some rb) := only_drew g3
  have lr7 := hr7.lt
  clear hr3 g3
  generalize World.drew w3 = w7 at *
  refine wpAny_take (i := 1) (v := ?_) rfl (by kernel_rfl) (by kernel_rfl) (by kernel_rfl) (fun _ _ _ h => h) (Or.inl ⟨by rfl, ?_⟩) ?_
  rotate_left 1
  · (intro w; first | (go_simp; done) | (go_simp; with_reducible rfl))
  refine wpAny_take (i := 5) (v := ?_) rfl (by kernel_rfl) (by kernel_rfl) (by kernel_rfl) (fun _ _ _ h => h) (Or.inl ⟨by rfl, ?_⟩) ?_
  rotate_left 1
  · (intro w; first | (go_simp; done) | (go_simp; with_reducible rfl))
  refine wpAny_take (i := 8) (v := ?_) rfl (by kernel_rfl) (by kernel_rfl) (by kernel_rfl) (fun _ _ _ h => h) (Or.inl ⟨by rfl, ?_⟩) ?_
  rotate_left 1
  · (intro w; first | (go_simp; done) | (go_simp; with_reducible rfl))
  refine wpAny_take (i := 11) (v := ?_) rfl (by kernel_rfl) (by kernel_rfl) (by kernel_rfl) (fun _ _ _ h => h) (Or.inl ⟨by rfl, ?_⟩) ?_
  rotate_left 1
  · (intro w; first | (go_simp; done) | (go_simp; with_reducible rfl))
  refine wpAny_ready (rs := [0, 2]) (by kernel_rfl) (by simp) ?_
  refine AllReady.cons rfl (fun K hK => ?_) ?_
  · go_simp
    refine hK _ _ ?_
    have hr11 := hr7.alloc (.cells #[.int .i64 (-1), .int .i64 127, .int .i64 128] 3)
    have g11 := only_alloc g7 (.cells #[.int .i64 (-1), .int .i64 127, .int .i64 128] 3)
    have L11 := Blk.new w7 3 (([-1, 127, 128] : List Int).map (Value.int .i64)).toArray
    have lt11 := hr7.lt
    have hs11 : w7.heap.size < (w7.alloc (.cells #[.int .i64 (-1), .int .i64 127, .int .i64 128] 3)).heap.size := by simp
    change Blk (w7.alloc (.cells #[.int .i64 (-1), .int .i64 127, .int .i64 128] 3)) _ _ _ at L11
    generalize w7.heap.size = a11 at *
    generalize w7.alloc (.cells #[.int .i64 (-1), .int .i64 127, .int .i64 128] 3) = w11 at *
    refine wpAny_ready (rs := [2]) (by kernel_rfl) (by simp) ?_
    refine AllReady.cons rfl (fun K hK => ?_) AllReady.nil
    go_simp
    (with_reducible refine (pick_U rb 2 3 _ ?_ (by omega) (by omega)).mono ?_); (exact hr11); rintro e w12 ⟨v12, rfl, hv12, hu12, hr12, ho12⟩
    have g12 := only_trans g11 ho12
    have L12 := L11.grown ho12 (by simp; omega)
    go_wp2
    refine wpAny_ready (rs := [3, 6]) (by kernel_rfl) (by simp) ?_
    refine AllReady.cons rfl (fun K hK => ?_) ?_
    · go_simp
      refine hK _ _ ?_
      refine wpAny_ready (rs := [4, 6]) (by kernel_rfl) (by simp) ?_
      refine AllReady.cons rfl (fun K hK => ?_) ?_
      · obtain ⟨x14, hx14, _⟩ := nth_of [-1, 127, 128] L12 hv12 hu12
        clear L12
        go_simp
        refine hK _ _ ?_
        refine wpAny_ready (rs := [6]) (by kernel_rfl) (by simp) ?_
        refine AllReady.cons rfl (fun K hK => ?_) AllReady.nil
        go_simp
        (with_reducible refine (pick_U rb 3 5 _ ?_ (by omega) (by omega)).mono ?_); (exact hr12); rintro e w15 ⟨v15, rfl, hv15, hu15, hr15, ho15⟩
        have g15 := only_trans g12 ho15
        go_wp2
        refine wpAny_take (i := 7) (v := ?_) rfl (by kernel_rfl) (by kernel_rfl) (by kernel_rfl) (fun _ _ _ h => h) (Or.inl ⟨by rfl, ?_⟩) ?_
        rotate_left 1
        · (intro w; first | (go_simp; done) | (go_simp; with_reducible rfl))
        refine wpAny_ready (rs := [9]) (by kernel_rfl) (by simp) ?_
        refine AllReady.cons rfl (fun K hK => ?_) AllReady.nil
        go_simp
        (with_reducible refine (pick_U rb 4 2 _ ?_ (by omega) (by omega)).mono ?_); (exact hr15); rintro e w16 ⟨v16, rfl, hv16, hu16, hr16, ho16⟩
        have g16 := only_trans g15 ho16
        go_wp2
        refine wpAny_take (i := 10) (v := ?_) rfl (by kernel_rfl) (by kernel_rfl) (by kernel_rfl) (fun _ _ _ h => h) (Or.inl ⟨by rfl, ?_⟩) ?_
        rotate_left 1
        · (intro w; first | (go_simp; done) | (go_simp; with_reducible rfl))
        refine wpAny_ready (rs := [12]) (by kernel_rfl) (by simp) ?_
        refine AllReady.cons rfl (fun K hK => ?_) AllReady.nil
        go_simp
        (with_reducible refine (pick_U rb 5 18 _ ?_ (by omega) (by omega)).mono ?_); (exact hr16); rintro e w17 ⟨v17, rfl, hv17, hu17, hr17, ho17⟩
        have g17 := only_trans g16 ho17
        go_wp2
        refine wpAny_take (i := 13) (v := ?_) rfl (by kernel_rfl) (by kernel_rfl) (by kernel_rfl) (fun _ _ _ h => h) (Or.inl ⟨by rfl, ?_⟩) ?_
        rotate_left 1
        · (intro w; first | (go_simp; done) | (go_simp; with_reducible rfl))
        refine wpAny_ready (rs := [14]) (by kernel_rfl) (by simp) ?_
        refine AllReady.cons rfl (fun K hK => ?_) AllReady.nil
        go_simp
        refine hK _ _ ?_
        refine wpAny_ready (rs := [15]) (by kernel_rfl) (by simp) ?_
        refine AllReady.cons rfl (fun K hK => ?_) AllReady.nil
        go_simp
        refine hK _ _ ?_
        refine wpAny_ready (rs := [16]) (by kernel_rfl) (by simp) ?_
        refine AllReady.cons rfl (fun K hK => ?_) AllReady.nil
        go_simp
        refine hK _ _ ?_
        refine wpAny_ready (rs := [17]) (by kernel_rfl) (by simp) ?_
        refine AllReady.cons rfl (fun K hK => ?_) AllReady.nil
        go_simp
        refine hK _ _ ?_
        refine wpAny_done (by kernel_rfl) ?_ _
        go_wp2
        refine bodyPost_ret (results_tmp4 rfl _ _ _) rfl ?_
        exact ⟨_, _, _, _, rfl, b_only hb1 g17 hrb⟩
      refine AllReady.cons rfl (fun K hK => ?_) AllReady.nil
      go_simp
      (with_reducible refine (pick_U rb 3 5 _ ?_ (by omega) (by omega)).mono ?_); (exact hr12); rintro e w18 ⟨v18, rfl, hv18, hu18, hr18, ho18⟩
      have g18 := only_trans g12 ho18
      have L18 := L12.grown ho18 (by simp; omega)
      go_wp2
      refine wpAny_take (i := 7) (v := ?_) rfl (by kernel_rfl) (by kernel_rfl) (by kernel_rfl) (fun _ _ _ h => h) (Or.inl ⟨by rfl, ?_⟩) ?_
      rotate_left 1
      · (intro w; first | (go_simp; done) | (go_simp; with_reducible rfl))
      refine wpAny_ready (rs := [4, 9]) (by kernel_rfl) (by simp) ?_
      refine AllReady.cons rfl (fun K hK => ?_) ?_
      · obtain ⟨x19, hx19, _⟩ := nth_of [-1, 127, 128] L18 hv12 hu12
        clear L18
        go_simp
        refine hK _ _ ?_
        refine wpAny_ready (rs := [9]) (by kernel_rfl) (by simp) ?_
        refine AllReady.cons rfl (fun K hK => ?_) AllReady.nil
        go_simp
        (with_reducible refine (pick_U rb 4 2 _ ?_ (by omega) (by omega)).mono ?_); (exact hr18); rintro e w20 ⟨v20, rfl, hv20, hu20, hr20, ho20⟩
        have g20 := only_trans g18 ho20
        go_wp2
        refine wpAny_take (i := 10) (v := ?_) rfl (by kernel_rfl) (by kernel_rfl) (by kernel_rfl) (fun _ _ _ h => h) (Or.inl ⟨by rfl, ?_⟩) ?_
        rotate_left 1
        · (intro w; first | (go_simp; done) | (go_simp; with_reducible rfl))
        refine wpAny_ready (rs := [12]) (by kernel_rfl) (by simp) ?_
        refine AllReady.cons rfl (fun K hK => ?_) AllReady.nil
        go_simp
        (with_reducible refine (pick_U rb 5 18 _ ?_ (by omega) (by omega)).mono ?_); (exact hr20); rintro e w21 ⟨v21, rfl, hv21, hu21, hr21, ho21⟩
        have g21 := only_trans g20 ho21
        go_wp2
        refine wpAny_take (i := 13) (v := ?_) rfl (by kernel_rfl) (by kernel_rfl) (by kernel_rfl) (fun _ _ _ h => h) (Or.inl ⟨by rfl, ?_⟩) ?_
        rotate_left 1
        · (intro w; first | (go_simp; done) | (go_simp; with_reducible rfl))
        refine wpAny_ready (rs := [14]) (by kernel_rfl) (by simp) ?_
        refine AllReady.cons rfl (fun K hK => ?_) AllReady.nil
        go_simp
        refine hK _ _ ?_
        refine wpAny_ready (rs := [15]) (by kernel_rfl) (by simp) ?_
        refine AllReady.cons rfl (fun K hK => ?_) AllReady.nil
        go_simp
        refine hK _ _ ?_
        refine wpAny_ready (rs := [16]) (by kernel_rfl) (by simp) ?_
        refine AllReady.cons rfl (fun K hK => ?_) AllReady.nil
        go_simp
        refine hK _ _ ?_
        refine wpAny_ready (rs := [17]) (by kernel_rfl) (by simp) ?_
        refine AllReady.cons rfl (fun K hK => ?_) AllReady.nil
        go_simp
        refine hK _ _ ?_
        refine wpAny_done (by kernel_rfl) ?_ _
        go_wp2
        refine bodyPost_ret (results_tmp4 rfl _ _ _) rfl ?_
        exact ⟨_, _, _, _, rfl, b_only hb1 g21 hrb⟩
      refine AllReady.cons rfl (fun K hK => ?_) AllReady.nil
      go_simp
      (with_reducible refine (pick_U rb 4 2 _ ?_ (by omega) (by omega)).mono ?_); (exact hr18); rintro e w22 ⟨v22, rfl, hv22, hu22, hr22, ho22⟩
      have g22 := only_trans g18 ho22
      have L22 := L18.grown ho22 (by simp; omega)
      go_wp2
      refine wpAny_take (i := 10) (v := ?_) rfl (by kernel_rfl) (by kernel_rfl) (by kernel_rfl) (fun _ _ _ h => h) (Or.inl ⟨by rfl, ?_⟩) ?_
      rotate_left 1
      · (intro w; first | (go_simp; done) | (go_simp; with_reducible rfl))
      refine wpAny_ready (rs := [4, 12]) (by kernel_rfl) (by simp) ?_
      refine AllReady.cons rfl (fun K hK => ?_) ?_
      · obtain ⟨x23, hx23, _⟩ := nth_of [-1, 127, 128] L22 hv12 hu12
        clear L22
        go_simp
        refine hK _ _ ?_
        refine wpAny_ready (rs := [12]) (by kernel_rfl) (by simp) ?_
        refine AllReady.cons rfl (fun K hK => ?_) AllReady.nil
        go_simp
        (with_reducible refine (pick_U rb 5 18 _ ?_ (by omega) (by omega)).mono ?_); (exact hr22); rintro e w24 ⟨v24, rfl, hv24, hu24, hr24, ho24⟩
        have g24 := only_trans g22 ho24
        go_wp2
        refine wpAny_take (i := 13) (v := ?_) rfl (by kernel_rfl) (by kernel_rfl) (by kernel_rfl) (fun _ _ _ h => h) (Or.inl ⟨by rfl, ?_⟩) ?_
        rotate_left 1
        · (intro w; first | (go_simp; done) | (go_simp; with_reducible rfl))
        refine wpAny_ready (rs := [14]) (by kernel_rfl) (by simp) ?_
        refine AllReady.cons rfl (fun K hK => ?_) AllReady.nil
        go_simp
        refine hK _ _ ?_
        refine wpAny_ready (rs := [15]) (by kernel_rfl) (by simp) ?_
        refine AllReady.cons rfl (fun K hK => ?_) AllReady.nil
        go_simp
        refine hK _ _ ?_
        refine wpAny_ready (rs := [16]) (by kernel_rfl) (by simp) ?_
        refine AllReady.cons rfl (fun K hK => ?_) AllReady.nil
        go_simp
        refine hK _ _ ?_
        refine wpAny_ready (rs := [17]) (by kernel_rfl) (by simp) ?_
        refine AllReady.cons rfl (fun K hK => ?_) AllReady.nil
        go_simp
        refine hK _ _ ?_
        refine wpAny_done (by kernel_rfl) ?_ _
        go_wp2
        refine bodyPost_ret (results_tmp4 rfl _ _ _) rfl ?_
        exact ⟨_, _, _, _, rfl, b_only hb1 g24 hrb⟩
      refine AllReady.cons rfl (fun K hK => ?_) AllReady.nil
      go_simp
      (with_reducible refine (pick_U rb 5 18 _ ?_ (by omega) (by omega)).mono ?_); (exact hr22); rintro e w25 ⟨v25, rfl, hv25, hu25, hr25, ho25⟩
      have g25 := only_trans g22 ho25
      have L25 := L22.grown ho25 (by simp; omega)
      go_wp2
      refine wpAny_take (i := 13) (v := ?_) rfl (by kernel_rfl) (by kernel_rfl) (by kernel_rfl) (fun _ _ _ h => h) (Or.inl ⟨by rfl, ?_⟩) ?_
      rotate_left 1
      · (intro w; first | (go_simp; done) | (go_simp; with_reducible rfl))
      refine wpAny_ready (rs := [4]) (by kernel_rfl) (by simp) ?_
      refine AllReady.cons rfl (fun K hK => ?_) AllReady.nil
      obtain ⟨x26, hx26, _⟩ := nth_of [-1, 127, 128] L25 hv12 hu12
      clear L25
      go_simp
      refine hK _ _ ?_
      refine wpAny_ready (rs := [14]) (by kernel_rfl) (by simp) ?_
      refine AllReady.cons rfl (fun K hK => ?_) AllReady.nil
      go_simp
      refine hK _ _ ?_
      refine wpAny_ready (rs := [15]) (by kernel_rfl) (by simp) ?_
      refine AllReady.cons rfl (fun K hK => ?_) AllReady.nil
      go_simp
      refine hK _ _ ?_
      refine wpAny_ready (rs := [16]) (by kernel_rfl) (by simp) ?_
      refine AllReady.cons rfl (fun K hK => ?_) AllReady.nil
      go_simp
      refine hK _ _ ?_
      refine wpAny_ready (rs := [17]) (by kernel_rfl) (by simp) ?_
      refine AllReady.cons rfl (fun K hK => ?_) AllReady.nil
      go_simp
      refine hK _ _ ?_
      refine wpAny_done (by kernel_rfl) ?_ _
      go_wp2
      refine bodyPost_ret (results_tmp4 rfl _ _ _) rfl ?_
      exact ⟨_, _, _, _, rfl, b_only hb1 g25 hrb⟩
    refine AllReady.cons rfl (fun K hK => ?_) AllReady.nil
    go_simp
    (with_reducible refine (pick_U rb 3 5 _ ?_ (by omega) (by omega)).mono ?_); (exact hr12); rintro e w27 ⟨v27, rfl, hv27, hu27, hr27, ho27⟩
    have g27 := only_trans g12 ho27
    have L27 := L12.grown ho27 (by simp; omega)
    go_wp2
    refine wpAny_take (i := 7) (v := ?_) rfl (by kernel_rfl) (by kernel_rfl) (by kernel_rfl) (fun _ _ _ h => h) (Or.inl ⟨by rfl, ?_⟩) ?_
    rotate_left 1
    · (intro w; first | (go_simp; done) | (go_simp; with_reducible rfl))
    refine wpAny_ready (rs := [3, 9]) (by kernel_rfl) (by simp) ?_
    refine AllReady.cons rfl (fun K hK => ?_) ?_
    · go_simp
      refine hK _ _ ?_
      refine wpAny_ready (rs := [4, 9]) (by kernel_rfl) (by simp) ?_
      refine AllReady.cons rfl (fun K hK => ?_) ?_
      · obtain ⟨x29, hx29, _⟩ := nth_of [-1, 127, 128] L27 hv12 hu12
        clear L27
        go_simp
        refine hK _ _ ?_
        refine wpAny_ready (rs := [9]) (by kernel_rfl) (by simp) ?_
        refine AllReady.cons rfl (fun K hK => ?_) AllReady.nil
        go_simp
        (with_reducible refine (pick_U rb 4 2 _ ?_ (by omega) (by omega)).mono ?_); (exact hr27); rintro e w30 ⟨v30, rfl, hv30, hu30, hr30, ho30⟩
        have g30 := only_trans g27 ho30
        go_wp2
        refine wpAny_take (i := 10) (v := ?_) rfl (by kernel_rfl) (by kernel_rfl) (by kernel_rfl) (fun _ _ _ h => h) (Or.inl ⟨by rfl, ?_⟩) ?_
        rotate_left 1
        · (intro w; first | (go_simp; done) | (go_simp; with_reducible rfl))
        refine wpAny_ready (rs := [12]) (by kernel_rfl) (by simp) ?_
        refine AllReady.cons rfl (fun K hK => ?_) AllReady.nil
        go_simp
        (with_reducible refine (pick_U rb 5 18 _ ?_ (by omega) (by omega)).mono ?_); (exact hr30); rintro e w31 ⟨v31, rfl, hv31, hu31, hr31, ho31⟩
        have g31 := only_trans g30 ho31
        go_wp2
        refine wpAny_take (i := 13) (v := ?_) rfl (by kernel_rfl) (by kernel_rfl) (by kernel_rfl) (fun _ _ _ h => h) (Or.inl ⟨by rfl, ?_⟩) ?_
        rotate_left 1
        · (intro w; first | (go_simp; done) | (go_simp; with_reducible rfl))
        refine wpAny_ready (rs := [14]) (by kernel_rfl) (by simp) ?_
        refine AllReady.cons rfl (fun K hK => ?_) AllReady.nil
        go_simp
        refine hK _ _ ?_
        refine wpAny_ready (rs := [15]) (by kernel_rfl) (by simp) ?_
        refine AllReady.cons rfl (fun K hK => ?_) AllReady.nil
        go_simp
        refine hK _ _ ?_
        refine wpAny_ready (rs := [16]) (by kernel_rfl) (by simp) ?_
        refine AllReady.cons rfl (fun K hK => ?_) AllReady.nil
        go_simp
        refine hK _ _ ?_
        refine wpAny_ready (rs := [17]) (by kernel_rfl) (by simp) ?_
        refine AllReady.cons rfl (fun K hK => ?_) AllReady.nil
        go_simp
        refine hK _ _ ?_
        refine wpAny_done (by kernel_rfl) ?_ _
        go_wp2
        refine bodyPost_ret (results_tmp4 rfl _ _ _) rfl ?_
        exact ⟨_, _, _, _, rfl, b_only hb1 g31 hrb⟩
      refine AllReady.cons rfl (fun K hK => ?_) AllReady.nil
      go_simp
      (with_reducible refine (pick_U rb 4 2 _ ?_ (by omega) (by omega)).mono ?_); (exact hr27); rintro e w32 ⟨v32, rfl, hv32, hu32, hr32, ho32⟩
      have g32 := only_trans g27 ho32
      have L32 := L27.grown ho32 (by simp; omega)
      go_wp2
      refine wpAny_take (i := 10) (v := ?_) rfl (by kernel_rfl) (by kernel_rfl) (by kernel_rfl) (fun _ _ _ h => h) (Or.inl ⟨by rfl, ?_⟩) ?_
      rotate_left 1
      · (intro w; first | (go_simp; done) | (go_simp; with_reducible rfl))
      refine wpAny_ready (rs := [4, 12]) (by kernel_rfl) (by simp) ?_
      refine AllReady.cons rfl (fun K hK => ?_) ?_
      · obtain ⟨x33, hx33, _⟩ := nth_of [-1, 127, 128] L32 hv12 hu12
        clear L32
        go_simp
        refine hK _ _ ?_
        refine wpAny_ready (rs := [12]) (by kernel_rfl) (by simp) ?_
        refine AllReady.cons rfl (fun K hK => ?_) AllReady.nil
        go_simp
        (with_reducible refine (pick_U rb 5 18 _ ?_ (by omega) (by omega)).mono ?_); (exact hr32); rintro e w34 ⟨v34, rfl, hv34, hu34, hr34, ho34⟩
        have g34 := only_trans g32 ho34
        go_wp2
        refine wpAny_take (i := 13) (v := ?_) rfl (by kernel_rfl) (by kernel_rfl) (by kernel_rfl) (fun _ _ _ h => h) (Or.inl ⟨by rfl, ?_⟩) ?_
        rotate_left 1
        · (intro w; first | (go_simp; done) | (go_simp; with_reducible rfl))
        refine wpAny_ready (rs := [14]) (by kernel_rfl) (by simp) ?_
        refine AllReady.cons rfl (fun K hK => ?_) AllReady.nil
        go_simp
        refine hK _ _ ?_
        refine wpAny_ready (rs := [15]) (by kernel_rfl) (by simp) ?_
        refine AllReady.cons rfl (fun K hK => ?_) AllReady.nil
        go_simp
        refine hK _ _ ?_
        refine wpAny_ready (rs := [16]) (by kernel_rfl) (by simp) ?_
        refine AllReady.cons rfl (fun K hK => ?_) AllReady.nil
        go_simp
        refine hK _ _ ?_
        refine wpAny_ready (rs := [17]) (by kernel_rfl) (by simp) ?_
        refine AllReady.cons rfl (fun K hK => ?_) AllReady.nil
        go_simp
        refine hK _ _ ?_
        refine wpAny_done (by kernel_rfl) ?_ _
        go_wp2
        refine bodyPost_ret (results_tmp4 rfl _ _ _) rfl ?_
        exact ⟨_, _, _, _, rfl, b_only hb1 g34 hrb⟩
      refine AllReady.cons rfl (fun K hK => ?_) AllReady.nil
      go_simp
      (with_reducible refine (pick_U rb 5 18 _ ?_ (by omega) (by omega)).mono ?_); (exact hr32); rintro e w35 ⟨v35, rfl, hv35, hu35, hr35, ho35⟩
      have g35 := only_trans g32 ho35
      have L35 := L32.grown ho35 (by simp; omega)
      go_wp2
      refine wpAny_take (i := 13) (v := ?_) rfl (by kernel_rfl) (by kernel_rfl) (by kernel_rfl) (fun _ _ _ h => h) (Or.inl ⟨by rfl, ?_⟩) ?_
      rotate_left 1
      · (intro w; first | (go_simp; done) | (go_simp; with_reducible rfl))
      refine wpAny_ready (rs := [4]) (by kernel_rfl) (by simp) ?_
      refine AllReady.cons rfl (fun K hK => ?_) AllReady.nil
      obtain ⟨x36, hx36, _⟩ := nth_of [-1, 127, 128] L35 hv12 hu12
      clear L35
      go_simp
      refine hK _ _ ?_
      refine wpAny_ready (rs := [14]) (by kernel_rfl) (by simp) ?_
      refine AllReady.cons rfl (fun K hK => ?_) AllReady.nil
      go_simp
      refine hK _ _ ?_
      refine wpAny_ready (rs := [15]) (by kernel_rfl) (by simp) ?_
      refine AllReady.cons rfl (fun K hK => ?_) AllReady.nil
      go_simp
      refine hK _ _ ?_
      refine wpAny_ready (rs := [16]) (by kernel_rfl) (by simp) ?_
      refine AllReady.cons rfl (fun K hK => ?_) AllReady.nil
      go_simp
      refine hK _ _ ?_
      refine wpAny_ready (rs := [17]) (by kernel_rfl) (by simp) ?_
      refine AllReady.cons rfl (fun K hK => ?_) AllReady.nil
      go_simp
      refine hK _ _ ?_
      refine wpAny_done (by kernel_rfl) ?_ _
      go_wp2
      refine bodyPost_ret (results_tmp4 rfl _ _ _) rfl ?_
      exact ⟨_, _, _, _, rfl, b_only hb1 g35 hrb⟩
    refine AllReady.cons rfl (fun K hK => ?_) AllReady.nil
    go_simp
    (with_reducible refine (pick_U rb 4 2 _ ?_ (by omega) (by omega)).mono ?_); (exact hr27); rintro e w37 ⟨v37, rfl, hv37, hu37, hr37, ho37⟩
    have g37 := only_trans g27 ho37
    have L37 := L27.grown ho37 (by simp; omega)
    go_wp2
    refine wpAny_take (i := 10) (v := ?_) rfl (by kernel_rfl) (by kernel_rfl) (by kernel_rfl) (fun _ _ _ h => h) (Or.inl ⟨by rfl, ?_⟩) ?_
    rotate_left 1
    · (intro w; first | (go_simp; done) | (go_simp; with_reducible rfl))
    refine wpAny_ready (rs := [3, 12]) (by kernel_rfl) (by simp) ?_
    refine AllReady.cons rfl (fun K hK => ?_) ?_
    · go_simp
      refine hK _ _ ?_
      refine wpAny_ready (rs := [4, 12]) (by kernel_rfl) (by simp) ?_
      refine AllReady.cons rfl (fun K hK => ?_) ?_
      · obtain ⟨x39, hx39, _⟩ := nth_of [-1, 127, 128] L37 hv12 hu12
        clear L37
        go_simp
        refine hK _ _ ?_
        refine wpAny_ready (rs := [12]) (by kernel_rfl) (by simp) ?_
        refine AllReady.cons rfl (fun K hK => ?_) AllReady.nil
        go_simp
        (with_reducible refine (pick_U rb 5 18 _ ?_ (by omega) (by omega)).mono ?_); (exact hr37); rintro e w40 ⟨v40, rfl, hv40, hu40, hr40, ho40⟩
        have g40 := only_trans g37 ho40
        go_wp2
        refine wpAny_take (i := 13) (v := ?_) rfl (by kernel_rfl) (by kernel_rfl) (by kernel_rfl) (fun _ _ _ h => h) (Or.inl ⟨by rfl, ?_⟩) ?_
        rotate_left 1
        · (intro w; first | (go_simp; done) | (go_simp; with_reducible rfl))
        refine wpAny_ready (rs := [14]) (by kernel_rfl) (by simp) ?_
        refine AllReady.cons rfl (fun K hK => ?_) AllReady.nil
        go_simp
        refine hK _ _ ?_
        refine wpAny_ready (rs := [15]) (by kernel_rfl) (by simp) ?_
        refine AllReady.cons rfl (fun K hK => ?_) AllReady.nil
        go_simp
        refine hK _ _ ?_
        refine wpAny_ready (rs := [16]) (by kernel_rfl) (by simp) ?_
        refine AllReady.cons rfl (fun K hK => ?_) AllReady.nil
        go_simp
        refine hK _ _ ?_
        refine wpAny_ready (rs := [17]) (by kernel_rfl) (by simp) ?_
        refine AllReady.cons rfl (fun K hK => ?_) AllReady.nil
        go_simp
        refine hK _ _ ?_
        refine wpAny_done (by kernel_rfl) ?_ _
        go_wp2
        refine bodyPost_ret (results_tmp4 rfl _ _ _) rfl ?_
        exact ⟨_, _, _, _, rfl, b_only hb1 g40 hrb⟩
      refine AllReady.cons rfl (fun K hK => ?_) AllReady.nil
      go_simp
      (with_reducible refine (pick_U rb 5 18 _ ?_ (by omega) (by omega)).mono ?_); (exact hr37); rintro e w41 ⟨v41, rfl, hv41, hu41, hr41, ho41⟩
      have g41 := only_trans g37 ho41
      have L41 := L37.grown ho41 (by simp; omega)
      go_wp2
      refine wpAny_take (i := 13) (v := ?_) rfl (by kernel_rfl) (by kernel_rfl) (by kernel_rfl) (fun _ _ _ h => h) (Or.inl ⟨by rfl, ?_⟩) ?_
      rotate_left 1
      · (intro w; first | (go_simp; done) | (go_simp; with_reducible rfl))
      refine wpAny_ready (rs := [4]) (by kernel_rfl) (by simp) ?_
      refine AllReady.cons rfl (fun K hK => ?_) AllReady.nil
      obtain ⟨x42, hx42, _⟩ := nth_of [-1, 127, 128] L41 hv12 hu12
      clear L41
      go_simp
      refine hK _ _ ?_
      refine wpAny_ready (rs := [14]) (by kernel_rfl) (by simp) ?_
      refine AllReady.cons rfl (fun K hK => ?_) AllReady.nil
      go_simp
      refine hK _ _ ?_
      refine wpAny_ready (rs := [15]) (by kernel_rfl) (by simp) ?_
      refine AllReady.cons rfl (fun K hK => ?_) AllReady.nil
      go_simp
      refine hK _ _ ?_
      refine wpAny_ready (rs := [16]) (by kernel_rfl) (by simp) ?_
      refine AllReady.cons rfl (fun K hK => ?_) AllReady.nil
      go_simp
      refine hK _ _ ?_
      refine wpAny_ready (rs := [17]) (by kernel_rfl) (by simp) ?_
      refine AllReady.cons rfl (fun K hK => ?_) AllReady.nil
      go_simp
      refine hK _ _ ?_
      refine wpAny_done (by kernel_rfl) ?_ _
      go_wp2
      refine bodyPost_ret (results_tmp4 rfl _ _ _) rfl ?_
      exact ⟨_, _, _, _, rfl, b_only hb1 g41 hrb⟩
    refine AllReady.cons rfl (fun K hK => ?_) AllReady.nil
    go_simp
    (with_reducible refine (pick_U rb 5 18 _ ?_ (by omega) (by omega)).mono ?_); (exact hr37); rintro e w43 ⟨v43, rfl, hv43, hu43, hr43, ho43⟩
    have g43 := only_trans g37 ho43
    have L43 := L37.grown ho43 (by simp; omega)
    go_wp2
    refine wpAny_take (i := 13) (v := ?_) rfl (by kernel_rfl) (by kernel_rfl) (by kernel_rfl) (fun _ _ _ h => h) (Or.inl ⟨by rfl, ?_⟩) ?_
    rotate_left 1
    · (intro w; first | (go_simp; done) | (go_simp; with_reducible rfl))
    refine wpAny_ready (rs := [3]) (by kernel_rfl) (by simp) ?_
    refine AllReady.cons rfl (fun K hK => ?_) AllReady.nil
    go_simp
    refine hK _ _ ?_
    refine wpAny_ready (rs := [4]) (by kernel_rfl) (by simp) ?_
    refine AllReady.cons rfl (fun K hK => ?_) AllReady.nil
    obtain ⟨x45, hx45, _⟩ := nth_of [-1, 127, 128] L43 hv12 hu12
    clear L43
    go_simp
    refine hK _ _ ?_
    refine wpAny_ready (rs := [14]) (by kernel_rfl) (by simp) ?_
    refine AllReady.cons rfl (fun K hK => ?_) AllReady.nil
    go_simp
    refine hK _ _ ?_
    refine wpAny_ready (rs := [15]) (by kernel_rfl) (by simp) ?_
    refine AllReady.cons rfl (fun K hK => ?_) AllReady.nil
    go_simp
    refine hK _ _ ?_
    refine wpAny_ready (rs := [16]) (by kernel_rfl) (by simp) ?_
    refine AllReady.cons rfl (fun K hK => ?_) AllReady.nil
    go_simp
    refine hK _ _ ?_
    refine wpAny_ready (rs := [17]) (by kernel_rfl) (by simp) ?_
    refine AllReady.cons rfl (fun K hK => ?_) AllReady.nil
    go_simp
    refine hK _ _ ?_
    refine wpAny_done (by kernel_rfl) ?_ _
    go_wp2
    refine bodyPost_ret (results_tmp4 rfl _ _ _) rfl ?_
    exact ⟨_, _, _, _, rfl, b_only hb1 g43 hrb⟩
  refine AllReady.cons rfl (fun K hK => ?_) AllReady.nil
  go_simp
  (with_reducible refine (pick_U rb 2 3 _ ?_ (by omega) (by omega)).mono ?_); (exact hr7); rintro e w46 ⟨v46, rfl, hv46, hu46, hr46, ho46⟩
  have g46 := only_trans g7 ho46
  go_wp2
  refine wpAny_ready (rs := [0, 6]) (by kernel_rfl) (by simp) ?_
  refine AllReady.cons rfl (fun K hK => ?_) ?_
  · go_simp
    refine hK _ _ ?_
    have hr47 := hr46.alloc (.cells #[.int .i64 (-1), .int .i64 127, .int .i64 128] 3)
    have g47 := only_alloc g46 (.cells #[.int .i64 (-1), .int .i64 127, .int .i64 128] 3)
    have L47 := Blk.new w46 3 (([-1, 127, 128] : List Int).map (Value.int .i64)).toArray
    have lt47 := hr46.lt
    have hs47 : w46.heap.size < (w46.alloc (.cells #[.int .i64 (-1), .int .i64 127, .int .i64 128] 3)).heap.size := by simp
    change Blk (w46.alloc (.cells #[.int .i64 (-1), .int .i64 127, .int .i64 128] 3)) _ _ _ at L47
    generalize w46.heap.size = a47 at *
    generalize w46.alloc (.cells #[.int .i64 (-1), .int .i64 127, .int .i64 128] 3) = w47 at *
    refine wpAny_ready (rs := [3, 6]) (by kernel_rfl) (by simp) ?_
    refine AllReady.cons rfl (fun K hK => ?_) ?_
    · go_simp
      refine hK _ _ ?_
      refine wpAny_ready (rs := [4, 6]) (by kernel_rfl) (by simp) ?_
      refine AllReady.cons rfl (fun K hK => ?_) ?_
      · obtain ⟨x49, hx49, _⟩ := nth_of [-1, 127, 128] L47 hv46 hu46
        clear L47
        go_simp
        refine hK _ _ ?_
        refine wpAny_ready (rs := [6]) (by kernel_rfl) (by simp) ?_
        refine AllReady.cons rfl (fun K hK => ?_) AllReady.nil
        go_simp
        (with_reducible refine (pick_U rb 3 5 _ ?_ (by omega) (by omega)).mono ?_); (exact hr47); rintro e w50 ⟨v50, rfl, hv50, hu50, hr50, ho50⟩
        have g50 := only_trans g47 ho50
        go_wp2
        refine wpAny_take (i := 7) (v := ?_) rfl (by kernel_rfl) (by kernel_rfl) (by kernel_rfl) (fun _ _ _ h => h) (Or.inl ⟨by rfl, ?_⟩) ?_
        rotate_left 1
        · (intro w; first | (go_simp; done) | (go_simp; with_reducible rfl))
        refine wpAny_ready (rs := [9]) (by kernel_rfl) (by simp) ?_
        refine AllReady.cons rfl (fun K hK => ?_) AllReady.nil
        go_simp
        (with_reducible refine (pick_U rb 4 2 _ ?_ (by omega) (by omega)).mono ?_); (exact hr50); rintro e w51 ⟨v51, rfl, hv51, hu51, hr51, ho51⟩
        have g51 := only_trans g50 ho51
        go_wp2
        refine wpAny_take (i := 10) (v := ?_) rfl (by kernel_rfl) (by kernel_rfl) (by kernel_rfl) (fun _ _ _ h => h) (Or.inl ⟨by rfl, ?_⟩) ?_
        rotate_left 1
        · (intro w; first | (go_simp; done) | (go_simp; with_reducible rfl))
        refine wpAny_ready (rs := [12]) (by kernel_rfl) (by simp) ?_
        refine AllReady.cons rfl (fun K hK => ?_) AllReady.nil
        go_simp
        (with_reducible refine (pick_U rb 5 18 _ ?_ (by omega) (by omega)).mono ?_); (exact hr51); rintro e w52 ⟨v52, rfl, hv52, hu52, hr52, ho52⟩
        have g52 := only_trans g51 ho52
        go_wp2
        refine wpAny_take (i := 13) (v := ?_) rfl (by kernel_rfl) (by kernel_rfl) (by kernel_rfl) (fun _ _ _ h => h) (Or.inl ⟨by rfl, ?_⟩) ?_
        rotate_left 1
        · (intro w; first | (go_simp; done) | (go_simp; with_reducible rfl))
        refine wpAny_ready (rs := [14]) (by kernel_rfl) (by simp) ?_
        refine AllReady.cons rfl (fun K hK => ?_) AllReady.nil
        go_simp
        refine hK _ _ ?_
        refine wpAny_ready (rs := [15]) (by kernel_rfl) (by simp) ?_
        refine AllReady.cons rfl (fun K hK => ?_) AllReady.nil
        go_simp
        refine hK _ _ ?_
        refine wpAny_ready (rs := [16]) (by kernel_rfl) (by simp) ?_
        refine AllReady.cons rfl (fun K hK => ?_) AllReady.nil
        go_simp
        refine hK _ _ ?_
        refine wpAny_ready (rs := [17]) (by kernel_rfl) (by simp) ?_
        refine AllReady.cons rfl (fun K hK => ?_) AllReady.nil
        go_simp
        refine hK _ _ ?_
        refine wpAny_done (by kernel_rfl) ?_ _
        go_wp2
        refine bodyPost_ret (results_tmp4 rfl _ _ _) rfl ?_
        exact ⟨_, _, _, _, rfl, b_only hb1 g52 hrb⟩
      refine AllReady.cons rfl (fun K hK => ?_) AllReady.nil
      go_simp
      (with_reducible refine (pick_U rb 3 5 _ ?_ (by omega) (by omega)).mono ?_); (exact hr47); rintro e w53 ⟨v53, rfl, hv53, hu53, hr53, ho53⟩
      have g53 := only_trans g47 ho53
      have L53 := L47.grown ho53 (by simp; omega)
      go_wp2
      refine wpAny_take (i := 7) (v := ?_) rfl (by kernel_rfl) (by kernel_rfl) (by kernel_rfl) (fun _ _ _ h => h) (Or.inl ⟨by rfl, ?_⟩) ?_
      rotate_left 1
      · (intro w; first | (go_simp; done) | (go_simp; with_reducible rfl))
      refine wpAny_ready (rs := [4, 9]) (by kernel_rfl) (by simp) ?_
      refine AllReady.cons rfl (fun K hK => ?_) ?_
      · obtain ⟨x54, hx54, _⟩ := nth_of [-1, 127, 128] L53 hv46 hu46
        clear L53
        go_simp
        refine hK _ _ ?_
        refine wpAny_ready (rs := [9]) (by kernel_rfl) (by simp) ?_
        refine AllReady.cons rfl (fun K hK => ?_) AllReady.nil
        go_simp
        (with_reducible refine (pick_U rb 4 2 _ ?_ (by omega) (by omega)).mono ?_); (exact hr53); rintro e w55 ⟨v55, rfl, hv55, hu55, hr55, ho55⟩
        have g55 := only_trans g53 ho55
        go_wp2
        refine wpAny_take (i := 10) (v := ?_) rfl (by kernel_rfl) (by kernel_rfl) (by kernel_rfl) (fun _ _ _ h => h) (Or.inl ⟨by rfl, ?_⟩) ?_
        rotate_left 1
        · (intro w; first | (go_simp; done) | (go_simp; with_reducible rfl))
        refine wpAny_ready (rs := [12]) (by kernel_rfl) (by simp) ?_
        refine AllReady.cons rfl (fun K hK => ?_) AllReady.nil
        go_simp
        (with_reducible refine (pick_U rb 5 18 _ ?_ (by omega) (by omega)).mono ?_); (exact hr55); rintro e w56 ⟨v56, rfl, hv56, hu56, hr56, ho56⟩
        have g56 := only_trans g55 ho56
        go_wp2
        refine wpAny_take (i := 13) (v := ?_) rfl (by kernel_rfl) (by kernel_rfl) (by kernel_rfl) (fun _ _ _ h => h) (Or.inl ⟨by rfl, ?_⟩) ?_
        rotate_left 1
        · (intro w; first | (go_simp; done) | (go_simp; with_reducible rfl))
        refine wpAny_ready (rs := [14]) (by kernel_rfl) (by simp) ?_
        refine AllReady.cons rfl (fun K hK => ?_) AllReady.nil
        go_simp
        refine hK _ _ ?_
        refine wpAny_ready (rs := [15]) (by kernel_rfl) (by simp) ?_
        refine AllReady.cons rfl (fun K hK => ?_) AllReady.nil
        go_simp
        refine hK _ _ ?_
        refine wpAny_ready (rs := [16]) (by kernel_rfl) (by simp) ?_
        refine AllReady.cons rfl (fun K hK => ?_) AllReady.nil
        go_simp
        refine hK _ _ ?_
        refine wpAny_ready (rs := [17]) (by kernel_rfl) (by simp) ?_
        refine AllReady.cons rfl (fun K hK => ?_) AllReady.nil
        go_simp
        refine hK _ _ ?_
        refine wpAny_done (by kernel_rfl) ?_ _
        go_wp2
        refine bodyPost_ret (results_tmp4 rfl _ _ _) rfl ?_
        exact ⟨_, _, _, _, rfl, b_only hb1 g56 hrb⟩
      refine AllReady.cons rfl (fun K hK => ?_) AllReady.nil
      go_simp
      (with_reducible refine (pick_U rb 4 2 _ ?_ (by omega) (by omega)).mono ?_); (exact hr53); rintro e w57 ⟨v57, rfl, hv57, hu57, hr57, ho57⟩
      have g57 := only_trans g53 ho57
      have L57 := L53.grown ho57 (by simp; omega)
      go_wp2
      refine wpAny_take (i := 10) (v := ?_) rfl (by kernel_rfl) (by kernel_rfl) (by kernel_rfl) (fun _ _ _ h => h) (Or.inl ⟨by rfl, ?_⟩) ?_
      rotate_left 1
      · (intro w; first | (go_simp; done) | (go_simp; with_reducible rfl))
      refine wpAny_ready (rs := [4, 12]) (by kernel_rfl) (by simp) ?_
      refine AllReady.cons rfl (fun K hK => ?_) ?_
      · obtain ⟨x58, hx58, _⟩ := nth_of [-1, 127, 128] L57 hv46 hu46
        clear L57
        go_simp
        refine hK _ _ ?_
        refine wpAny_ready (rs := [12]) (by kernel_rfl) (by simp) ?_
        refine AllReady.cons rfl (fun K hK => ?_) AllReady.nil
        go_simp
        (with_reducible refine (pick_U rb 5 18 _ ?_ (by omega) (by omega)).mono ?_); (exact hr57); rintro e w59 ⟨v59, rfl, hv59, hu59, hr59, ho59⟩
        have g59 := only_trans g57 ho59
        go_wp2
        refine wpAny_take (i := 13) (v := ?_) rfl (by kernel_rfl) (by kernel_rfl) (by kernel_rfl) (fun _ _ _ h => h) (Or.inl ⟨by rfl, ?_⟩) ?_
        rotate_left 1
        · (intro w; first | (go_simp; done) | (go_simp; with_reducible rfl))
        refine wpAny_ready (rs := [14]) (by kernel_rfl) (by simp) ?_
        refine AllReady.cons rfl (fun K hK => ?_) AllReady.nil
        go_simp
        refine hK _ _ ?_
        refine wpAny_ready (rs := [15]) (by kernel_rfl) (by simp) ?_
        refine AllReady.cons rfl (fun K hK => ?_) AllReady.nil
        go_simp
        refine hK _ _ ?_
        refine wpAny_ready (rs := [16]) (by kernel_rfl) (by simp) ?_
        refine AllReady.cons rfl (fun K hK => ?_) AllReady.nil
        go_simp
        refine hK _ _ ?_
        refine wpAny_ready (rs := [17]) (by kernel_rfl) (by simp) ?_
        refine AllReady.cons rfl (fun K hK => ?_) AllReady.nil
        go_simp
        refine hK _ _ ?_
        refine wpAny_done (by kernel_rfl) ?_ _
        go_wp2
        refine bodyPost_ret (results_tmp4 rfl _ _ _) rfl ?_
        exact ⟨_, _, _, _, rfl, b_only hb1 g59 hrb⟩
      refine AllReady.cons rfl (fun K hK => ?_) AllReady.nil
      go_simp
      (with_reducible refine (pick_U rb 5 18 _ ?_ (by omega) (by omega)).mono ?_); (exact hr57); rintro e w60 ⟨v60, rfl, hv60, hu60, hr60, ho60⟩
      have g60 := only_trans g57 ho60
      have L60 := L57.grown ho60 (by simp; omega)
      go_wp2
      refine wpAny_take (i := 13) (v := ?_) rfl (by kernel_rfl) (by kernel_rfl) (by kernel_rfl) (fun _ _ _ h => h) (Or.inl ⟨by rfl, ?_⟩) ?_
      rotate_left 1
      · (intro w; first | (go_simp; done) | (go_simp; with_reducible rfl))
      refine wpAny_ready (rs := [4]) (by kernel_rfl) (by simp) ?_
      refine AllReady.cons rfl (fun K hK => ?_) AllReady.nil
      obtain ⟨x61, hx61, _⟩ := nth_of [-1, 127, 128] L60 hv46 hu46
      clear L60
      go_simp
      refine hK _ _ ?_
      refine wpAny_ready (rs := [14]) (by kernel_rfl) (by simp) ?_
      refine AllReady.cons rfl (fun K hK => ?_) AllReady.nil
      go_simp
      refine hK _ _ ?_
      refine wpAny_ready (rs := [15]) (by kernel_rfl) (by simp) ?_
      refine AllReady.cons rfl (fun K hK => ?_) AllReady.nil
      go_simp
      refine hK _ _ ?_
      refine wpAny_ready (rs := [16]) (by kernel_rfl) (by simp) ?_
      refine AllReady.cons rfl (fun K hK => ?_) AllReady.nil
      go_simp
      refine hK _ _ ?_
      refine wpAny_ready (rs := [17]) (by kernel_rfl) (by simp) ?_
      refine AllReady.cons rfl (fun K hK => ?_) AllReady.nil
      go_simp
      refine hK _ _ ?_
      refine wpAny_done (by kernel_rfl) ?_ _
      go_wp2
      refine bodyPost_ret (results_tmp4 rfl _ _ _) rfl ?_
      exact ⟨_, _, _, _, rfl, b_only hb1 g60 hrb⟩
    refine AllReady.cons rfl (fun K hK => ?_) AllReady.nil
    go_simp
    (with_reducible refine (pick_U rb 3 5 _ ?_ (by omega) (by omega)).mono ?_); (exact hr47); rintro e w62 ⟨v62, rfl, hv62, hu62, hr62, ho62⟩
    have g62 := only_trans g47 ho62
    have L62 := L47.grown ho62 (by simp; omega)
    go_wp2
    refine wpAny_take (i := 7) (v := ?_) rfl (by kernel_rfl) (by kernel_rfl) (by kernel_rfl) (fun _ _ _ h => h) (Or.inl ⟨by rfl, ?_⟩) ?_
    rotate_left 1
    · (intro w; first | (go_simp; done) | (go_simp; with_reducible rfl))
    refine wpAny_ready (rs := [3, 9]) (by kernel_rfl) (by simp) ?_
    refine AllReady.cons rfl (fun K hK => ?_) ?_
    · go_simp
      refine hK _ _ ?_
      refine wpAny_ready (rs := [4, 9]) (by kernel_rfl) (by simp) ?_
      refine AllReady.cons rfl (fun K hK => ?_) ?_
      · obtain ⟨x64, hx64, _⟩ := nth_of [-1, 127, 128] L62 hv46 hu46
        clear L62
        go_simp
        refine hK _ _ ?_
        refine wpAny_ready (rs := [9]) (by kernel_rfl) (by simp) ?_
        refine AllReady.cons rfl (fun K hK => ?_) AllReady.nil
        go_simp
        (with_reducible refine (pick_U rb 4 2 _ ?_ (by omega) (by omega)).mono ?_); (exact hr62); rintro e w65 ⟨v65, rfl, hv65, hu65, hr65, ho65⟩
        have g65 := only_trans g62 ho65
        go_wp2
        refine wpAny_take (i := 10) (v := ?_) rfl (by kernel_rfl) (by kernel_rfl) (by kernel_rfl) (fun _ _ _ h => h) (Or.inl ⟨by rfl, ?_⟩) ?_
        rotate_left 1
        · (intro w; first | (go_simp; done) | (go_simp; with_reducible rfl))
        refine wpAny_ready (rs := [12]) (by kernel_rfl) (by simp) ?_
        refine AllReady.cons rfl (fun K hK => ?_) AllReady.nil
        go_simp
        (with_reducible refine (pick_U rb 5 18 _ ?_ (by omega) (by omega)).mono ?_); (exact hr65); rintro e w66 ⟨v66, rfl, hv66, hu66, hr66, ho66⟩
        have g66 := only_trans g65 ho66
        go_wp2
        refine wpAny_take (i := 13) (v := ?_) rfl (by kernel_rfl) (by kernel_rfl) (by kernel_rfl) (fun _ _ _ h => h) (Or.inl ⟨by rfl, ?_⟩) ?_
        rotate_left 1
        · (intro w; first | (go_simp; done) | (go_simp; with_reducible rfl))
        refine wpAny_ready (rs := [14]) (by kernel_rfl) (by simp) ?_
        refine AllReady.cons rfl (fun K hK => ?_) AllReady.nil
        go_simp
        refine hK _ _ ?_
        refine wpAny_ready (rs := [15]) (by kernel_rfl) (by simp) ?_
        refine AllReady.cons rfl (fun K hK => ?_) AllReady.nil
        go_simp
        refine hK _ _ ?_
        refine wpAny_ready (rs := [16]) (by kernel_rfl) (by simp) ?_
        refine AllReady.cons rfl (fun K hK => ?_) AllReady.nil
        go_simp
        refine hK _ _ ?_
        refine wpAny_ready (rs := [17]) (by kernel_rfl) (by simp) ?_
        refine AllReady.cons rfl (fun K hK => ?_) AllReady.nil
        go_simp
        refine hK _ _ ?_
        refine wpAny_done (by kernel_rfl) ?_ _
        go_wp2
        refine bodyPost_ret (results_tmp4 rfl _ _ _) rfl ?_
        exact ⟨_, _, _, _, rfl, b_only hb1 g66 hrb⟩
      refine AllReady.cons rfl (fun K hK => ?_) AllReady.nil
      go_simp
      (with_reducible refine (pick_U rb 4 2 _ ?_ (by omega) (by omega)).mono ?_); (exact hr62); rintro e w67 ⟨v67, rfl, hv67, hu67, hr67, ho67⟩
      have g67 := only_trans g62 ho67
      have L67 := L62.grown ho67 (by simp; omega)
      go_wp2
      refine wpAny_take (i := 10) (v := ?_) rfl (by kernel_rfl) (by kernel_rfl) (by kernel_rfl) (fun _ _ _ h => h) (Or.inl ⟨by rfl, ?_⟩) ?_
      rotate_left 1
      · (intro w; first | (go_simp; done) | (go_simp; with_reducible rfl))
      refine wpAny_ready (rs := [4, 12]) (by kernel_rfl) (by simp) ?_
      refine AllReady.cons rfl (fun K hK => ?_) ?_
      · obtain ⟨x68, hx68, _⟩ := nth_of [-1, 127, 128] L67 hv46 hu46
        clear L67
        go_simp
        refine hK _ _ ?_
        refine wpAny_ready (rs := [12]) (by kernel_rfl) (by simp) ?_
        refine AllReady.cons rfl (fun K hK => ?_) AllReady.nil
        go_simp
        (with_reducible refine (pick_U rb 5 18 _ ?_ (by omega) (by omega)).mono ?_); (exact hr67); rintro e w69 ⟨v69, rfl, hv69, hu69, hr69, ho69⟩
        have g69 := only_trans g67 ho69
        go_wp2
        refine wpAny_take (i := 13) (v := ?_) rfl (by kernel_rfl) (by kernel_rfl) (by kernel_rfl) (fun _ _ _ h => h) (Or.inl ⟨by rfl, ?_⟩) ?_
        rotate_left 1
        · (intro w; first | (go_simp; done) | (go_simp; with_reducible rfl))
        refine wpAny_ready (rs := [14]) (by kernel_rfl) (by simp) ?_
        refine AllReady.cons rfl (fun K hK => ?_) AllReady.nil
        go_simp
        refine hK _ _ ?_
        refine wpAny_ready (rs := [15]) (by kernel_rfl) (by simp) ?_
        refine AllReady.cons rfl (fun K hK => ?_) AllReady.nil
        go_simp
        refine hK _ _ ?_
        refine wpAny_ready (rs := [16]) (by kernel_rfl) (by simp) ?_
        refine AllReady.cons rfl (fun K hK => ?_) AllReady.nil
        go_simp
        refine hK _ _ ?_
        refine wpAny_ready (rs := [17]) (by kernel_rfl) (by simp) ?_
        refine AllReady.cons rfl (fun K hK => ?_) AllReady.nil
        go_simp
        refine hK _ _ ?_
        refine wpAny_done (by kernel_rfl) ?_ _
        go_wp2
        refine bodyPost_ret (results_tmp4 rfl _ _ _) rfl ?_
        exact ⟨_, _, _, _, rfl, b_only hb1 g69 hrb⟩
      refine AllReady.cons rfl (fun K hK => ?_) AllReady.nil
      go_simp
      (with_reducible refine (pick_U rb 5 18 _ ?_ (by omega) (by omega)).mono ?_); (exact hr67); rintro e w70 ⟨v70, rfl, hv70, hu70, hr70, ho70⟩
      have g70 := only_trans g67 ho70
      have L70 := L67.grown ho70 (by simp; omega)
      go_wp2
      refine wpAny_take (i := 13) (v := ?_) rfl (by kernel_rfl) (by kernel_rfl) (by kernel_rfl) (fun _ _ _ h => h) (Or.inl ⟨by rfl, ?_⟩) ?_
      rotate_left 1
      · (intro w; first | (go_simp; done) | (go_simp; with_reducible rfl))
      refine wpAny_ready (rs := [4]) (by kernel_rfl) (by simp) ?_
      refine AllReady.cons rfl (fun K hK => ?_) AllReady.nil
      obtain ⟨x71, hx71, _⟩ := nth_of [-1, 127, 128] L70 hv46 hu46
      clear L70
      go_simp
      refine hK _ _ ?_
      refine wpAny_ready (rs := [14]) (by kernel_rfl) (by simp) ?_
      refine AllReady.cons rfl (fun K hK => ?_) AllReady.nil
      go_simp
      refine hK _ _ ?_
      refine wpAny_ready (rs := [15]) (by kernel_rfl) (by simp) ?_
      refine AllReady.cons rfl (fun K hK => ?_) AllReady.nil
      go_simp
      refine hK _ _ ?_
      refine wpAny_ready (rs := [16]) (by kernel_rfl) (by simp) ?_
      refine AllReady.cons rfl (fun K hK => ?_) AllReady.nil
      go_simp
      refine hK _ _ ?_
      refine wpAny_ready (rs := [17]) (by kernel_rfl) (by simp) ?_
      refine AllReady.cons rfl (fun K hK => ?_) AllReady.nil
      go_simp
      refine hK _ _ ?_
      refine wpAny_done (by kernel_rfl) ?_ _
      go_wp2
      refine bodyPost_ret (results_tmp4 rfl _ _ _) rfl ?_
      exact ⟨_, _, _, _, rfl, b_only hb1 g70 hrb⟩
    refine AllReady.cons rfl (fun K hK => ?_) AllReady.nil
    go_simp
    (with_reducible refine (pick_U rb 4 2 _ ?_ (by omega) (by omega)).mono ?_); (exact hr62); rintro e w72 ⟨v72, rfl, hv72, hu72, hr72, ho72⟩
    have g72 := only_trans g62 ho72
    have L72 := L62.grown ho72 (by simp; omega)
    go_wp2
    refine wpAny_take (i := 10) (v := ?_) rfl (by kernel_rfl) (by kernel_rfl) (by kernel_rfl) (fun _ _ _ h => h) (Or.inl ⟨by rfl, ?_⟩) ?_
    rotate_left 1
    · (intro w; first | (go_simp; done) | (go_simp; with_reducible rfl))
    refine wpAny_ready (rs := [3, 12]) (by kernel_rfl) (by simp) ?_
    refine AllReady.cons rfl (fun K hK => ?_) ?_
    · go_simp
      refine hK _ _ ?_
      refine wpAny_ready (rs := [4, 12]) (by kernel_rfl) (by simp) ?_
      refine AllReady.cons rfl (fun K hK => ?_) ?_
      · obtain ⟨x74, hx74, _⟩ := nth_of [-1, 127, 128] L72 hv46 hu46
        clear L72
        go_simp
        refine hK _ _ ?_
        refine wpAny_ready (rs := [12]) (by kernel_rfl) (by simp) ?_
        refine AllReady.cons rfl (fun K hK => ?_) AllReady.nil
        go_simp
        (with_reducible refine (pick_U rb 5 18 _ ?_ (by omega) (by omega)).mono ?_); (exact hr72); rintro e w75 ⟨v75, rfl, hv75, hu75, hr75, ho75⟩
        have g75 := only_trans g72 ho75
        go_wp2
        refine wpAny_take (i := 13) (v := ?_) rfl (by kernel_rfl) (by kernel_rfl) (by kernel_rfl) (fun _ _ _ h => h) (Or.inl ⟨by rfl, ?_⟩) ?_
        rotate_left 1
        · (intro w; first | (go_simp; done) | (go_simp; with_reducible rfl))
        refine wpAny_ready (rs := [14]) (by kernel_rfl) (by simp) ?_
        refine AllReady.cons rfl (fun K hK => ?_) AllReady.nil
        go_simp
        refine hK _ _ ?_
        refine wpAny_ready (rs := [15]) (by kernel_rfl) (by simp) ?_
        refine AllReady.cons rfl (fun K hK => ?_) AllReady.nil
        go_simp
        refine hK _ _ ?_
        refine wpAny_ready (rs := [16]) (by kernel_rfl) (by simp) ?_
        refine AllReady.cons rfl (fun K hK => ?_) AllReady.nil
        go_simp
        refine hK _ _ ?_
        refine wpAny_ready (rs := [17]) (by kernel_rfl) (by simp) ?_
        refine AllReady.cons rfl (fun K hK => ?_) AllReady.nil
        go_simp
        refine hK _ _ ?_
        refine wpAny_done (by kernel_rfl) ?_ _
        go_wp2
        refine bodyPost_ret (results_tmp4 rfl _ _ _) rfl ?_
        exact ⟨_, _, _, _, rfl, b_only hb1 g75 hrb⟩
      refine AllReady.cons rfl (fun K hK => ?_) AllReady.nil
      go_simp
      (with_reducible refine (pick_U rb 5 18 _ ?_ (by omega) (by omega)).mono ?_); (exact hr72); rintro e w76 ⟨v76, rfl, hv76, hu76, hr76, ho76⟩
      have g76 := only_trans g72 ho76
      have L76 := L72.grown ho76 (by simp; omega)
      go_wp2
      refine wpAny_take (i := 13) (v := ?_) rfl (by kernel_rfl) (by kernel_rfl) (by kernel_rfl) (fun _ _ _ h => h) (Or.inl ⟨by rfl, ?_⟩) ?_
      rotate_left 1
      · (intro w; first | (go_simp; done) | (go_simp; with_reducible rfl))
      refine wpAny_ready (rs := [4]) (by kernel_rfl) (by simp) ?_
      refine AllReady.cons rfl (fun K hK => ?_) AllReady.nil
      obtain ⟨x77, hx77, _⟩ := nth_of [-1, 127, 128] L76 hv46 hu46
      clear L76
      go_simp
      refine hK _ _ ?_
      refine wpAny_ready (rs := [14]) (by kernel_rfl) (by simp) ?_
      refine AllReady.cons rfl (fun K hK => ?_) AllReady.nil
      go_simp
      refine hK _ _ ?_
      refine wpAny_ready (rs := [15]) (by kernel_rfl) (by simp) ?_
      refine AllReady.cons rfl (fun K hK => ?_) AllReady.nil
      go_simp
      refine hK _ _ ?_
      refine wpAny_ready (rs := [16]) (by kernel_rfl) (by simp) ?_
      refine AllReady.cons rfl (fun K hK => ?_) AllReady.nil
      go_simp
      refine hK _ _ ?_
      refine wpAny_ready (rs := [17]) (by kernel_rfl) (by simp) ?_
      refine AllReady.cons rfl (fun K hK => ?_) AllReady.nil
      go_simp
      refine hK _ _ ?_
      refine wpAny_done (by kernel_rfl) ?_ _
      go_wp2
      refine bodyPost_ret (results_tmp4 rfl _ _ _) rfl ?_
      exact ⟨_, _, _, _, rfl, b_only hb1 g76 hrb⟩
    refine AllReady.cons rfl (fun K hK => ?_) AllReady.nil
    go_simp
    (with_reducible refine (pick_U rb 5 18 _ ?_ (by omega) (by omega)).mono ?_); (exact hr72); rintro e w78 ⟨v78, rfl, hv78, hu78, hr78, ho78⟩
    have g78 := only_trans g72 ho78
    have L78 := L72.grown ho78 (by simp; omega)
    go_wp2
    refine wpAny_take (i := 13) (v := ?_) rfl (by kernel_rfl) (by kernel_rfl) (by kernel_rfl) (fun _ _ _ h => h) (Or.inl ⟨by rfl, ?_⟩) ?_
    rotate_left 1
    · (intro w; first | (go_simp; done) | (go_simp; with_reducible rfl))
    refine wpAny_ready (rs := [3]) (by kernel_rfl) (by simp) ?_
    refine AllReady.cons rfl (fun K hK => ?_) AllReady.nil
    go_simp
    refine hK _ _ ?_
    refine wpAny_ready (rs := [4]) (by kernel_rfl) (by simp) ?_
    refine AllReady.cons rfl (fun K hK => ?_) AllReady.nil
    obtain ⟨x80, hx80, _⟩ := nth_of [-1, 127, 128] L78 hv46 hu46
    clear L78
    go_simp
    refine hK _ _ ?_
    refine wpAny_ready (rs := [14]) (by kernel_rfl) (by simp) ?_
    refine AllReady.cons rfl (fun K hK => ?_) AllReady.nil
    go_simp
    refine hK _ _ ?_
    refine wpAny_ready (rs := [15]) (by kernel_rfl) (by simp) ?_
    refine AllReady.cons rfl (fun K hK => ?_) AllReady.nil
    go_simp
    refine hK _ _ ?_
    refine wpAny_ready (rs := [16]) (by kernel_rfl) (by simp) ?_
    refine AllReady.cons rfl (fun K hK => ?_) AllReady.nil
    go_simp
    refine hK _ _ ?_
    refine wpAny_ready (rs := [17]) (by kernel_rfl) (by simp) ?_
    refine AllReady.cons rfl (fun K hK => ?_) AllReady.nil
    go_simp
    refine hK _ _ ?_
    refine wpAny_done (by kernel_rfl) ?_ _
    go_wp2
    refine bodyPost_ret (results_tmp4 rfl _ _ _) rfl ?_
    exact ⟨_, _, _, _, rfl, b_only hb1 g78 hrb⟩
  refine AllReady.cons rfl (fun K hK => ?_) AllReady.nil
  go_simp
  (with_reducible refine (pick_U rb 3 5 _ ?_ (by omega) (by omega)).mono ?_); (exact hr46); rintro e w81 ⟨v81, rfl, hv81, hu81, hr81, ho81⟩
  have g81 := only_trans g46 ho81
  go_wp2
  refine wpAny_take (i := 7) (v := ?_) rfl (by kernel_rfl) (by kernel_rfl) (by kernel_rfl) (fun _ _ _ h => h) (Or.inl ⟨by rfl, ?_⟩) ?_
  rotate_left 1
  · (intro w; first | (go_simp; done) | (go_simp; with_reducible rfl))
  refine wpAny_ready (rs := [0, 9]) (by kernel_rfl) (by simp) ?_
  refine AllReady.cons rfl (fun K hK => ?_) ?_
  · go_simp
    refine hK _ _ ?_
    have hr82 := hr81.alloc (.cells #[.int .i64 (-1), .int .i64 127, .int .i64 128] 3)
    have g82 := only_alloc g81 (.cells #[.int .i64 (-1), .int .i64 127, .int .i64 128] 3)
    have L82 := Blk.new w81 3 (([-1, 127, 128] : List Int).map (Value.int .i64)).toArray
    have lt82 := hr81.lt
    have hs82 : w81.heap.size < (w81.alloc (.cells #[.int .i64 (-1), .int .i64 127, .int .i64 128] 3)).heap.size := by simp
    change Blk (w81.alloc (.cells #[.int .i64 (-1), .int .i64 127, .int .i64 128] 3)) _ _ _ at L82
    generalize w81.heap.size = a82 at *
    generalize w81.alloc (.cells #[.int .i64 (-1), .int .i64 127, .int .i64 128] 3) = w82 at *
    refine wpAny_ready (rs := [3, 9]) (by kernel_rfl) (by simp) ?_
    refine AllReady.cons rfl (fun K hK => ?_) ?_
    · go_simp
      refine hK _ _ ?_
      refine wpAny_ready (rs := [4, 9]) (by kernel_rfl) (by simp) ?_
      refine AllReady.cons rfl (fun K hK => ?_) ?_
      · obtain ⟨x84, hx84, _⟩ := nth_of [-1, 127, 128] L82 hv46 hu46
        clear L82
        go_simp
        refine hK _ _ ?_
        refine wpAny_ready (rs := [9]) (by kernel_rfl) (by simp) ?_
        refine AllReady.cons rfl (fun K hK => ?_) AllReady.nil
        go_simp
        (with_reducible refine (pick_U rb 4 2 _ ?_ (by omega) (by omega)).mono ?_); (exact hr82); rintro e w85 ⟨v85, rfl, hv85, hu85, hr85, ho85⟩
        have g85 := only_trans g82 ho85
        go_wp2
        refine wpAny_take (i := 10) (v := ?_) rfl (by kernel_rfl) (by kernel_rfl) (by kernel_rfl) (fun _ _ _ h => h) (Or.inl ⟨by rfl, ?_⟩) ?_
        rotate_left 1
        · (intro w; first | (go_simp; done) | (go_simp; with_reducible rfl))
        refine wpAny_ready (rs := [12]) (by kernel_rfl) (by simp) ?_
        refine AllReady.cons rfl (fun K hK => ?_) AllReady.nil
        go_simp
        (with_reducible refine (pick_U rb 5 18 _ ?_ (by omega) (by omega)).mono ?_); (exact hr85); rintro e w86 ⟨v86, rfl, hv86, hu86, hr86, ho86⟩
        have g86 := only_trans g85 ho86
        go_wp2
        refine wpAny_take (i := 13) (v := ?_) rfl (by kernel_rfl) (by kernel_rfl) (by kernel_rfl) (fun _ _ _ h => h) (Or.inl ⟨by rfl, ?_⟩) ?_
        rotate_left 1
        · (intro w; first | (go_simp; done) | (go_simp; with_reducible rfl))
        refine wpAny_ready (rs := [14]) (by kernel_rfl) (by simp) ?_
        refine AllReady.cons rfl (fun K hK => ?_) AllReady.nil
        go_simp
        refine hK _ _ ?_
        refine wpAny_ready (rs := [15]) (by kernel_rfl) (by simp) ?_
        refine AllReady.cons rfl (fun K hK => ?_) AllReady.nil
        go_simp
        refine hK _ _ ?_
        refine wpAny_ready (rs := [16]) (by kernel_rfl) (by simp) ?_
        refine AllReady.cons rfl (fun K hK => ?_) AllReady.nil
        go_simp
        refine hK _ _ ?_
        refine wpAny_ready (rs := [17]) (by kernel_rfl) (by simp) ?_
        refine AllReady.cons rfl (fun K hK => ?_) AllReady.nil
        go_simp
        refine hK _ _ ?_
        refine wpAny_done (by kernel_rfl) ?_ _
        go_wp2
        refine bodyPost_ret (results_tmp4 rfl _ _ _) rfl ?_
        exact ⟨_, _, _, _, rfl, b_only hb1 g86 hrb⟩
      refine AllReady.cons rfl (fun K hK => ?_) AllReady.nil
      go_simp
      (with_reducible refine (pick_U rb 4 2 _ ?_ (by omega) (by omega)).mono ?_); (exact hr82); rintro e w87 ⟨v87, rfl, hv87, hu87, hr87, ho87⟩
      have g87 := only_trans g82 ho87
      have L87 := L82.grown ho87 (by simp; omega)
      go_wp2
      refine wpAny_take (i := 10) (v := ?_) rfl (by kernel_rfl) (by kernel_rfl) (by kernel_rfl) (fun _ _ _ h => h) (Or.inl ⟨by rfl, ?_⟩) ?_
      rotate_left 1
      · (intro w; first | (go_simp; done) | (go_simp; with_reducible rfl))
      refine wpAny_ready (rs := [4, 12]) (by kernel_rfl) (by simp) ?_
      refine AllReady.cons rfl (fun K hK => ?_) ?_
      · obtain ⟨x88, hx88, _⟩ := nth_of [-1, 127, 128] L87 hv46 hu46
        clear L87
        go_simp
        refine hK _ _ ?_
        refine wpAny_ready (rs := [12]) (by kernel_rfl) (by simp) ?_
        refine AllReady.cons rfl (fun K hK => ?_) AllReady.nil
        go_simp
        (with_reducible refine (pick_U rb 5 18 _ ?_ (by omega) (by omega)).mono ?_); (exact hr87); rintro e w89 ⟨v89, rfl, hv89, hu89, hr89, ho89⟩
        have g89 := only_trans g87 ho89
        go_wp2
        refine wpAny_take (i := 13) (v := ?_) rfl (by kernel_rfl) (by kernel_rfl) (by kernel_rfl) (fun _ _ _ h => h) (Or.inl ⟨by rfl, ?_⟩) ?_
        rotate_left 1
        · (intro w; first | (go_simp; done) | (go_simp; with_reducible rfl))
        refine wpAny_ready (rs := [14]) (by kernel_rfl) (by simp) ?_
        refine AllReady.cons rfl (fun K hK => ?_) AllReady.nil
        go_simp
        refine hK _ _ ?_
        refine wpAny_ready (rs := [15]) (by kernel_rfl) (by simp) ?_
        refine AllReady.cons rfl (fun K hK => ?_) AllReady.nil
        go_simp
        refine hK _ _ ?_
        refine wpAny_ready (rs := [16]) (by kernel_rfl) (by simp) ?_
        refine AllReady.cons rfl (fun K hK => ?_) AllReady.nil
        go_simp
        refine hK _ _ ?_
        refine wpAny_ready (rs := [17]) (by kernel_rfl) (by simp) ?_
        refine AllReady.cons rfl (fun K hK => ?_) AllReady.nil
        go_simp
        refine hK _ _ ?_
        refine wpAny_done (by kernel_rfl) ?_ _
        go_wp2
        refine bodyPost_ret (results_tmp4 rfl _ _ _) rfl ?_
        exact ⟨_, _, _, _, rfl, b_only hb1 g89 hrb⟩
      refine AllReady.cons rfl (fun K hK => ?_) AllReady.nil
      go_simp
      (with_reducible refine (pick_U rb 5 18 _ ?_ (by omega) (by omega)).mono ?_); (exact hr87); rintro e w90 ⟨v90, rfl, hv90, hu90, hr90, ho90⟩
      have g90 := only_trans g87 ho90
      have L90 := L87.grown ho90 (by simp; omega)
      go_wp2
      refine wpAny_take (i := 13) (v := ?_) rfl (by kernel_rfl) (by kernel_rfl) (by kernel_rfl) (fun _ _ _ h => h) (Or.inl ⟨by rfl, ?_⟩) ?_
      rotate_left 1
      · (intro w; first | (go_simp; done) | (go_simp; with_reducible rfl))
      refine wpAny_ready (rs := [4]) (by kernel_rfl) (by simp) ?_
      refine AllReady.cons rfl (fun K hK => ?_) AllReady.nil
      obtain ⟨x91, hx91, _⟩ := nth_of [-1, 127, 128] L90 hv46 hu46
      clear L90
      go_simp
      refine hK _ _ ?_
      refine wpAny_ready (rs := [14]) (by kernel_rfl) (by simp) ?_
      refine AllReady.cons rfl (fun K hK => ?_) AllReady.nil
      go_simp
      refine hK _ _ ?_
      refine wpAny_ready (rs := [15]) (by kernel_rfl) (by simp) ?_
      refine AllReady.cons rfl (fun K hK => ?_) AllReady.nil
      go_simp
      refine hK _ _ ?_
      refine wpAny_ready (rs := [16]) (by kernel_rfl) (by simp) ?_
      refine AllReady.cons rfl (fun K hK => ?_) AllReady.nil
      go_simp
      refine hK _ _ ?_
      refine wpAny_ready (rs := [17]) (by kernel_rfl) (by simp) ?_
      refine AllReady.cons rfl (fun K hK => ?_) AllReady.nil
      go_simp
      refine hK _ _ ?_
      refine wpAny_done (by kernel_rfl) ?_ _
      go_wp2
      refine bodyPost_ret (results_tmp4 rfl _ _ _) rfl ?_
      exact ⟨_, _, _, _, rfl, b_only hb1 g90 hrb⟩
    refine AllReady.cons rfl (fun K hK => ?_) AllReady.nil
    go_simp
    (with_reducible refine (pick_U rb 4 2 _ ?_ (by omega) (by omega)).mono ?_); (exact hr82); rintro e w92 ⟨v92, rfl, hv92, hu92, hr92, ho92⟩
    have g92 := only_trans g82 ho92
    have L92 := L82.grown ho92 (by simp; omega)
    go_wp2
    refine wpAny_take (i := 10) (v := ?_) rfl (by kernel_rfl) (by kernel_rfl) (by kernel_rfl) (fun _ _ _ h => h) (Or.inl ⟨by rfl, ?_⟩) ?_
    rotate_left 1
    · (intro w; first | (go_simp; done) | (go_simp; with_reducible rfl))
    refine wpAny_ready (rs := [3, 12]) (by kernel_rfl) (by simp) ?_
    refine AllReady.cons rfl (fun K hK => ?_) ?_
    · go_simp
      refine hK _ _ ?_
      refine wpAny_ready (rs := [4, 12]) (by kernel_rfl) (by simp) ?_
      refine AllReady.cons rfl (fun K hK => ?_) ?_
      · obtain ⟨x94, hx94, _⟩ := nth_of [-1, 127, 128] L92 hv46 hu46
        clear L92
        go_simp
        refine hK _ _ ?_
        refine wpAny_ready (rs := [12]) (by kernel_rfl) (by simp) ?_
        refine AllReady.cons rfl (fun K hK => ?_) AllReady.nil
        go_simp
        (with_reducible refine (pick_U rb 5 18 _ ?_ (by omega) (by omega)).mono ?_); (exact hr92); rintro e w95 ⟨v95, rfl, hv95, hu95, hr95, ho95⟩
        have g95 := only_trans g92 ho95
        go_wp2
        refine wpAny_take (i := 13) (v := ?_) rfl (by kernel_rfl) (by kernel_rfl) (by kernel_rfl) (fun _ _ _ h => h) (Or.inl ⟨by rfl, ?_⟩) ?_
        rotate_left 1
        · (intro w; first | (go_simp; done) | (go_simp; with_reducible rfl))
        refine wpAny_ready (rs := [14]) (by kernel_rfl) (by simp) ?_
        refine AllReady.cons rfl (fun K hK => ?_) AllReady.nil
        go_simp
        refine hK _ _ ?_
        refine wpAny_ready (rs := [15]) (by kernel_rfl) (by simp) ?_
        refine AllReady.cons rfl (fun K hK => ?_) AllReady.nil
        go_simp
        refine hK _ _ ?_
        refine wpAny_ready (rs := [16]) (by kernel_rfl) (by simp) ?_
        refine AllReady.cons rfl (fun K hK => ?_) AllReady.nil
        go_simp
        refine hK _ _ ?_
        refine wpAny_ready (rs := [17]) (by kernel_rfl) (by simp) ?_
        refine AllReady.cons rfl (fun K hK => ?_) AllReady.nil
        go_simp
        refine hK _ _ ?_
        refine wpAny_done (by kernel_rfl) ?_ _
        go_wp2
        refine bodyPost_ret (results_tmp4 rfl _ _ _) rfl ?_
        exact ⟨_, _, _, _, rfl, b_only hb1 g95 hrb⟩
      refine AllReady.cons rfl (fun K hK => ?_) AllReady.nil
      go_simp
      (with_reducible refine (pick_U rb 5 18 _ ?_ (by omega) (by omega)).mono ?_); (exact hr92); rintro e w96 ⟨v96, rfl, hv96, hu96, hr96, ho96⟩
      have g96 := only_trans g92 ho96
      have L96 := L92.grown ho96 (by simp; omega)
      go_wp2
      refine wpAny_take (i := 13) (v := ?_) rfl (by kernel_rfl) (by kernel_rfl) (by kernel_rfl) (fun _ _ _ h => h) (Or.inl ⟨by rfl, ?_⟩) ?_
      rotate_left 1
      · (intro w; first | (go_simp; done) | (go_simp; with_reducible rfl))
      refine wpAny_ready (rs := [4]) (by kernel_rfl) (by simp) ?_
      refine AllReady.cons rfl (fun K hK => ?_) AllReady.nil
      obtain ⟨x97, hx97, _⟩ := nth_of [-1, 127, 128] L96 hv46 hu46
      clear L96
      go_simp
      refine hK _ _ ?_
      refine wpAny_ready (rs := [14]) (by kernel_rfl) (by simp) ?_
      refine AllReady.cons rfl (fun K hK => ?_) AllReady.nil
      go_simp
      refine hK _ _ ?_
      refine wpAny_ready (rs := [15]) (by kernel_rfl) (by simp) ?_
      refine AllReady.cons rfl (fun K hK => ?_) AllReady.nil
      go_simp
      refine hK _ _ ?_
      refine wpAny_ready (rs := [16]) (by kernel_rfl) (by simp) ?_
      refine AllReady.cons rfl (fun K hK => ?_) AllReady.nil
      go_simp
      refine hK _ _ ?_
      refine wpAny_ready (rs := [17]) (by kernel_rfl) (by simp) ?_
      refine AllReady.cons rfl (fun K hK => ?_) AllReady.nil
      go_simp
      refine hK _ _ ?_
      refine wpAny_done (by kernel_rfl) ?_ _
      go_wp2
      refine bodyPost_ret (results_tmp4 rfl _ _ _) rfl ?_
      exact ⟨_, _, _, _, rfl, b_only hb1 g96 hrb⟩
    refine AllReady.cons rfl (fun K hK => ?_) AllReady.nil
    go_simp
    (with_reducible refine (pick_U rb 5 18 _ ?_ (by omega) (by omega)).mono ?_); (exact hr92); rintro e w98 ⟨v98, rfl, hv98, hu98, hr98, ho98⟩
    have g98 := only_trans g92 ho98
    have L98 := L92.grown ho98 (by simp; omega)
    go_wp2
    refine wpAny_take (i := 13) (v := ?_) rfl (by kernel_rfl) (by kernel_rfl) (by kernel_rfl) (fun _ _ _ h => h) (Or.inl ⟨by rfl, ?_⟩) ?_
    rotate_left 1
    · (intro w; first | (go_simp; done) | (go_simp; with_reducible rfl))
    refine wpAny_ready (rs := [3]) (by kernel_rfl) (by simp) ?_
    refine AllReady.cons rfl (fun K hK => ?_) AllReady.nil
    go_simp
    refine hK _ _ ?_
    refine wpAny_ready (rs := [4]) (by kernel_rfl) (by simp) ?_
    refine AllReady.cons rfl (fun K hK => ?_) AllReady.nil
    obtain ⟨x100, hx100, _⟩ := nth_of [-1, 127, 128] L98 hv46 hu46
    clear L98
    go_simp
    refine hK _ _ ?_
    refine wpAny_ready (rs := [14]) (by kernel_rfl) (by simp) ?_
    refine AllReady.cons rfl (fun K hK => ?_) AllReady.nil
    go_simp
    refine hK _ _ ?_
    refine wpAny_ready (rs := [15]) (by kernel_rfl) (by simp) ?_
    refine AllReady.cons rfl (fun K hK => ?_) AllReady.nil
    go_simp
    refine hK _ _ ?_
    refine wpAny_ready (rs := [16]) (by kernel_rfl) (by simp) ?_
    refine AllReady.cons rfl (fun K hK => ?_) AllReady.nil
    go_simp
    refine hK _ _ ?_
    refine wpAny_ready (rs := [17]) (by kernel_rfl) (by simp) ?_
    refine AllReady.cons rfl (fun K hK => ?_) AllReady.nil
    go_simp
    refine hK _ _ ?_
    refine wpAny_done (by kernel_rfl) ?_ _
    go_wp2
    refine bodyPost_ret (results_tmp4 rfl _ _ _) rfl ?_
    exact ⟨_, _, _, _, rfl, b_only hb1 g98 hrb⟩
  refine AllReady.cons rfl (fun K hK => ?_) AllReady.nil
  go_simp
  (with_reducible refine (pick_U rb 4 2 _ ?_ (by omega) (by omega)).mono ?_); (exact hr81); rintro e w101 ⟨v101, rfl, hv101, hu101, hr101, ho101⟩
  have g101 := only_trans g81 ho101
  go_wp2
  refine wpAny_take (i := 10) (v := ?_) rfl (by kernel_rfl) (by kernel_rfl) (by kernel_rfl) (fun _ _ _ h => h) (Or.inl ⟨by rfl, ?_⟩) ?_
  rotate_left 1
  · (intro w; first | (go_simp; done) | (go_simp; with_reducible rfl))
  refine wpAny_ready (rs := [0, 12]) (by kernel_rfl) (by simp) ?_
  refine AllReady.cons rfl (fun K hK => ?_) ?_
  · go_simp
    refine hK _ _ ?_
    have hr102 := hr101.alloc (.cells #[.int .i64 (-1), .int .i64 127, .int .i64 128] 3)
    have g102 := only_alloc g101 (.cells #[.int .i64 (-1), .int .i64 127, .int .i64 128] 3)
    have L102 := Blk.new w101 3 (([-1, 127, 128] : List Int).map (Value.int .i64)).toArray
    have lt102 := hr101.lt
    have hs102 : w101.heap.size < (w101.alloc (.cells #[.int .i64 (-1), .int .i64 127, .int .i64 128] 3)).heap.size := by simp
    change Blk (w101.alloc (.cells #[.int .i64 (-1), .int .i64 127, .int .i64 128] 3)) _ _ _ at L102
    generalize w101.heap.size = a102 at *
    generalize w101.alloc (.cells #[.int .i64 (-1), .int .i64 127, .int .i64 128] 3) = w102 at *
    refine wpAny_ready (rs := [3, 12]) (by kernel_rfl) (by simp) ?_
    refine AllReady.cons rfl (fun K hK => ?_) ?_
    · go_simp
      refine hK _ _ ?_
      refine wpAny_ready (rs := [4, 12]) (by kernel_rfl) (by simp) ?_
      refine AllReady.cons rfl (fun K hK => ?_) ?_
      · obtain ⟨x104, hx104, _⟩ := nth_of [-1, 127, 128] L102 hv46 hu46
        clear L102
        go_simp
        refine hK _ _ ?_
        refine wpAny_ready (rs := [12]) (by kernel_rfl) (by simp) ?_
        refine AllReady.cons rfl (fun K hK => ?_) AllReady.nil
        go_simp
        (with_reducible refine (pick_U rb 5 18 _ ?_ (by omega) (by omega)).mono ?_); (exact hr102); rintro e w105 ⟨v105, rfl, hv105, hu105, hr105, ho105⟩
        have g105 := only_trans g102 ho105
        go_wp2
        refine wpAny_take (i := 13) (v := ?_) rfl (by kernel_rfl) (by kernel_rfl) (by kernel_rfl) (fun _ _ _ h => h) (Or.inl ⟨by rfl, ?_⟩) ?_
        rotate_left 1
        · (intro w; first | (go_simp; done) | (go_simp; with_reducible rfl))
        refine wpAny_ready (rs := [14]) (by kernel_rfl) (by simp) ?_
        refine AllReady.cons rfl (fun K hK => ?_) AllReady.nil
        go_simp
        refine hK _ _ ?_
        refine wpAny_ready (rs := [15]) (by kernel_rfl) (by simp) ?_
        refine AllReady.cons rfl (fun K hK => ?_) AllReady.nil
        go_simp
        refine hK _ _ ?_
        refine wpAny_ready (rs := [16]) (by kernel_rfl) (by simp) ?_
        refine AllReady.cons rfl (fun K hK => ?_) AllReady.nil
        go_simp
        refine hK _ _ ?_
        refine wpAny_ready (rs := [17]) (by kernel_rfl) (by simp) ?_
        refine AllReady.cons rfl (fun K hK => ?_) AllReady.nil
        go_simp
        refine hK _ _ ?_
        refine wpAny_done (by kernel_rfl) ?_ _
        go_wp2
        refine bodyPost_ret (results_tmp4 rfl _ _ _) rfl ?_
        exact ⟨_, _, _, _, rfl, b_only hb1 g105 hrb⟩
      refine AllReady.cons rfl (fun K hK => ?_) AllReady.nil
      go_simp
      (with_reducible refine (pick_U rb 5 18 _ ?_ (by omega) (by omega)).mono ?_); (exact hr102); rintro e w106 ⟨v106, rfl, hv106, hu106, hr106, ho106⟩
      have g106 := only_trans g102 ho106
      have L106 := L102.grown ho106 (by simp; omega)
      go_wp2
      refine wpAny_take (i := 13) (v := ?_) rfl (by kernel_rfl) (by kernel_rfl) (by kernel_rfl) (fun _ _ _ h => h) (Or.inl ⟨by rfl, ?_⟩) ?_
      rotate_left 1
      · (intro w; first | (go_simp; done) | (go_simp; with_reducible rfl))
      refine wpAny_ready (rs := [4]) (by kernel_rfl) (by simp) ?_
      refine AllReady.cons rfl (fun K hK => ?_) AllReady.nil
      obtain ⟨x107, hx107, _⟩ := nth_of [-1, 127, 128] L106 hv46 hu46
      clear L106
      go_simp
      refine hK _ _ ?_
      refine wpAny_ready (rs := [14]) (by kernel_rfl) (by simp) ?_
      refine AllReady.cons rfl (fun K hK => ?_) AllReady.nil
      go_simp
      refine hK _ _ ?_
      refine wpAny_ready (rs := [15]) (by kernel_rfl) (by simp) ?_
      refine AllReady.cons rfl (fun K hK => ?_) AllReady.nil
      go_simp
      refine hK _ _ ?_
      refine wpAny_ready (rs := [16]) (by kernel_rfl) (by simp) ?_
      refine AllReady.cons rfl (fun K hK => ?_) AllReady.nil
      go_simp
      refine hK _ _ ?_
      refine wpAny_ready (rs := [17]) (by kernel_rfl) (by simp) ?_
      refine AllReady.cons rfl (fun K hK => ?_) AllReady.nil
      go_simp
      refine hK _ _ ?_
      refine wpAny_done (by kernel_rfl) ?_ _
      go_wp2
      refine bodyPost_ret (results_tmp4 rfl _ _ _) rfl ?_
      exact ⟨_, _, _, _, rfl, b_only hb1 g106 hrb⟩
    refine AllReady.cons rfl (fun K hK => ?_) AllReady.nil
    go_simp
    (with_reducible refine (pick_U rb 5 18 _ ?_ (by omega) (by omega)).mono ?_); (exact hr102); rintro e w108 ⟨v108, rfl, hv108, hu108, hr108, ho108⟩
    have g108 := only_trans g102 ho108
    have L108 := L102.grown ho108 (by simp; omega)
    go_wp2
    refine wpAny_take (i := 13) (v := ?_) rfl (by kernel_rfl) (by kernel_rfl) (by kernel_rfl) (fun _ _ _ h => h) (Or.inl ⟨by rfl, ?_⟩) ?_
    rotate_left 1
    · (intro w; first | (go_simp; done) | (go_simp; with_reducible rfl))
    refine wpAny_ready (rs := [3]) (by kernel_rfl) (by simp) ?_
    refine AllReady.cons rfl (fun K hK => ?_) AllReady.nil
    go_simp
    refine hK _ _ ?_
    refine wpAny_ready (rs := [4]) (by kernel_rfl) (by simp) ?_
    refine AllReady.cons rfl (fun K hK => ?_) AllReady.nil
    obtain ⟨x110, hx110, _⟩ := nth_of [-1, 127, 128] L108 hv46 hu46
    clear L108
    go_simp
    refine hK _ _ ?_
    refine wpAny_ready (rs := [14]) (by kernel_rfl) (by simp) ?_
    refine AllReady.cons rfl (fun K hK => ?_) AllReady.nil
    go_simp
    refine hK _ _ ?_
    refine wpAny_ready (rs := [15]) (by kernel_rfl) (by simp) ?_
    refine AllReady.cons rfl (fun K hK => ?_) AllReady.nil
    go_simp
    refine hK _ _ ?_
    refine wpAny_ready (rs := [16]) (by kernel_rfl) (by simp) ?_
    refine AllReady.cons rfl (fun K hK => ?_) AllReady.nil
    go_simp
    refine hK _ _ ?_
    refine wpAny_ready (rs := [17]) (by kernel_rfl) (by simp) ?_
    refine AllReady.cons rfl (fun K hK => ?_) AllReady.nil
    go_simp
    refine hK _ _ ?_
    refine wpAny_done (by kernel_rfl) ?_ _
    go_wp2
    refine bodyPost_ret (results_tmp4 rfl _ _ _) rfl ?_
    exact ⟨_, _, _, _, rfl, b_only hb1 g108 hrb⟩
  refine AllReady.cons rfl (fun K hK => ?_) AllReady.nil
  go_simp
  (with_reducible refine (pick_U rb 5 18 _ ?_ (by omega) (by omega)).mono ?_); (exact hr101); rintro e w111 ⟨v111, rfl, hv111, hu111, hr111, ho111⟩
  have g111 := only_trans g101 ho111
  go_wp2
  refine wpAny_take (i := 13) (v := ?_) rfl (by kernel_rfl) (by kernel_rfl) (by kernel_rfl) (fun _ _ _ h => h) (Or.inl ⟨by rfl, ?_⟩) ?_
  rotate_left 1
  · (intro w; first | (go_simp; done) | (go_simp; with_reducible rfl))
  refine wpAny_ready (rs := [0]) (by kernel_rfl) (by simp) ?_
  refine AllReady.cons rfl (fun K hK => ?_) AllReady.nil
  go_simp
  refine hK _ _ ?_
  have hr112 := hr111.alloc (.cells #[.int .i64 (-1), .int .i64 127, .int .i64 128] 3)
  have g112 := only_alloc g111 (.cells #[.int .i64 (-1), .int .i64 127, .int .i64 128] 3)
  have L112 := Blk.new w111 3 (([-1, 127, 128] : List Int).map (Value.int .i64)).toArray
  have lt112 := hr111.lt
  have hs112 : w111.heap.size < (w111.alloc (.cells #[.int .i64 (-1), .int .i64 127, .int .i64 128] 3)).heap.size := by simp
  change Blk (w111.alloc (.cells #[.int .i64 (-1), .int .i64 127, .int .i64 128] 3)) _ _ _ at L112
  generalize w111.heap.size = a112 at *
  generalize w111.alloc (.cells #[.int .i64 (-1), .int .i64 127, .int .i64 128] 3) = w112 at *
  refine wpAny_ready (rs := [3]) (by kernel_rfl) (by simp) ?_
  refine AllReady.cons rfl (fun K hK => ?_) AllReady.nil
  go_simp
  refine hK _ _ ?_
  refine wpAny_ready (rs := [4]) (by kernel_rfl) (by simp) ?_
  refine AllReady.cons rfl (fun K hK => ?_) AllReady.nil
  obtain ⟨x114, hx114, _⟩ := nth_of [-1, 127, 128] L112 hv46 hu46
  clear L112
  go_simp
  refine hK _ _ ?_
  refine wpAny_ready (rs := [14]) (by kernel_rfl) (by simp) ?_
  refine AllReady.cons rfl (fun K hK => ?_) AllReady.nil
  go_simp
  refine hK _ _ ?_
  refine wpAny_ready (rs := [15]) (by kernel_rfl) (by simp) ?_
  refine AllReady.cons rfl (fun K hK => ?_) AllReady.nil
  go_simp
  refine hK _ _ ?_
  refine wpAny_ready (rs := [16]) (by kernel_rfl) (by simp) ?_
  refine AllReady.cons rfl (fun K hK => ?_) AllReady.nil
  go_simp
  refine hK _ _ ?_
  refine wpAny_ready (rs := [17]) (by kernel_rfl) (by simp) ?_
  refine AllReady.cons rfl (fun K hK => ?_) AllReady.nil
  go_simp
  refine hK _ _ ?_
  refine wpAny_done (by kernel_rfl) ?_ _
  go_wp2
  refine bodyPost_ret (results_tmp4 rfl _ _ _) rfl ?_
  exact ⟨_, _, _, _, rfl, b_only hb1 g112 hrb⟩
end Go.Proofs.Ytflimlalccmdnaa
