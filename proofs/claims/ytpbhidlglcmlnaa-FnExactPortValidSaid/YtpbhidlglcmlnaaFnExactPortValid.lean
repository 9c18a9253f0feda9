/-
  FnExactPortValid returns true for all ports: the program's PortValid is the reference's, and leaves its argument alone.
-/
import Derived.Test.YtpbhidlglcmlnaaPortEq
import Derived.Test.YtpbhidlglcmlnaaRowPort
import Derived.StillTailTactics
set_option linter.unusedVariables false
set_option linter.unusedSimpArgs false
namespace Go.Proofs.Ytpbhidlglcmlnaa
open Go.ChangeShapes Go.WideShapes Go.ChangeAt Go.RowKit

theorem wanted_intro {c : Bool} {A B : Prop} (h : c = true) (a : A) : if c = true then A else B := by rw [if_pos h]; exact a
set_option maxHeartbeats 4000000 in
theorem FnExactPortValid_big {b p s en ct rr rt ra sr sh sl : Int} {rl ma mb mc md : Bool} {rn sn : Nat} {gs : List (Int × Int)} {xs : List Int} {RA SA : Option Addr} {rc sc : Nat} (w : World) (hrn : rn ≤ 9223372036854775807) (hsn : sn ≤ 9223372036854775807) (h : portLeft rn sn 1048576 < 0) :
    Calls Try.prog 4 #[.agg #[.int .i64 b, .int .i64 p, .int .i64 s, .int .i64 en, .int .i64 ct, .int .i64 rr, .int .i64 rt, .slice RA rn rc, .bool rl, .int .i64 ra, .int .i64 sr, .slice SA sn sc, .int .i64 sh, .int .i64 sl, .bool ma, .bool mb, .bool mc, .bool md]] w fun e w' => e = .returned (.bool true) ∧ Below w.heap.size w w' := by
  go_enter Try.func4, Try.ntmps4
  go_wp2_with (refine at_load 46 (.tmp 1) rfl ?_; go_must (refine wpList_loadB (Blk.now (Blk.new _ _ _) (by repeat (first | (with_reducible exact (Blk.new _ _ _)) | (with_reducible refine Blk.drew ?_) | (with_reducible refine Blk.drewN ?_ _) | (with_reducible refine Blk.alloc ?_ _) | (with_reducible refine Blk.far ?_ ?_ _) | omega | (focus (simp; done)) | (focus (simp; omega))))) 46 (.tmp 1) rfl (by rfl) 0 rfl [.int .i64 b, .int .i64 p, .int .i64 s, .int .i64 en, .int .i64 ct, .int .i64 rr, .int .i64 rt, .slice RA rn rc, .bool rl, .int .i64 ra, .int .i64 sr, .slice SA sn sc, .int .i64 sh, .int .i64 sl, .bool ma, .bool mb, .bool mc, .bool md] rfl Try.underlying46 rfl sz_laws_Port ?_))
  (with_reducible refine (szPort_any (gs := gs) (xs := xs) _ _ hrn hsn (by omega) (by omega)).mono ?_); rintro e w1 ⟨rfl, hb1⟩
  go_wp2
  go_ret
  exact ⟨rfl, (by repeat (first | (with_reducible exact b_refl _) | (with_reducible refine b_alloc ?_ _) | (with_reducible refine b_drew ?_) | (with_reducible refine b_drewN ?_ _) | (with_reducible refine b_set ?_ ?_ _) | (with_reducible refine b_trans ?_ (by assumption)) | (with_reducible refine b_only ?_ (by assumption) ?_) | omega | (focus (simp; done)) | (focus (simp; omega))))⟩
set_option maxRecDepth 100000 in
set_option maxHeartbeats 4000000 in
theorem FnExactPortValid_small {b p s en ct rr rt ra sr sh sl : Int} {rl ma mb mc md : Bool} {rn sn : Nat} {gs : List (Int × Int)} {xs : List Int} {RA SA : Option Addr} {rc sc : Nat} (w : World) (hg : Gots w RA rn gs) (hx : Ints w SA sn xs) (hrn : rn ≤ 1048576) (hsn : sn ≤ 1048576) (h : ¬ portLeft rn sn 1048576 < 0) :
    Calls Try.prog 4 #[.agg #[.int .i64 b, .int .i64 p, .int .i64 s, .int .i64 en, .int .i64 ct, .int .i64 rr, .int .i64 rt, .slice RA rn rc, .bool rl, .int .i64 ra, .int .i64 sr, .slice SA sn sc, .int .i64 sh, .int .i64 sl, .bool ma, .bool mb, .bool mc, .bool md]] w fun e w' => e = .returned (.bool true) ∧ Below w.heap.size w w' := by
  go_enter Try.func4, Try.ntmps4
  go_wp2_with (refine at_load 46 (.tmp 1) rfl ?_; go_must (refine wpList_loadB (Blk.now (Blk.new _ _ _) (by repeat (first | (with_reducible exact (Blk.new _ _ _)) | (with_reducible refine Blk.drew ?_) | (with_reducible refine Blk.drewN ?_ _) | (with_reducible refine Blk.alloc ?_ _) | (with_reducible refine Blk.far ?_ ?_ _) | omega | (focus (simp; done)) | (focus (simp; omega))))) 46 (.tmp 1) rfl (by rfl) 0 rfl [.int .i64 b, .int .i64 p, .int .i64 s, .int .i64 en, .int .i64 ct, .int .i64 rr, .int .i64 rt, .slice RA rn rc, .bool rl, .int .i64 ra, .int .i64 sr, .slice SA sn sc, .int .i64 sh, .int .i64 sl, .bool ma, .bool mb, .bool mc, .bool md] rfl Try.underlying46 rfl sz_laws_Port ?_))
  go_wp2_with fail
  (with_reducible refine (szPort_any (gs := gs) (xs := xs) _ _ (by omega) (by omega) (by omega) (by omega)).mono ?_); rintro e w1 ⟨rfl, hb1⟩; have hz1 := hb1.size; (try simp at hz1); have F1 := (Blk.new _ _ _).below hb1 (by first | omega | (simp; done) | (simp; omega)); (try simp only [World.size_alloc, List.setIfInBounds_toArray, List.set_cons_zero, List.set_cons_succ] at F1); have F1l := F1.lt; (try simp only [World.size_alloc] at F1l)
  go_wp2_with (refine at_load 46 (.tmp 1) rfl ?_; go_must (refine wpList_loadB (Blk.now F1 (by repeat (first | (with_reducible exact F1) | (with_reducible refine Blk.drew ?_) | (with_reducible refine Blk.drewN ?_ _) | (with_reducible refine Blk.alloc ?_ _) | (with_reducible refine Blk.far ?_ ?_ _) | omega | (focus (simp; done)) | (focus (simp; omega))))) 46 (.tmp 1) rfl (by rfl) 0 rfl [.int .i64 b, .int .i64 p, .int .i64 s, .int .i64 en, .int .i64 ct, .int .i64 rr, .int .i64 rt, .slice RA rn rc, .bool rl, .int .i64 ra, .int .i64 sr, .slice SA sn sc, .int .i64 sh, .int .i64 sl, .bool ma, .bool mb, .bool mc, .bool md] rfl Try.underlying46 rfl sz_laws_Port ?_))
  go_wp2_with fail
  (with_reducible refine (toPort_any (gs := gs) (xs := xs) _ (Gots.lift hg (by repeat (first | (with_reducible exact hg) | (with_reducible refine Gots.drew ?_) | (with_reducible refine Gots.drewN ?_ _) | (with_reducible refine Gots.alloc ?_ _) | (with_reducible refine Gots.below ?_ (by assumption))))) (Ints.lift hx (by repeat (first | (with_reducible exact hx) | (with_reducible refine Ints.drew ?_) | (with_reducible refine Ints.drewN ?_ _) | (with_reducible refine Ints.alloc ?_ _) | (with_reducible refine Ints.below ?_ (by assumption))))) hrn hsn).mono ?_); rintro e w2 ⟨RA2, SA2, rc2, sc2, rfl, hg2, hx2, hb2⟩; have hz2 := hb2.size; (try simp at hz2); have F2 := Blk.lift F1 hb2 (by repeat (first | (with_reducible exact F1) | (with_reducible refine Blk.drew ?_) | (with_reducible refine Blk.drewN ?_ _) | (with_reducible refine Blk.alloc ?_ _) | (with_reducible refine Blk.far ?_ ?_ _) | omega | (focus (simp; done)) | (focus (simp; omega)))); (try simp only [World.size_alloc, List.setIfInBounds_toArray, List.set_cons_zero, List.set_cons_succ] at F2); have F2l := F2.lt; (try simp only [World.size_alloc] at F2l)
  go_wp2_with fail
  (with_reducible refine (spec_PortValid _ (Gots.of_own hg2) (Ints.of_own hx2) hrn hsn).mono ?_); rintro e w3 ⟨rfl, hb3⟩; have hz3 := hb3.size; (try simp at hz3); have F3 := Blk.lift F2 hb3 (by repeat (first | (with_reducible exact F2) | (with_reducible refine Blk.drew ?_) | (with_reducible refine Blk.drewN ?_ _) | (with_reducible refine Blk.alloc ?_ _) | (with_reducible refine Blk.far ?_ ?_ _) | omega | (focus (simp; done)) | (focus (simp; omega)))); (try simp only [World.size_alloc, List.setIfInBounds_toArray, List.set_cons_zero, List.set_cons_succ] at F3); have F3l := F3.lt; (try simp only [World.size_alloc] at F3l)
  go_wp2_with (refine at_load 46 (.tmp 1) rfl ?_; go_must (refine wpList_loadB (Blk.now F3 (by repeat (first | (with_reducible exact F3) | (with_reducible refine Blk.drew ?_) | (with_reducible refine Blk.drewN ?_ _) | (with_reducible refine Blk.alloc ?_ _) | (with_reducible refine Blk.far ?_ ?_ _) | omega | (focus (simp; done)) | (focus (simp; omega))))) 46 (.tmp 1) rfl (by rfl) 0 rfl [.int .i64 b, .int .i64 p, .int .i64 s, .int .i64 en, .int .i64 ct, .int .i64 rr, .int .i64 rt, .slice RA rn rc, .bool rl, .int .i64 ra, .int .i64 sr, .slice SA sn sc, .int .i64 sh, .int .i64 sl, .bool ma, .bool mb, .bool mc, .bool md] rfl Try.underlying46 rfl sz_laws_Port ?_))
  go_wp2_with fail
  (with_reducible refine (toPort_any (gs := gs) (xs := xs) _ (Gots.lift hg (by repeat (first | (with_reducible exact hg) | (with_reducible refine Gots.drew ?_) | (with_reducible refine Gots.drewN ?_ _) | (with_reducible refine Gots.alloc ?_ _) | (with_reducible refine Gots.below ?_ (by assumption))))) (Ints.lift hx (by repeat (first | (with_reducible exact hx) | (with_reducible refine Ints.drew ?_) | (with_reducible refine Ints.drewN ?_ _) | (with_reducible refine Ints.alloc ?_ _) | (with_reducible refine Ints.below ?_ (by assumption))))) hrn hsn).mono ?_); rintro e w4 ⟨RA4, SA4, rc4, sc4, rfl, hg4, hx4, hb4⟩; have hz4 := hb4.size; (try simp at hz4); have F4 := Blk.lift F3 hb4 (by repeat (first | (with_reducible exact F3) | (with_reducible refine Blk.drew ?_) | (with_reducible refine Blk.drewN ?_ _) | (with_reducible refine Blk.alloc ?_ _) | (with_reducible refine Blk.far ?_ ?_ _) | omega | (focus (simp; done)) | (focus (simp; omega)))); (try simp only [World.size_alloc, List.setIfInBounds_toArray, List.set_cons_zero, List.set_cons_succ] at F4); have F4l := F4.lt; (try simp only [World.size_alloc] at F4l)
  have hG4 : Gots w4 RA4 rn gs := Gots.of_own hg4
  have hX4 : Ints w4 SA4 sn xs := Ints.of_own hx4
  go_wp2_with (first | (refine at_store 33 (.tmp 5) (.tmp 16) rfl ?_; go_must (refine wpList_storeB (Blk.now (Blk.new _ _ _) (by repeat (first | (with_reducible exact (Blk.new _ _ _)) | (with_reducible refine Blk.drew ?_) | (with_reducible refine Blk.drewN ?_ _) | (with_reducible refine Blk.alloc ?_ _) | (with_reducible refine Blk.far ?_ ?_ _) | omega | (focus (simp; done)) | (focus (simp; omega))))) 33 (.tmp 5) (.tmp 16) rfl (by rfl) 0 rfl [.int .i64 b, .int .i64 p, .int .i64 s, .int .i64 en, .int .i64 ct, .int .i64 rr, .int .i64 rt, .slice RA4 rn rc4, .bool rl, .int .i64 ra, .int .i64 sr, .slice SA4 sn sc4, .int .i64 sh, .int .i64 sl, .bool ma, .bool mb, .bool mc, .bool md] rfl sz_impl_Port rfl (by simp) [.int .i64 b, .int .i64 p, .int .i64 s, .int .i64 en, .int .i64 ct, .int .i64 rr, .int .i64 rt, .slice RA4 rn rc4, .bool rl, .int .i64 ra, .int .i64 sr, .slice SA4 sn sc4, .int .i64 sh, .int .i64 sl, .bool ma, .bool mb, .bool mc, .bool md] rfl ?_; intro w5 N5 ho5; have hz5 := ho5.size; (try simp at hz5); have F5 := Blk.liftO F4 ho5 (by repeat (first | (with_reducible exact F4) | (with_reducible refine Blk.drew ?_) | (with_reducible refine Blk.drewN ?_ _) | (with_reducible refine Blk.alloc ?_ _) | (with_reducible refine Blk.far ?_ ?_ _) | omega | (focus (simp; done)) | (focus (simp; omega)))) (by first | omega | (simp; done) | (simp; omega)); (try simp only [World.size_alloc, List.setIfInBounds_toArray, List.set_cons_zero, List.set_cons_succ] at F5); have F5l := F5.lt; (try simp only [World.size_alloc] at F5l); have X5 := N5; (try simp only [World.size_alloc, List.setIfInBounds_toArray, List.set_cons_zero, List.set_cons_succ] at X5); have X5l := X5.lt; (try simp only [World.size_alloc] at X5l))) | (refine at_load 33 (.tmp 5) rfl ?_; go_must (refine wpList_loadB (Blk.now X5 (by repeat (first | (with_reducible exact X5) | (with_reducible refine Blk.drew ?_) | (with_reducible refine Blk.drewN ?_ _) | (with_reducible refine Blk.alloc ?_ _) | (with_reducible refine Blk.far ?_ ?_ _) | omega | (focus (simp; done)) | (focus (simp; omega))))) 33 (.tmp 5) rfl (by rfl) 0 rfl [.int .i64 b, .int .i64 p, .int .i64 s, .int .i64 en, .int .i64 ct, .int .i64 rr, .int .i64 rt, .slice RA4 rn rc4, .bool rl, .int .i64 ra, .int .i64 sr, .slice SA4 sn sc4, .int .i64 sh, .int .i64 sl, .bool ma, .bool mb, .bool mc, .bool md] rfl Try.underlying33 rfl sz_impl_Port ?_)))
  have hg5 := only_trans (only_alloc (only_refl w4 _) _) ho5
  have hG5 : Gots w5 RA4 rn gs := (Reads.grown hG4 hg5 (Nat.le_refl _) (fun g h => by injection h; omega)).more hg5.size
  have hX5 : Ints w5 SA4 sn xs := (Reads.grown hX4 hg5 (Nat.le_refl _) (fun g h => by injection h; omega)).more hg5.size
  go_wp2_with fail
  (with_reducible refine (impl_PortValid _ (Gots.lift hG5 (by repeat (first | (with_reducible exact hG5) | (with_reducible refine Gots.drew ?_) | (with_reducible refine Gots.drewN ?_ _) | (with_reducible refine Gots.alloc ?_ _) | (with_reducible refine Gots.below ?_ (by assumption))))) (Ints.lift hX5 (by repeat (first | (with_reducible exact hX5) | (with_reducible refine Ints.drew ?_) | (with_reducible refine Ints.drewN ?_ _) | (with_reducible refine Ints.alloc ?_ _) | (with_reducible refine Ints.below ?_ (by assumption))))) hrn hsn).mono ?_); rintro e w6 ⟨rfl, hb6⟩; have hz6 := hb6.size; (try simp at hz6); have F6 := Blk.lift F5 hb6 (by repeat (first | (with_reducible exact F5) | (with_reducible refine Blk.drew ?_) | (with_reducible refine Blk.drewN ?_ _) | (with_reducible refine Blk.alloc ?_ _) | (with_reducible refine Blk.far ?_ ?_ _) | omega | (focus (simp; done)) | (focus (simp; omega)))); (try simp only [World.size_alloc, List.setIfInBounds_toArray, List.set_cons_zero, List.set_cons_succ] at F6); have F6l := F6.lt; (try simp only [World.size_alloc] at F6l); have X6 := Blk.lift X5 hb6 (by repeat (first | (with_reducible exact X5) | (with_reducible refine Blk.drew ?_) | (with_reducible refine Blk.drewN ?_ _) | (with_reducible refine Blk.alloc ?_ _) | (with_reducible refine Blk.far ?_ ?_ _) | omega | (focus (simp; done)) | (focus (simp; omega)))); (try simp only [World.size_alloc, List.setIfInBounds_toArray, List.set_cons_zero, List.set_cons_succ] at X6); have X6l := X6.lt; (try simp only [World.size_alloc] at X6l)
  have hg6 : Gots w6 RA4 rn gs := (Gots.lift hG5 (by repeat (first | (with_reducible exact hG5) | (with_reducible refine Gots.drew ?_) | (with_reducible refine Gots.drewN ?_ _) | (with_reducible refine Gots.alloc ?_ _) | (with_reducible refine Gots.below ?_ (by assumption)))))
  have hx6 : Ints w6 SA4 sn xs := (Ints.lift hX5 (by repeat (first | (with_reducible exact hX5) | (with_reducible refine Ints.drew ?_) | (with_reducible refine Ints.drewN ?_ _) | (with_reducible refine Ints.alloc ?_ _) | (with_reducible refine Ints.below ?_ (by assumption)))))
  go_wp2
  refine wp_region_any (by kernel_rfl) ?_
  change wpAny _ _ _ _ _ _ _ (World.drew _)
  refine wpAny_ready (rs := [0, 1]) (by kernel_rfl) (by simp) ?_
  refine AllReady.cons rfl (fun K hK => ?_) ?_
  · refine wanted_intro (by first | rfl | kernel_rfl) ?_
    refine wp_load_mid 33 (.tmp 5) rfl w4.heap.size 0 rfl [.int .i64 b, .int .i64 p, .int .i64 s, .int .i64 en, .int .i64 ct, .int .i64 rr, .int .i64 rt, .slice RA4 rn rc4, .bool rl, .int .i64 ra, .int .i64 sr, .slice SA4 sn sc4, .int .i64 sh, .int .i64 sl, .bool ma, .bool mb, .bool mc, .bool md] _ (Blk.range (Blk.drew X6) 0 (n := 18) rfl) Try.underlying33 rfl sz_impl_Port ?_
    refine hK _ _ ?_
    refine wpAny_ready (rs := [1]) (by kernel_rfl) (by simp) ?_
    refine AllReady.cons rfl (fun K hK => ?_) AllReady.nil
    refine wanted_intro (by first | rfl | kernel_rfl) ?_
    refine wp_load_mid 46 (.tmp 1) rfl w.heap.size 0 rfl [.int .i64 b, .int .i64 p, .int .i64 s, .int .i64 en, .int .i64 ct, .int .i64 rr, .int .i64 rt, .slice RA rn rc, .bool rl, .int .i64 ra, .int .i64 sr, .slice SA sn sc, .int .i64 sh, .int .i64 sl, .bool ma, .bool mb, .bool mc, .bool md] _ (Blk.range (Blk.drew F6) 0 (n := 18) rfl) Try.underlying46 rfl sz_laws_Port ?_
    refine hK _ _ ?_
    refine wpAny_ready (rs := [2]) (by kernel_rfl) (by simp) ?_
    refine AllReady.cons rfl (fun K hK => ?_) AllReady.nil
    go_simp
    (with_reducible refine (toPort_any (gs := gs) (xs := xs) _ (hg.below (by repeat (first | (with_reducible exact b_refl _) | (with_reducible refine b_alloc ?_ _) | (with_reducible refine b_drew ?_) | (with_reducible refine b_drewN ?_ _) | (with_reducible refine b_set ?_ ?_ _) | (with_reducible refine b_trans ?_ (by assumption)) | (with_reducible refine b_only ?_ (by assumption) ?_) | omega | (focus (simp; done)) | (focus (simp; omega))))) (hx.below (by repeat (first | (with_reducible exact b_refl _) | (with_reducible refine b_alloc ?_ _) | (with_reducible refine b_drew ?_) | (with_reducible refine b_drewN ?_ _) | (with_reducible refine b_set ?_ ?_ _) | (with_reducible refine b_trans ?_ (by assumption)) | (with_reducible refine b_only ?_ (by assumption) ?_) | omega | (focus (simp; done)) | (focus (simp; omega))))) hrn hsn).mono ?_); rintro e w7 ⟨RA7, SA7, rc7, sc7, rfl, hg7, hx7, hb7⟩
    go_wp2
    refine wpAny_ready (rs := [3]) (by kernel_rfl) (by simp) ?_
    refine AllReady.cons rfl (fun K hK => ?_) AllReady.nil
    go_simp
    (with_reducible refine (eqPort_same _ (hg6.below (by repeat (first | (with_reducible exact b_refl _) | (with_reducible refine b_alloc ?_ _) | (with_reducible refine b_drew ?_) | (with_reducible refine b_drewN ?_ _) | (with_reducible refine b_set ?_ ?_ _) | (with_reducible refine b_trans ?_ (by assumption)) | (with_reducible refine b_only ?_ (by assumption) ?_) | omega | (focus (simp; done)) | (focus (simp; omega))))) (hx6.below (by repeat (first | (with_reducible exact b_refl _) | (with_reducible refine b_alloc ?_ _) | (with_reducible refine b_drew ?_) | (with_reducible refine b_drewN ?_ _) | (with_reducible refine b_set ?_ ?_ _) | (with_reducible refine b_trans ?_ (by assumption)) | (with_reducible refine b_only ?_ (by assumption) ?_) | omega | (focus (simp; done)) | (focus (simp; omega))))) (Gots.of_own hg7) (Ints.of_own hx7) hrn hsn).mono ?_); rintro e w8 ⟨rfl, hb8⟩
    go_wp2
    refine wpAny_ready (rs := [4]) (by kernel_rfl) (by simp) ?_
    refine AllReady.cons rfl (fun K hK => ?_) AllReady.nil
    go_simp
    refine hK _ _ ?_
    refine wpAny_done (by kernel_rfl) ?_ _
    go_wp2
    go_ret
    exact ⟨rfl, (by repeat (first | (with_reducible exact b_refl _) | (with_reducible refine b_alloc ?_ _) | (with_reducible refine b_drew ?_) | (with_reducible refine b_drewN ?_ _) | (with_reducible refine b_set ?_ ?_ _) | (with_reducible refine b_trans ?_ (by assumption)) | (with_reducible refine b_only ?_ (by assumption) ?_) | omega | (focus (simp; done)) | (focus (simp; omega))))⟩
  refine AllReady.cons rfl (fun K hK => ?_) AllReady.nil
  refine wanted_intro (by first | rfl | kernel_rfl) ?_
  refine wp_load_mid 46 (.tmp 1) rfl w.heap.size 0 rfl [.int .i64 b, .int .i64 p, .int .i64 s, .int .i64 en, .int .i64 ct, .int .i64 rr, .int .i64 rt, .slice RA rn rc, .bool rl, .int .i64 ra, .int .i64 sr, .slice SA sn sc, .int .i64 sh, .int .i64 sl, .bool ma, .bool mb, .bool mc, .bool md] _ (Blk.range (Blk.drew F6) 0 (n := 18) rfl) Try.underlying46 rfl sz_laws_Port ?_
  refine hK _ _ ?_
  refine wpAny_ready (rs := [0, 2]) (by kernel_rfl) (by simp) ?_
  refine AllReady.cons rfl (fun K hK => ?_) ?_
  · refine wanted_intro (by first | rfl | kernel_rfl) ?_
    refine wp_load_mid 33 (.tmp 5) rfl w4.heap.size 0 rfl [.int .i64 b, .int .i64 p, .int .i64 s, .int .i64 en, .int .i64 ct, .int .i64 rr, .int .i64 rt, .slice RA4 rn rc4, .bool rl, .int .i64 ra, .int .i64 sr, .slice SA4 sn sc4, .int .i64 sh, .int .i64 sl, .bool ma, .bool mb, .bool mc, .bool md] _ (Blk.range (Blk.drew X6) 0 (n := 18) rfl) Try.underlying33 rfl sz_impl_Port ?_
    refine hK _ _ ?_
    refine wpAny_ready (rs := [2]) (by kernel_rfl) (by simp) ?_
    refine AllReady.cons rfl (fun K hK => ?_) AllReady.nil
    go_simp
    (with_reducible refine (toPort_any (gs := gs) (xs := xs) _ (hg.below (by repeat (first | (with_reducible exact b_refl _) | (with_reducible refine b_alloc ?_ _) | (with_reducible refine b_drew ?_) | (with_reducible refine b_drewN ?_ _) | (with_reducible refine b_set ?_ ?_ _) | (with_reducible refine b_trans ?_ (by assumption)) | (with_reducible refine b_only ?_ (by assumption) ?_) | omega | (focus (simp; done)) | (focus (simp; omega))))) (hx.below (by repeat (first | (with_reducible exact b_refl _) | (with_reducible refine b_alloc ?_ _) | (with_reducible refine b_drew ?_) | (with_reducible refine b_drewN ?_ _) | (with_reducible refine b_set ?_ ?_ _) | (with_reducible refine b_trans ?_ (by assumption)) | (with_reducible refine b_only ?_ (by assumption) ?_) | omega | (focus (simp; done)) | (focus (simp; omega))))) hrn hsn).mono ?_); rintro e w7 ⟨RA7, SA7, rc7, sc7, rfl, hg7, hx7, hb7⟩
    go_wp2
    refine wpAny_ready (rs := [3]) (by kernel_rfl) (by simp) ?_
    refine AllReady.cons rfl (fun K hK => ?_) AllReady.nil
    go_simp
    (with_reducible refine (eqPort_same _ (hg6.below (by repeat (first | (with_reducible exact b_refl _) | (with_reducible refine b_alloc ?_ _) | (with_reducible refine b_drew ?_) | (with_reducible refine b_drewN ?_ _) | (with_reducible refine b_set ?_ ?_ _) | (with_reducible refine b_trans ?_ (by assumption)) | (with_reducible refine b_only ?_ (by assumption) ?_) | omega | (focus (simp; done)) | (focus (simp; omega))))) (hx6.below (by repeat (first | (with_reducible exact b_refl _) | (with_reducible refine b_alloc ?_ _) | (with_reducible refine b_drew ?_) | (with_reducible refine b_drewN ?_ _) | (with_reducible refine b_set ?_ ?_ _) | (with_reducible refine b_trans ?_ (by assumption)) | (with_reducible refine b_only ?_ (by assumption) ?_) | omega | (focus (simp; done)) | (focus (simp; omega))))) (Gots.of_own hg7) (Ints.of_own hx7) hrn hsn).mono ?_); rintro e w8 ⟨rfl, hb8⟩
    go_wp2
    refine wpAny_ready (rs := [4]) (by kernel_rfl) (by simp) ?_
    refine AllReady.cons rfl (fun K hK => ?_) AllReady.nil
    go_simp
    refine hK _ _ ?_
    refine wpAny_done (by kernel_rfl) ?_ _
    go_wp2
    go_ret
    exact ⟨rfl, (by repeat (first | (with_reducible exact b_refl _) | (with_reducible refine b_alloc ?_ _) | (with_reducible refine b_drew ?_) | (with_reducible refine b_drewN ?_ _) | (with_reducible refine b_set ?_ ?_ _) | (with_reducible refine b_trans ?_ (by assumption)) | (with_reducible refine b_only ?_ (by assumption) ?_) | omega | (focus (simp; done)) | (focus (simp; omega))))⟩
  refine AllReady.cons rfl (fun K hK => ?_) AllReady.nil
  go_simp
  (with_reducible refine (toPort_any (gs := gs) (xs := xs) _ (hg.below (by repeat (first | (with_reducible exact b_refl _) | (with_reducible refine b_alloc ?_ _) | (with_reducible refine b_drew ?_) | (with_reducible refine b_drewN ?_ _) | (with_reducible refine b_set ?_ ?_ _) | (with_reducible refine b_trans ?_ (by assumption)) | (with_reducible refine b_only ?_ (by assumption) ?_) | omega | (focus (simp; done)) | (focus (simp; omega))))) (hx.below (by repeat (first | (with_reducible exact b_refl _) | (with_reducible refine b_alloc ?_ _) | (with_reducible refine b_drew ?_) | (with_reducible refine b_drewN ?_ _) | (with_reducible refine b_set ?_ ?_ _) | (with_reducible refine b_trans ?_ (by assumption)) | (with_reducible refine b_only ?_ (by assumption) ?_) | omega | (focus (simp; done)) | (focus (simp; omega))))) hrn hsn).mono ?_); rintro e w7 ⟨RA7, SA7, rc7, sc7, rfl, hg7, hx7, hb7⟩
  go_wp2
  refine wpAny_ready (rs := [0]) (by kernel_rfl) (by simp) ?_
  refine AllReady.cons rfl (fun K hK => ?_) AllReady.nil
  refine wanted_intro (by first | rfl | kernel_rfl) ?_
  refine wp_load_mid 33 (.tmp 5) rfl w4.heap.size 0 rfl [.int .i64 b, .int .i64 p, .int .i64 s, .int .i64 en, .int .i64 ct, .int .i64 rr, .int .i64 rt, .slice RA4 rn rc4, .bool rl, .int .i64 ra, .int .i64 sr, .slice SA4 sn sc4, .int .i64 sh, .int .i64 sl, .bool ma, .bool mb, .bool mc, .bool md] _ (Blk.range ((Blk.drew X6).below hb7 (Blk.drew X6).lt) 0 (n := 18) rfl) Try.underlying33 rfl sz_impl_Port ?_
  refine hK _ _ ?_
  refine wpAny_ready (rs := [3]) (by kernel_rfl) (by simp) ?_
  refine AllReady.cons rfl (fun K hK => ?_) AllReady.nil
  go_simp
  (with_reducible refine (eqPort_same _ (hg6.below (by repeat (first | (with_reducible exact b_refl _) | (with_reducible refine b_alloc ?_ _) | (with_reducible refine b_drew ?_) | (with_reducible refine b_drewN ?_ _) | (with_reducible refine b_set ?_ ?_ _) | (with_reducible refine b_trans ?_ (by assumption)) | (with_reducible refine b_only ?_ (by assumption) ?_) | omega | (focus (simp; done)) | (focus (simp; omega))))) (hx6.below (by repeat (first | (with_reducible exact b_refl _) | (with_reducible refine b_alloc ?_ _) | (with_reducible refine b_drew ?_) | (with_reducible refine b_drewN ?_ _) | (with_reducible refine b_set ?_ ?_ _) | (with_reducible refine b_trans ?_ (by assumption)) | (with_reducible refine b_only ?_ (by assumption) ?_) | omega | (focus (simp; done)) | (focus (simp; omega))))) (Gots.of_own hg7) (Ints.of_own hx7) hrn hsn).mono ?_); rintro e w8 ⟨rfl, hb8⟩
  go_wp2
  refine wpAny_ready (rs := [4]) (by kernel_rfl) (by simp) ?_
  refine AllReady.cons rfl (fun K hK => ?_) AllReady.nil
  go_simp
  refine hK _ _ ?_
  refine wpAny_done (by kernel_rfl) ?_ _
  go_wp2
  go_ret
  exact ⟨rfl, (by repeat (first | (with_reducible exact b_refl _) | (with_reducible refine b_alloc ?_ _) | (with_reducible refine b_drew ?_) | (with_reducible refine b_drewN ?_ _) | (with_reducible refine b_set ?_ ?_ _) | (with_reducible refine b_trans ?_ (by assumption)) | (with_reducible refine b_only ?_ (by assumption) ?_) | omega | (focus (simp; done)) | (focus (simp; omega))))⟩
theorem FnExactPortValid_calls {b p s en ct rr rt ra sr sh sl : Int} {rl ma mb mc md : Bool} {rn sn : Nat} {gs : List (Int × Int)} {xs : List Int} {RA SA : Option Addr} {rc sc : Nat} (w : World) (hg : Gots w RA rn gs) (hx : Ints w SA sn xs) (hrn : rn ≤ maxLen) (hsn : sn ≤ maxLen) :
    Calls Try.prog 4 #[.agg #[.int .i64 b, .int .i64 p, .int .i64 s, .int .i64 en, .int .i64 ct, .int .i64 rr, .int .i64 rt, .slice RA rn rc, .bool rl, .int .i64 ra, .int .i64 sr, .slice SA sn sc, .int .i64 sh, .int .i64 sl, .bool ma, .bool mb, .bool mc, .bool md]] w fun e w' => e = .returned (.bool true) ∧ Below w.heap.size w w' := by
  unfold maxLen at hrn hsn
  by_cases h : portLeft rn sn 1048576 < 0
  · exact FnExactPortValid_big (gs := gs) (xs := xs) w (by omega) (by omega) h
  · have hk := (portLeft_ok (Int.not_lt.1 h)).1
    exact FnExactPortValid_small w hg hx (by omega) (by omega) h
set_option maxRecDepth 100000 in
set_option maxRecDepth 100000 in
theorem FnExactPortValid_lifted (os : Os) (started : os.Started) (H : Type) (enc : TypeId × Value → H) :
    ReturnsInHanded {} Try.checked os 4 .any (Rows.fnExactPortValidSpec.pre6 enc Try.prog Try.f4 Rows.fnExactPortValidRow.domain false) (Rows.fnExactPortValidSpec.post enc Try.prog Try.f4 false true false false) := by
  refine returnsInHanded_of_change (C := Try.checked) own started (by kernel_rfl) Try.func4
    (ChangeSpec.witness6 (enc := enc) (C := Try.checked) false ⟨#[], #[.agg #[.int .i64 0, .int .i64 0, .int .i64 0, .int .i64 0, .int .i64 0, .int .i64 0, .int .i64 0, .slice none 0 0, .bool false, .int .i64 0, .int .i64 0, .slice none 0 0, .int .i64 0, .int .i64 0, .bool false, .bool false, .bool false, .bool false]], []⟩ 8 (by kernel_rfl) (by kernel_rfl) (by kernel_rfl) (by kernel_rfl)) ?_
  intro W base args ds gs before hval0 hW _ _
  have hval : ∀ (j : Nat) t v, Try.f4.params[j]? = some t → args[j]? = some v → Value.okWide Try.prog W .any base t v := hval0
  have hW2 := hW
  obtain ⟨p, q, hA0, hV, rfl, _, _⟩ := hW2
  have hA : DataW.TrodAll enc Try.prog W 0 (fun _ => true) true Try.f4.params.toList args.toList ds p := hA0
  rw [Try.params4] at hA hval
  obtain ⟨v0, d0, rfl, rfl, h0⟩ := trodAll_one hA
  obtain ⟨rfl, rfl⟩ := trodVars_none hV
  obtain ⟨b, p, s, en, ct, rr, rt, ra, sr, sh, sl, rl, ma, mb, mc, md, rn, sn, gs, xs, RA, SA, rc, sc, rfl, hg, hrc, hrm, hx, hsc, hsm⟩ := open_port (hval 0 _ v0 rfl rfl) h0
  refine (FnExactPortValid_calls W hg hx (by omega) (by omega)).mono fun e W' ⟨he, hb⟩ => ?_
  subst he
  exact ⟨_, rfl, law_post (f := Try.f4) (s := Rows.fnExactPortValidSpec) 4 laid_out (by kernel_rfl) rfl (by kernel_rfl) Try.underlying4 hW rfl hb⟩
theorem FnExactPortValid_holds : Rows.FnExactPortValidSaid :=
  OpenClaim.holds_of_wide 4 Try.f4 rfl rfl rfl rfl rfl rfl rfl ⟨rfl, rfl, rfl, rfl, rfl⟩ rfl rfl rfl rfl rfl (by kernel_rfl) Try.func4 (by kernel_rfl)
    (of_decide_eq_true (by kernel_rfl)) (by unfold Func.isWrapper; rw [if_neg (of_decide_eq_false (by kernel_rfl))]; exact ⟨rfl, rfl⟩)
    (fun os started H enc _ => FnExactPortValid_lifted os started H enc)

end Go.Proofs.Ytpbhidlglcmlnaa
