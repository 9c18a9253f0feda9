/-
  PORTS AS THE LAWS HANDLE THEM: eqPort on ports with the same contents, szPort. Condition: at most 2^20 elements.
-/
import Derived.Test.YtdnjdbafffifeaaPortTo
set_option linter.unusedVariables false
set_option linter.unusedSimpArgs false
namespace Go.Proofs.Ytdnjdbafffifeaa
open Go.ChangeShapes Go.WideShapes Go.ChangeAt Go.RowKit

theorem eqFormat_same (a b c : Int) (w : World) : Calls Try.prog 47 #[.agg #[.int .i64 a, .int .i64 b, .int .i64 c], .agg #[.int .i64 a, .int .i64 b, .int .i64 c]] w fun e w' => e = .returned (.bool true) ∧ Below w.heap.size w w' := by
  go_enter Try.func47, Try.ntmps47
  go_wp2
  go_ret
  exact ⟨rfl, (by repeat (first | (with_reducible exact b_refl _) | (with_reducible refine b_alloc ?_ _) | (with_reducible refine b_drew ?_) | (with_reducible refine b_drewN ?_ _) | (with_reducible refine b_set ?_ ?_ _) | (with_reducible refine b_trans ?_ (by assumption)) | (with_reducible refine b_only ?_ (by assumption) ?_) | omega | (focus (simp; done)) | (focus (simp; omega))))⟩
theorem eqModem_same (a b c d : Bool) (w : World) : Calls Try.prog 50 #[.agg #[.bool a, .bool b, .bool c, .bool d], .agg #[.bool a, .bool b, .bool c, .bool d]] w fun e w' => e = .returned (.bool true) ∧ Below w.heap.size w w' := by
  go_enter Try.func50, Try.ntmps50
  go_wp2
  go_ret
  exact ⟨rfl, (by repeat (first | (with_reducible exact b_refl _) | (with_reducible refine b_alloc ?_ _) | (with_reducible refine b_drew ?_) | (with_reducible refine b_drewN ?_ _) | (with_reducible refine b_set ?_ ?_ _) | (with_reducible refine b_trans ?_ (by assumption)) | (with_reducible refine b_only ?_ (by assumption) ?_) | omega | (focus (simp; done)) | (focus (simp; omega))))⟩
theorem eqReceiver_same {rr rt : Int} {RA RA2 : Option Addr} {rn rc rc2 : Nat} {rl : Bool} {ra : Int} {gs : List (Int × Int)} (w : World) (hg : Gots w RA rn gs) (hg2 : Gots w RA2 rn gs) (hn : rn ≤ 1048576) :
    Calls Try.prog 48 #[.agg #[.int .i64 rr, .int .i64 rt, .slice RA rn rc, .bool rl, .int .i64 ra], .agg #[.int .i64 rr, .int .i64 rt, .slice RA2 rn rc2, .bool rl, .int .i64 ra]] w fun e w' => e = .returned (.bool true) ∧ Below w.heap.size w w' := by
  go_enter Try.func48, Try.ntmps48
  go_wp2_with fail
  (with_reducible refine (eqGotS_same RA RA2 rn rc rc2 gs _ (Gots.lift hg (by repeat (first | (with_reducible exact hg) | (with_reducible refine Gots.drew ?_) | (with_reducible refine Gots.drewN ?_ _) | (with_reducible refine Gots.alloc ?_ _) | (with_reducible refine Gots.below ?_ (by assumption))))) (Gots.lift hg2 (by repeat (first | (with_reducible exact hg2) | (with_reducible refine Gots.drew ?_) | (with_reducible refine Gots.drewN ?_ _) | (with_reducible refine Gots.alloc ?_ _) | (with_reducible refine Gots.below ?_ (by assumption))))) hn).mono ?_); rintro e w1 ⟨rfl, hb1⟩; have hz1 := hb1.size; (try simp at hz1); have F1 := ((Blk.new _ _ _).alloc _).below hb1 (by first | omega | (simp; done) | (simp; omega)); (try simp only [World.size_alloc, List.setIfInBounds_toArray, List.set_cons_zero, List.set_cons_succ] at F1); have F1l := F1.lt; (try simp only [World.size_alloc] at F1l); have F1c0 := F1.cellv 0 rfl; have F1c1 := F1.cellv 1 rfl; have F1c2 := F1.cellv 2 rfl; have F1c3 := F1.cellv 3 rfl; have F1c4 := F1.cellv 4 rfl; have G1 := (Blk.new _ _ _).below hb1 (by first | omega | (simp; done) | (simp; omega)); (try simp only [World.size_alloc, List.setIfInBounds_toArray, List.set_cons_zero, List.set_cons_succ] at G1); have G1l := G1.lt; (try simp only [World.size_alloc] at G1l); have G1c0 := G1.cellv 0 rfl; have G1c1 := G1.cellv 1 rfl; have G1c2 := G1.cellv 2 rfl; have G1c3 := G1.cellv 3 rfl; have G1c4 := G1.cellv 4 rfl
  go_wp2
  go_ret
  exact ⟨rfl, (by repeat (first | (with_reducible exact b_refl _) | (with_reducible refine b_alloc ?_ _) | (with_reducible refine b_drew ?_) | (with_reducible refine b_drewN ?_ _) | (with_reducible refine b_set ?_ ?_ _) | (with_reducible refine b_trans ?_ (by assumption)) | (with_reducible refine b_only ?_ (by assumption) ?_) | omega | (focus (simp; done)) | (focus (simp; omega))))⟩
theorem eqSender_same {sr : Int} {SA SA2 : Option Addr} {sn sc sc2 : Nat} {sh sl : Int} {xs : List Int} (w : World) (hx : Ints w SA sn xs) (hx2 : Ints w SA2 sn xs) (hn : sn ≤ 1048576) :
    Calls Try.prog 49 #[.agg #[.int .i64 sr, .slice SA sn sc, .int .i64 sh, .int .i64 sl], .agg #[.int .i64 sr, .slice SA2 sn sc2, .int .i64 sh, .int .i64 sl]] w fun e w' => e = .returned (.bool true) ∧ Below w.heap.size w w' := by
  go_enter Try.func49, Try.ntmps49
  go_wp2_with fail
  (with_reducible refine (eqIntS_any SA SA2 sn sn sc sc2 xs xs _ (Ints.lift hx (by repeat (first | (with_reducible exact hx) | (with_reducible refine Ints.drew ?_) | (with_reducible refine Ints.drewN ?_ _) | (with_reducible refine Ints.alloc ?_ _) | (with_reducible refine Ints.below ?_ (by assumption))))) (Ints.lift hx2 (by repeat (first | (with_reducible exact hx2) | (with_reducible refine Ints.drew ?_) | (with_reducible refine Ints.drewN ?_ _) | (with_reducible refine Ints.alloc ?_ _) | (with_reducible refine Ints.below ?_ (by assumption))))) (by omega) (by omega)).mono ?_); rintro e w1 ⟨rfl, hb1⟩; have hz1 := hb1.size; (try simp at hz1); have F1 := ((Blk.new _ _ _).alloc _).below hb1 (by first | omega | (simp; done) | (simp; omega)); (try simp only [World.size_alloc, List.setIfInBounds_toArray, List.set_cons_zero, List.set_cons_succ] at F1); have F1l := F1.lt; (try simp only [World.size_alloc] at F1l); have F1c0 := F1.cellv 0 rfl; have F1c1 := F1.cellv 1 rfl; have F1c2 := F1.cellv 2 rfl; have F1c3 := F1.cellv 3 rfl; have G1 := (Blk.new _ _ _).below hb1 (by first | omega | (simp; done) | (simp; omega)); (try simp only [World.size_alloc, List.setIfInBounds_toArray, List.set_cons_zero, List.set_cons_succ] at G1); have G1l := G1.lt; (try simp only [World.size_alloc] at G1l); have G1c0 := G1.cellv 0 rfl; have G1c1 := G1.cellv 1 rfl; have G1c2 := G1.cellv 2 rfl; have G1c3 := G1.cellv 3 rfl
  go_wp2
  all_goals go_ret
  all_goals first | exact ⟨rfl, (by repeat (first | (with_reducible exact b_refl _) | (with_reducible refine b_alloc ?_ _) | (with_reducible refine b_drew ?_) | (with_reducible refine b_drewN ?_ _) | (with_reducible refine b_set ?_ ?_ _) | (with_reducible refine b_trans ?_ (by assumption)) | (with_reducible refine b_only ?_ (by assumption) ?_) | omega | (focus (simp; done)) | (focus (simp; omega))))⟩ | exact ⟨ret_bool (by simp_all), (by repeat (first | (with_reducible exact b_refl _) | (with_reducible refine b_alloc ?_ _) | (with_reducible refine b_drew ?_) | (with_reducible refine b_drewN ?_ _) | (with_reducible refine b_set ?_ ?_ _) | (with_reducible refine b_trans ?_ (by assumption)) | (with_reducible refine b_only ?_ (by assumption) ?_) | omega | (focus (simp; done)) | (focus (simp; omega))))⟩
set_option maxHeartbeats 2000000 in
theorem eqPort_same {b p s en ct rr rt ra sr sh sl : Int} {rl ma mb mc md : Bool} {rn sn : Nat} {gs : List (Int × Int)} {xs : List Int} {RA SA : Option Addr} {rc sc : Nat} {RA2 SA2 : Option Addr} {rc2 sc2 : Nat} (w : World) (hg : Gots w RA rn gs) (hx : Ints w SA sn xs) (hg2 : Gots w RA2 rn gs) (hx2 : Ints w SA2 sn xs) (hrn : rn ≤ 1048576) (hsn : sn ≤ 1048576) :
    Calls Try.prog 29 #[.agg #[.int .i64 b, .int .i64 p, .int .i64 s, .int .i64 en, .int .i64 ct, .int .i64 rr, .int .i64 rt, .slice RA rn rc, .bool rl, .int .i64 ra, .int .i64 sr, .slice SA sn sc, .int .i64 sh, .int .i64 sl, .bool ma, .bool mb, .bool mc, .bool md], .agg #[.int .i64 b, .int .i64 p, .int .i64 s, .int .i64 en, .int .i64 ct, .int .i64 rr, .int .i64 rt, .slice RA2 rn rc2, .bool rl, .int .i64 ra, .int .i64 sr, .slice SA2 sn sc2, .int .i64 sh, .int .i64 sl, .bool ma, .bool mb, .bool mc, .bool md]] w fun e w' => e = .returned (.bool true) ∧ Below w.heap.size w w' := by
  go_enter Try.func29, Try.ntmps29
  go_wp2_with fail
  (with_reducible refine (eqFormat_same _ _ _ _).mono ?_); rintro e w1 ⟨rfl, hb1⟩; have hz1 := hb1.size; (try simp at hz1); have F1 := ((Blk.new _ _ _).alloc _).below hb1 (by first | omega | (simp; done) | (simp; omega)); (try simp only [World.size_alloc, List.setIfInBounds_toArray, List.set_cons_zero, List.set_cons_succ] at F1); have F1l := F1.lt; (try simp only [World.size_alloc] at F1l); have F1c3 := F1.cellv 3 rfl; have F1c4 := F1.cellv 4 rfl; have G1 := (Blk.new _ _ _).below hb1 (by first | omega | (simp; done) | (simp; omega)); (try simp only [World.size_alloc, List.setIfInBounds_toArray, List.set_cons_zero, List.set_cons_succ] at G1); have G1l := G1.lt; (try simp only [World.size_alloc] at G1l); have G1c3 := G1.cellv 3 rfl; have G1c4 := G1.cellv 4 rfl
  go_wp2_with (first | (refine at_load 43 (.tmp 21) rfl ?_; go_must (refine wpList_loadB (Blk.now F1 (by repeat (first | (with_reducible exact F1) | (with_reducible refine Blk.drew ?_) | (with_reducible refine Blk.drewN ?_ _) | (with_reducible refine Blk.alloc ?_ _) | (with_reducible refine Blk.far ?_ ?_ _) | omega | (focus (simp; done)) | (focus (simp; omega))))) 43 (.tmp 21) rfl (by rfl) 5 rfl [.int .i64 rr, .int .i64 rt, .slice RA rn rc, .bool rl, .int .i64 ra] rfl Try.underlying43 rfl sz_impl_Receiver ?_)) | (refine at_load 43 (.tmp 23) rfl ?_; go_must (refine wpList_loadB (Blk.now G1 (by repeat (first | (with_reducible exact G1) | (with_reducible refine Blk.drew ?_) | (with_reducible refine Blk.drewN ?_ _) | (with_reducible refine Blk.alloc ?_ _) | (with_reducible refine Blk.far ?_ ?_ _) | omega | (focus (simp; done)) | (focus (simp; omega))))) 43 (.tmp 23) rfl (by rfl) 5 rfl [.int .i64 rr, .int .i64 rt, .slice RA2 rn rc2, .bool rl, .int .i64 ra] rfl Try.underlying43 rfl sz_impl_Receiver ?_)) | (go_at_call 48; go_must ((with_reducible refine (eqReceiver_same _ (hg.below (by repeat (first | (with_reducible exact b_refl _) | (with_reducible refine b_alloc ?_ _) | (with_reducible refine b_drew ?_) | (with_reducible refine b_drewN ?_ _) | (with_reducible refine b_set ?_ ?_ _) | (with_reducible refine b_trans ?_ (by assumption)) | (with_reducible refine b_only ?_ (by assumption) ?_) | omega | (focus (simp; done)) | (focus (simp; omega))))) (hg2.below (by repeat (first | (with_reducible exact b_refl _) | (with_reducible refine b_alloc ?_ _) | (with_reducible refine b_drew ?_) | (with_reducible refine b_drewN ?_ _) | (with_reducible refine b_set ?_ ?_ _) | (with_reducible refine b_trans ?_ (by assumption)) | (with_reducible refine b_only ?_ (by assumption) ?_) | omega | (focus (simp; done)) | (focus (simp; omega))))) hrn).mono ?_); rintro e w2 ⟨rfl, hb2⟩; have hz2 := hb2.size; (try simp at hz2); have F2 := Blk.lift F1 hb2 (by repeat (first | (with_reducible exact F1) | (with_reducible refine Blk.drew ?_) | (with_reducible refine Blk.drewN ?_ _) | (with_reducible refine Blk.alloc ?_ _) | (with_reducible refine Blk.far ?_ ?_ _) | omega | (focus (simp; done)) | (focus (simp; omega)))); (try simp only [World.size_alloc, List.setIfInBounds_toArray, List.set_cons_zero, List.set_cons_succ] at F2); have F2l := F2.lt; (try simp only [World.size_alloc] at F2l); have G2 := Blk.lift G1 hb2 (by repeat (first | (with_reducible exact G1) | (with_reducible refine Blk.drew ?_) | (with_reducible refine Blk.drewN ?_ _) | (with_reducible refine Blk.alloc ?_ _) | (with_reducible refine Blk.far ?_ ?_ _) | omega | (focus (simp; done)) | (focus (simp; omega)))); (try simp only [World.size_alloc, List.setIfInBounds_toArray, List.set_cons_zero, List.set_cons_succ] at G2); have G2l := G2.lt; (try simp only [World.size_alloc] at G2l))) | (refine at_load 44 (.tmp 27) rfl ?_; go_must (refine wpList_loadB (Blk.now F2 (by repeat (first | (with_reducible exact F2) | (with_reducible refine Blk.drew ?_) | (with_reducible refine Blk.drewN ?_ _) | (with_reducible refine Blk.alloc ?_ _) | (with_reducible refine Blk.far ?_ ?_ _) | omega | (focus (simp; done)) | (focus (simp; omega))))) 44 (.tmp 27) rfl (by rfl) 10 rfl [.int .i64 sr, .slice SA sn sc, .int .i64 sh, .int .i64 sl] rfl Try.underlying44 rfl sz_impl_Sender ?_)) | (refine at_load 44 (.tmp 29) rfl ?_; go_must (refine wpList_loadB (Blk.now G2 (by repeat (first | (with_reducible exact G2) | (with_reducible refine Blk.drew ?_) | (with_reducible refine Blk.drewN ?_ _) | (with_reducible refine Blk.alloc ?_ _) | (with_reducible refine Blk.far ?_ ?_ _) | omega | (focus (simp; done)) | (focus (simp; omega))))) 44 (.tmp 29) rfl (by rfl) 10 rfl [.int .i64 sr, .slice SA2 sn sc2, .int .i64 sh, .int .i64 sl] rfl Try.underlying44 rfl sz_impl_Sender ?_)) | (go_at_call 49; go_must ((with_reducible refine (eqSender_same _ (hx.below (by repeat (first | (with_reducible exact b_refl _) | (with_reducible refine b_alloc ?_ _) | (with_reducible refine b_drew ?_) | (with_reducible refine b_drewN ?_ _) | (with_reducible refine b_set ?_ ?_ _) | (with_reducible refine b_trans ?_ (by assumption)) | (with_reducible refine b_only ?_ (by assumption) ?_) | omega | (focus (simp; done)) | (focus (simp; omega))))) (hx2.below (by repeat (first | (with_reducible exact b_refl _) | (with_reducible refine b_alloc ?_ _) | (with_reducible refine b_drew ?_) | (with_reducible refine b_drewN ?_ _) | (with_reducible refine b_set ?_ ?_ _) | (with_reducible refine b_trans ?_ (by assumption)) | (with_reducible refine b_only ?_ (by assumption) ?_) | omega | (focus (simp; done)) | (focus (simp; omega))))) hsn).mono ?_); rintro e w3 ⟨rfl, hb3⟩; have hz3 := hb3.size; (try simp at hz3); have F3 := Blk.lift F2 hb3 (by repeat (first | (with_reducible exact F2) | (with_reducible refine Blk.drew ?_) | (with_reducible refine Blk.drewN ?_ _) | (with_reducible refine Blk.alloc ?_ _) | (with_reducible refine Blk.far ?_ ?_ _) | omega | (focus (simp; done)) | (focus (simp; omega)))); (try simp only [World.size_alloc, List.setIfInBounds_toArray, List.set_cons_zero, List.set_cons_succ] at F3); have F3l := F3.lt; (try simp only [World.size_alloc] at F3l); have G3 := Blk.lift G2 hb3 (by repeat (first | (with_reducible exact G2) | (with_reducible refine Blk.drew ?_) | (with_reducible refine Blk.drewN ?_ _) | (with_reducible refine Blk.alloc ?_ _) | (with_reducible refine Blk.far ?_ ?_ _) | omega | (focus (simp; done)) | (focus (simp; omega)))); (try simp only [World.size_alloc, List.setIfInBounds_toArray, List.set_cons_zero, List.set_cons_succ] at G3); have G3l := G3.lt; (try simp only [World.size_alloc] at G3l))) | (refine at_load 45 (.tmp 33) rfl ?_; go_must (refine wpList_loadB (Blk.now F3 (by repeat (first | (with_reducible exact F3) | (with_reducible refine Blk.drew ?_) | (with_reducible refine Blk.drewN ?_ _) | (with_reducible refine Blk.alloc ?_ _) | (with_reducible refine Blk.far ?_ ?_ _) | omega | (focus (simp; done)) | (focus (simp; omega))))) 45 (.tmp 33) rfl (by rfl) 14 rfl [.bool ma, .bool mb, .bool mc, .bool md] rfl Try.underlying45 rfl sz_impl_Modem ?_)) | (refine at_load 45 (.tmp 35) rfl ?_; go_must (refine wpList_loadB (Blk.now G3 (by repeat (first | (with_reducible exact G3) | (with_reducible refine Blk.drew ?_) | (with_reducible refine Blk.drewN ?_ _) | (with_reducible refine Blk.alloc ?_ _) | (with_reducible refine Blk.far ?_ ?_ _) | omega | (focus (simp; done)) | (focus (simp; omega))))) 45 (.tmp 35) rfl (by rfl) 14 rfl [.bool ma, .bool mb, .bool mc, .bool md] rfl Try.underlying45 rfl sz_impl_Modem ?_)) | (go_at_call 50; go_must ((with_reducible refine (eqModem_same _ _ _ _ _).mono ?_); rintro e w4 ⟨rfl, hb4⟩; have hz4 := hb4.size; (try simp at hz4))))
  go_ret
  exact ⟨rfl, (by repeat (first | (with_reducible exact b_refl _) | (with_reducible refine b_alloc ?_ _) | (with_reducible refine b_drew ?_) | (with_reducible refine b_drewN ?_ _) | (with_reducible refine b_set ?_ ?_ _) | (with_reducible refine b_trans ?_ (by assumption)) | (with_reducible refine b_only ?_ (by assumption) ?_) | omega | (focus (simp; done)) | (focus (simp; omega))))⟩
theorem szReceiver_any {rr rt : Int} {RA : Option Addr} {rn rc : Nat} {rl : Bool} {ra : Int} (l : Int) (w : World) (hn : rn ≤ 9223372036854775807) (h0 : 0 ≤ l) (h1 : l ≤ 1048576) :
    Calls Try.prog 41 #[.agg #[.int .i64 rr, .int .i64 rt, .slice RA rn rc, .bool rl, .int .i64 ra], .int .i64 l] w fun e w' => e = .returned (.int .i64 (if (rn : Int) ≤ l then l - rn else -1)) ∧ Below w.heap.size w w' := by
  by_cases h : (rn : Int) ≤ l
  · rw [if_pos h]
    have h2 : ¬ l - rn < 0 := by omega
    go_enter Try.func41, Try.ntmps41
    go_wp2_with fail
    (with_reducible refine (szGotS_any RA rn rc l _ hn h0 h1).mono ?_); rintro e w1 ⟨rfl, rfl⟩
    rw [if_pos h]
    go_wp2
    go_ret
    exact ⟨rfl, (by repeat (first | (with_reducible exact b_refl _) | (with_reducible refine b_alloc ?_ _) | (with_reducible refine b_drew ?_) | (with_reducible refine b_drewN ?_ _) | (with_reducible refine b_set ?_ ?_ _) | (with_reducible refine b_trans ?_ (by assumption)) | (with_reducible refine b_only ?_ (by assumption) ?_) | omega | (focus (simp; done)) | (focus (simp; omega))))⟩
  · rw [if_neg h]
    have h3 : l < rn := by omega
    go_enter Try.func41, Try.ntmps41
    go_wp2_with fail
    (with_reducible refine (szGotS_any RA rn rc l _ hn h0 h1).mono ?_); rintro e w1 ⟨rfl, rfl⟩
    rw [if_neg (by omega)]
    go_wp2
    go_ret
    exact ⟨rfl, (by repeat (first | (with_reducible exact b_refl _) | (with_reducible refine b_alloc ?_ _) | (with_reducible refine b_drew ?_) | (with_reducible refine b_drewN ?_ _) | (with_reducible refine b_set ?_ ?_ _) | (with_reducible refine b_trans ?_ (by assumption)) | (with_reducible refine b_only ?_ (by assumption) ?_) | omega | (focus (simp; done)) | (focus (simp; omega))))⟩
theorem szSender_any {sr : Int} {SA : Option Addr} {sn sc : Nat} {sh sl : Int} (l : Int) (w : World) (hn : sn ≤ 9223372036854775807) (h0 : 0 ≤ l) (h1 : l ≤ 1048576) :
    Calls Try.prog 42 #[.agg #[.int .i64 sr, .slice SA sn sc, .int .i64 sh, .int .i64 sl], .int .i64 l] w fun e w' => e = .returned (.int .i64 (if (sn : Int) ≤ l then l - sn else -1)) ∧ Below w.heap.size w w' := by
  by_cases h : (sn : Int) ≤ l
  · rw [if_pos h]
    have h2 : ¬ l - sn < 0 := by omega
    go_enter Try.func42, Try.ntmps42
    go_wp2_with fail
    (with_reducible refine (szIntS_any SA sn sc l _ hn h0 h1).mono ?_); rintro e w1 ⟨rfl, rfl⟩
    rw [if_pos h]
    go_wp2
    go_ret
    exact ⟨rfl, (by repeat (first | (with_reducible exact b_refl _) | (with_reducible refine b_alloc ?_ _) | (with_reducible refine b_drew ?_) | (with_reducible refine b_drewN ?_ _) | (with_reducible refine b_set ?_ ?_ _) | (with_reducible refine b_trans ?_ (by assumption)) | (with_reducible refine b_only ?_ (by assumption) ?_) | omega | (focus (simp; done)) | (focus (simp; omega))))⟩
  · rw [if_neg h]
    have h3 : l < sn := by omega
    go_enter Try.func42, Try.ntmps42
    go_wp2_with fail
    (with_reducible refine (szIntS_any SA sn sc l _ hn h0 h1).mono ?_); rintro e w1 ⟨rfl, rfl⟩
    rw [if_neg (by omega)]
    go_wp2
    go_ret
    exact ⟨rfl, (by repeat (first | (with_reducible exact b_refl _) | (with_reducible refine b_alloc ?_ _) | (with_reducible refine b_drew ?_) | (with_reducible refine b_drewN ?_ _) | (with_reducible refine b_set ?_ ?_ _) | (with_reducible refine b_trans ?_ (by assumption)) | (with_reducible refine b_only ?_ (by assumption) ?_) | omega | (focus (simp; done)) | (focus (simp; omega))))⟩
/-- What szPort leaves. -/
def portLeft (rn sn : Nat) (l : Int) : Int := if (rn : Int) ≤ l then (if (sn : Int) ≤ l - rn then l - rn - sn else -1) else -1
theorem portLeft_ok {rn sn : Nat} {l : Int} (h : 0 ≤ portLeft rn sn l) : (rn : Int) + sn ≤ l ∧ portLeft rn sn l = l - rn - sn := by
  unfold portLeft at h ⊢
  split at h
  · rename_i h1
    split at h
    · rename_i h2
      rw [if_pos h1, if_pos h2]
      omega
    · omega
  · omega
set_option maxHeartbeats 1000000 in
theorem szPort_any {b p s en ct rr rt ra sr sh sl : Int} {rl ma mb mc md : Bool} {rn sn : Nat} {gs : List (Int × Int)} {xs : List Int} {RA SA : Option Addr} {rc sc : Nat} (l : Int) (w : World) (hn : rn ≤ 9223372036854775807) (hn2 : sn ≤ 9223372036854775807) (h0 : 0 ≤ l) (h1 : l ≤ 1048576) :
    Calls Try.prog 25 #[.agg #[.int .i64 b, .int .i64 p, .int .i64 s, .int .i64 en, .int .i64 ct, .int .i64 rr, .int .i64 rt, .slice RA rn rc, .bool rl, .int .i64 ra, .int .i64 sr, .slice SA sn sc, .int .i64 sh, .int .i64 sl, .bool ma, .bool mb, .bool mc, .bool md], .int .i64 l] w fun e w' => e = .returned (.int .i64 (portLeft rn sn l)) ∧ Below w.heap.size w w' := by
  by_cases h : (rn : Int) ≤ l
  · have h2 : ¬ l - rn < 0 := by omega
    by_cases k : (sn : Int) ≤ l - rn
    · have k2 : ¬ l - rn - sn < 0 := by omega
      rw [portLeft, if_pos h, if_pos k]
      go_enter Try.func25, Try.ntmps25
      go_wp2_with fail
      (with_reducible refine (szReceiver_any l _ hn h0 h1).mono ?_); rintro e w1 ⟨rfl, hb1⟩; have hz1 := hb1.size; (try simp at hz1); have F1 := (Blk.new _ _ _).below hb1 (by first | omega | (simp; done) | (simp; omega)); (try simp only [World.size_alloc, List.setIfInBounds_toArray, List.set_cons_zero, List.set_cons_succ] at F1); have F1l := F1.lt; (try simp only [World.size_alloc] at F1l)
      rw [if_pos h]
      go_wp2_with (refine at_load 29 (.tmp 11) rfl ?_; go_must (refine wpList_loadB (Blk.now F1 (by repeat (first | (with_reducible exact F1) | (with_reducible refine Blk.drew ?_) | (with_reducible refine Blk.drewN ?_ _) | (with_reducible refine Blk.alloc ?_ _) | (with_reducible refine Blk.far ?_ ?_ _) | omega | (focus (simp; done)) | (focus (simp; omega))))) 29 (.tmp 11) rfl (by rfl) 10 rfl [.int .i64 sr, .slice SA sn sc, .int .i64 sh, .int .i64 sl] rfl Try.underlying29 rfl sz_laws_Sender ?_))
      (with_reducible refine (szSender_any (l - rn) _ hn2 (by omega) (by omega)).mono ?_); rintro e w2 ⟨rfl, hb2⟩
      rw [if_pos k]
      go_wp2
      go_ret
      exact ⟨rfl, (by repeat (first | (with_reducible exact b_refl _) | (with_reducible refine b_alloc ?_ _) | (with_reducible refine b_drew ?_) | (with_reducible refine b_drewN ?_ _) | (with_reducible refine b_set ?_ ?_ _) | (with_reducible refine b_trans ?_ (by assumption)) | (with_reducible refine b_only ?_ (by assumption) ?_) | omega | (focus (simp; done)) | (focus (simp; omega))))⟩
    · have k3 : l - rn < sn := by omega
      rw [portLeft, if_pos h, if_neg k]
      go_enter Try.func25, Try.ntmps25
      go_wp2_with fail
      (with_reducible refine (szReceiver_any l _ hn h0 h1).mono ?_); rintro e w1 ⟨rfl, hb1⟩; have hz1 := hb1.size; (try simp at hz1); have F1 := (Blk.new _ _ _).below hb1 (by first | omega | (simp; done) | (simp; omega)); (try simp only [World.size_alloc, List.setIfInBounds_toArray, List.set_cons_zero, List.set_cons_succ] at F1); have F1l := F1.lt; (try simp only [World.size_alloc] at F1l)
      rw [if_pos h]
      go_wp2_with (refine at_load 29 (.tmp 11) rfl ?_; go_must (refine wpList_loadB (Blk.now F1 (by repeat (first | (with_reducible exact F1) | (with_reducible refine Blk.drew ?_) | (with_reducible refine Blk.drewN ?_ _) | (with_reducible refine Blk.alloc ?_ _) | (with_reducible refine Blk.far ?_ ?_ _) | omega | (focus (simp; done)) | (focus (simp; omega))))) 29 (.tmp 11) rfl (by rfl) 10 rfl [.int .i64 sr, .slice SA sn sc, .int .i64 sh, .int .i64 sl] rfl Try.underlying29 rfl sz_laws_Sender ?_))
      (with_reducible refine (szSender_any (l - rn) _ hn2 (by omega) (by omega)).mono ?_); rintro e w2 ⟨rfl, hb2⟩
      rw [if_neg (by omega)]
      go_wp2
      go_ret
      exact ⟨rfl, (by repeat (first | (with_reducible exact b_refl _) | (with_reducible refine b_alloc ?_ _) | (with_reducible refine b_drew ?_) | (with_reducible refine b_drewN ?_ _) | (with_reducible refine b_set ?_ ?_ _) | (with_reducible refine b_trans ?_ (by assumption)) | (with_reducible refine b_only ?_ (by assumption) ?_) | omega | (focus (simp; done)) | (focus (simp; omega))))⟩
  · rw [portLeft, if_neg h]
    have h3 : l < rn := by omega
    go_enter Try.func25, Try.ntmps25
    go_wp2_with fail
    (with_reducible refine (szReceiver_any l _ hn h0 h1).mono ?_); rintro e w1 ⟨rfl, hb1⟩; have hz1 := hb1.size; (try simp at hz1); have F1 := (Blk.new _ _ _).below hb1 (by first | omega | (simp; done) | (simp; omega)); (try simp only [World.size_alloc, List.setIfInBounds_toArray, List.set_cons_zero, List.set_cons_succ] at F1); have F1l := F1.lt; (try simp only [World.size_alloc] at F1l)
    rw [if_neg (by omega)]
    go_wp2
    go_ret
    exact ⟨rfl, (by repeat (first | (with_reducible exact b_refl _) | (with_reducible refine b_alloc ?_ _) | (with_reducible refine b_drew ?_) | (with_reducible refine b_drewN ?_ _) | (with_reducible refine b_set ?_ ?_ _) | (with_reducible refine b_trans ?_ (by assumption)) | (with_reducible refine b_only ?_ (by assumption) ?_) | omega | (focus (simp; done)) | (focus (simp; omega))))⟩
end Go.Proofs.Ytdnjdbafffifeaa
