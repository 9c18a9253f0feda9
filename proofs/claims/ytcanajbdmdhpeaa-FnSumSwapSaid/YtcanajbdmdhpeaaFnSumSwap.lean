/-
  FnSumSwap returns true for every code: two bytes that are exchanged are noticed.
-/
import Derived.Test.YtcanajbdmdhpeaaSumLaw
import Derived.Test.YtcanajbdmdhpeaaSumDraw
import Derived.Test.YtcanajbdmdhpeaaRow
set_option linter.unusedVariables false
set_option linter.unusedSimpArgs false
namespace Go.Proofs.Ytcanajbdmdhpeaa
open Go.ChangeShapes Go.WideShapes Go.ChangeAt Go.RowKit

set_option maxHeartbeats 4000000 in
theorem FnSumSwap_small (A : Option Addr) (n c : Nat) (w : World) (hC : Code w A n c) : Calls Try.prog 11 #[.slice A n c] w fun e w' => e = .returned (.bool true) ∧ Below w.heap.size w w' := by
  have hn : n ≤ 1048576 := hC.elim fun _ h => h.2.2.1
  have hn2 : ¬ 1048576 < n := by omega
  go_enter Try.func11, Try.ntmps11
  go_wp2_with fail
  (with_reducible refine (DrawSumTake_any _ _ _ _ hC).mono ?_); rintro e w1 ⟨A1, n1, c1, xs, rfl, hn1, hx1, hc1, hd1, hb1⟩; have hz1 := hb1.size; (try simp at hz1)
  have HX := Lib.hid hx1.len
  go_wp2_with fail
  (with_reducible refine (impl_SumTake _ _ _ _ _ hx1 (by omega) hc1 hd1).mono ?_); rintro e w2 ⟨A2, m2, c2, rfl, hm2, ho2, hc2, hd2, hb2⟩; have hz2 := hb2.size; (try simp at hz2)
  have HM2 := Lib.hid hm2
  clear hm2
  have hx2 := hx1.below hb2
  go_wp2_with fail
  (with_reducible refine (spec_SumTake _ _ _ _ _ hx2 (by omega) hc1 hd1).mono ?_); rintro e w3 ⟨A3, m3, c3, rfl, hm3, ho3, hc3, hd3, hb3⟩; have hz3 := hb3.size; (try simp at hz3)
  obtain rfl : m2 = m3 := HM2.out.trans hm3.symm
  clear hm3
  have hx3 := hx2.below hb3
  have g3 := own_below ho2 hb3
  have hml : m2 ≤ 40 := by
    have h1 := HM2.out
    have h2 := take_len xs
    have h3 := HX.out
    omega
  have B3 : Below w.heap.size w w3 := (by repeat (first | (with_reducible exact b_refl _) | (with_reducible refine b_alloc ?_ _) | (with_reducible refine b_drew ?_) | (with_reducible refine b_drewN ?_ _) | (with_reducible refine b_set ?_ ?_ _) | (with_reducible refine b_trans ?_ (by assumption)) | (with_reducible refine b_only ?_ (by assumption) ?_) | omega | (focus (simp; done)) | (focus (simp; omega))))
  by_cases hok : takeOk xs = true
  case' neg =>
    have hf : takeOk xs = false := by simpa using hok
    rw [hf]
    rw [if_neg hok] at g3 ho3 HM2
    clear hok
    go_wp2_with fail
    (with_reducible refine (sameInts_any A2 A3 m2 m2 c2 c3 _ _ _ (Ints.of_own g3) (Ints.of_own ho3) (by omega) (by omega)).mono ?_); rintro e w4 ⟨rfl, hb4⟩; have hz4 := hb4.size; (try simp at hz4)
    go_wp2_with fail
    (with_reducible refine (sameInts_any A2 A3 m2 m2 c2 c3 _ _ _ (Ints.of_own (own_below g3 hb4)) (Ints.of_own (own_below ho3 hb4)) (by omega) (by omega)).mono ?_); rintro e w5 ⟨rfl, hb5⟩; have hz5 := hb5.size; (try simp at hz5)
    go_wp2
    go_ret
    exact ⟨ret_bool (by simp), b_trans (b_trans B3 hb4) hb5⟩
  rw [hok]
  rw [if_pos hok] at g3 ho3 HM2
  have hp := takeOk_parts hok
  have h20 : n1 ≤ 20 := by have := HX.out; omega
  have h2 : 2 ≤ n1 := by have := HX.out; omega
  have hmn : m2 + 2 ≤ n1 ∧ n1 ≤ m2 + 2 := by
    have h1 := HM2.out
    have h3 := HX.out
    simp at h1
    omega
  clear HM2
  by_cases hm2 : m2 < 2
  · skip
    go_wp2_with fail
    (with_reducible refine (sameInts_any A2 A3 m2 m2 c2 c3 _ _ _ (Ints.of_own g3) (Ints.of_own ho3) (by omega) (by omega)).mono ?_); rintro e w4 ⟨rfl, hb4⟩; have hz4 := hb4.size; (try simp at hz4)
    have hmi : (m2 : Int) < 2 := by omega
    go_wp2_with fail
    (with_reducible refine (sameInts_any A2 A3 m2 m2 c2 c3 _ _ _ (Ints.of_own (own_below g3 hb4)) (Ints.of_own (own_below ho3 hb4)) (by omega) (by omega)).mono ?_); rintro e w5 ⟨rfl, hb5⟩; have hz5 := hb5.size; (try simp at hz5)
    go_wp2
    go_ret
    exact ⟨ret_bool (by simp), b_trans (b_trans B3 hb4) hb5⟩
  have hmi : ¬ (m2 : Int) < 2 := by omega
  go_wp2_with fail
  (with_reducible refine (sameInts_any A2 A3 m2 m2 c2 c3 _ _ _ (Ints.of_own g3) (Ints.of_own ho3) (by omega) (by omega)).mono ?_); rintro e w4 ⟨rfl, hb4⟩; have hz4 := hb4.size; (try simp at hz4)
  have g4 := own_below g3 hb4
  have hx4 := hx3.below hb4
  have B4 : Below w.heap.size w w4 := b_trans B3 hb4
  obtain ⟨x, y, zs, rfl⟩ : ∃ x y zs, xs = x :: y :: zs := by
    match xs, HX.out with
    | [], h => simp at h; omega
    | [_], h => simp at h; omega
    | x :: y :: zs, _ => exact ⟨x, y, zs, rfl⟩
  have hzl : 2 ≤ zs.length := by have := HX.out; simp at this; omega
  have HD : Hid (takeOk (y :: x :: zs) = true → (x - y) % 255 = 0) := fun h => swap_bad hok hzl h
  have hxb := bytesOk_at hp.1 (k := 0) (x := x) rfl
  have hyb := bytesOk_at hp.1 (k := 1) (x := y) rfl
  obtain ⟨b, o, x', rfl, hb, ex, hcx⟩ := hx4.at_ (k := 0) (by omega)
  simp at ex
  subst ex
  obtain ⟨b', o', y', eA, _, ey, hcy⟩ := hx4.at_ (k := 1) (by omega)
  simp at ey
  subst ey
  injection eA with eA
  injection eA with e1 e2
  subst e1; subst e2
  rw [Nat.add_zero] at hcx
  have hn1a : 0 < n1 := by omega
  have hn1b : 1 < n1 := by omega
  clear hok hp
  go_wp2_with (at_builtin; refine at_app (.tmp 52) (.tmp 53) rfl ?_; go_must (refine wpList_app (own_empty w4 w4.heap.size (Nat.le_refl _)) ((Ints.lift hx4 (by repeat (first | (with_reducible exact hx4) | (with_reducible refine Ints.drew ?_) | (with_reducible refine Ints.drewN ?_ _) | (with_reducible refine Ints.alloc ?_ _) | (with_reducible refine Ints.below ?_ (by assumption)))))) rfl (.tmp 52) (.tmp 53) rfl rfl rfl (n1) (by first | omega | (simp; done) | (simp; omega)) (by first | omega | (simp; done) | (simp; omega)) (by first | omega | (simp; done) | (simp; omega)) ?_; intro A5 c5 w5 own5 ho5 hat5 hc5 hd5; (try simp only [List.nil_append] at own5); have hz5 := ho5.size; (try simp at hz5); obtain ⟨g, cap, hv, hgb, hgl⟩ := own5.form (by omega); injection hv with hA _ hC2; subst hA; subst hC2; have hfu := own5.frozenAt 0; have hfv := own5.frozenAt 1; (have hcx5 : w5.cell? ⟨b, o, none⟩ = some (.int .i64 x) := (World.cell?_of_block (a := ⟨b, o, none⟩) (ho5.block b (by first | (simp; done) | (simp; omega)) (by first | (simp [Value.ownBlock]; done) | (simp [Value.ownBlock]; omega)))).trans ((World.cell?_alloc_lt _ _ _ (by first | (simp; done) | (simp; omega))).trans hcx)); (have hcy5 : w5.cell? ⟨b, o + 1, none⟩ = some (.int .i64 y) := (World.cell?_of_block (a := ⟨b, o + 1, none⟩) (ho5.block b (by first | (simp; done) | (simp; omega)) (by first | (simp [Value.ownBlock]; done) | (simp [Value.ownBlock]; omega)))).trans ((World.cell?_alloc_lt _ _ _ (by first | (simp; done) | (simp; omega))).trans hcy)); obtain ⟨u0, hu0, hcu0⟩ := own_cell own5 hn1a; obtain ⟨u1, hu1, hcu1⟩ := own_cell own5 hn1b; (have hgo : ¬ b = g := by omega); (have hgo2 : ¬ g = b := by omega)))
  have B5 : Below w.heap.size w w5 := (by repeat (first | (with_reducible exact b_refl _) | (with_reducible refine b_alloc ?_ _) | (with_reducible refine b_drew ?_) | (with_reducible refine b_drewN ?_ _) | (with_reducible refine b_set ?_ ?_ _) | (with_reducible refine b_trans ?_ (by assumption)) | (with_reducible refine b_only ?_ (by assumption) ?_) | (with_reducible refine b_own ?_ (by assumption) ?_) | omega | (focus (intro g hg; simp [Value.ownBlock] at hg; done)) | (focus (intro g hg; simp [Value.ownBlock] at hg; omega)) | (focus (refine fun g hg => Nat.le_trans ?_ (World.ownsRow.lt (by assumption) g hg).1; first | omega | (simp; done) | (simp; omega))) | (focus (simp; done)) | (focus (simp; omega))))
  have HCC := Lib.hid (own_cap own5)
  have hst := ((own5.stored 0 (.int .i64 y)).1.stored 1 (.int .i64 x)).1
  have e9 : (((x :: y :: zs).map (Value.int .i64)).set 0 (.int .i64 y)).set 1 (.int .i64 x) = (y :: x :: zs).map (Value.int .i64) := rfl
  rw [e9] at hst
  have HS := Lib.hid (Ints.of_own hst)
  clear hst e9 hu0 hu1
  go_wp2_with fail
  (with_reducible refine (impl_SumTake _ _ _ _ _ HS.out (by omega) HCC.out.1 HCC.out.2).mono ?_); rintro e w6 ⟨A6, m6, c6, rfl, hm6, ho6, hc6, hd6, hb6⟩; have hz6 := hb6.size; (try simp at hz6)
  clear hm6
  have t1 : IntKind.i64.wrap (x - y) = x - y := IntWalk.i64_in _ (by omega)
  by_cases hq : (x - y) % 255 = 0
  · have t2 : (x - y).tmod 255 = 0 := Int.tmod_eq_zero_of_dvd (Int.dvd_of_emod_eq_zero hq)
    generalize takeOk (y :: x :: zs) = bb at *
    clear hq HD
    have c1x := (hb6.cell (p := ⟨b, o, none⟩) (by first | (simp; done) | (simp; omega))).trans ((World.cell?_setCell_other _ _ ⟨b, o, none⟩ _ (by first | (simp; done) | (simp; omega))).trans ((World.cell?_setCell_other _ _ ⟨b, o, none⟩ _ (by first | (simp; done) | (simp; omega))).trans hcx5))
    have c1y := (hb6.cell (p := ⟨b, o + 1, none⟩) (by first | (simp; done) | (simp; omega))).trans ((World.cell?_setCell_other _ _ ⟨b, o + 1, none⟩ _ (by first | (simp; done) | (simp; omega))).trans ((World.cell?_setCell_other _ _ ⟨b, o + 1, none⟩ _ (by first | (simp; done) | (simp; omega))).trans hcy5))
    go_wp2_with fail
    go_quiet (fail)
    go_wp2
    go_ret
    exact ⟨rfl, (by repeat (first | (with_reducible exact b_refl _) | (with_reducible refine b_alloc ?_ _) | (with_reducible refine b_drew ?_) | (with_reducible refine b_drewN ?_ _) | (with_reducible refine b_set ?_ ?_ _) | (with_reducible refine b_trans ?_ (by assumption)) | (with_reducible refine b_only ?_ (by assumption) ?_) | (with_reducible refine b_own ?_ (by assumption) ?_) | omega | (focus (intro g hg; simp [Value.ownBlock] at hg; done)) | (focus (intro g hg; simp [Value.ownBlock] at hg; omega)) | (focus (refine fun g hg => Nat.le_trans ?_ (World.ownsRow.lt (by assumption) g hg).1; first | omega | (simp; done) | (simp; omega))) | (focus (simp; done)) | (focus (simp; omega))))⟩
  · have hf : takeOk (y :: x :: zs) = false := by
      rw [← Bool.not_eq_true]
      exact fun h => hq (HD.out h)
    have t2 : ((x - y).tmod 255 == 0) = false := by
      rw [beq_eq_false_iff_ne]
      intro h
      exact hq (Int.emod_eq_zero_of_dvd (Int.dvd_of_tmod_eq_zero h))
    rw [hf]
    clear hq HD hf
    have c1x := (hb6.cell (p := ⟨b, o, none⟩) (by first | (simp; done) | (simp; omega))).trans ((World.cell?_setCell_other _ _ ⟨b, o, none⟩ _ (by first | (simp; done) | (simp; omega))).trans ((World.cell?_setCell_other _ _ ⟨b, o, none⟩ _ (by first | (simp; done) | (simp; omega))).trans hcx5))
    have c1y := (hb6.cell (p := ⟨b, o + 1, none⟩) (by first | (simp; done) | (simp; omega))).trans ((World.cell?_setCell_other _ _ ⟨b, o + 1, none⟩ _ (by first | (simp; done) | (simp; omega))).trans ((World.cell?_setCell_other _ _ ⟨b, o + 1, none⟩ _ (by first | (simp; done) | (simp; omega))).trans hcy5))
    go_wp2_with fail
    go_quiet (fail)
    go_wp2
    go_ret
    exact ⟨rfl, (by repeat (first | (with_reducible exact b_refl _) | (with_reducible refine b_alloc ?_ _) | (with_reducible refine b_drew ?_) | (with_reducible refine b_drewN ?_ _) | (with_reducible refine b_set ?_ ?_ _) | (with_reducible refine b_trans ?_ (by assumption)) | (with_reducible refine b_only ?_ (by assumption) ?_) | (with_reducible refine b_own ?_ (by assumption) ?_) | omega | (focus (intro g hg; simp [Value.ownBlock] at hg; done)) | (focus (intro g hg; simp [Value.ownBlock] at hg; omega)) | (focus (refine fun g hg => Nat.le_trans ?_ (World.ownsRow.lt (by assumption) g hg).1; first | omega | (simp; done) | (simp; omega))) | (focus (simp; done)) | (focus (simp; omega))))⟩
set_option maxHeartbeats 1000000 in
theorem FnSumSwap_calls (A : Option Addr) (n c : Nat) (w : World) (hC : CodeIn w A n c) : Calls Try.prog 11 #[.slice A n c] w fun e w' => e = .returned (.bool true) ∧ Below w.heap.size w w' := by
  by_cases hn : n ≤ 1048576
  · exact FnSumSwap_small A n c w (hC.code hn)
  · have hl := hC.len
    have hn2 : (1048576 : Int) < n := by omega
    go_enter Try.func11, Try.ntmps11
    go_wp2
    go_ret
    exact ⟨rfl, b_refl _⟩
set_option maxRecDepth 100000 in
theorem FnSumSwap_lifted (os : Os) (started : os.Started) (H : Type) (enc : TypeId × Value → H) :
    ReturnsInHanded {} Try.checked os 11 .any (Rows.fnSumSwapSpec.pre6 enc Try.prog Try.f11 Rows.fnSumSwapRow.domain false) (Rows.fnSumSwapSpec.post enc Try.prog Try.f11 false true false false) := by
  refine returnsInHanded_of_change (C := Try.checked) own started (by kernel_rfl) Try.func11
    (ChangeSpec.witness6 (enc := enc) (C := Try.checked) false ⟨#[], #[.slice none 0 0], []⟩ 8 (by kernel_rfl) (by kernel_rfl) (by kernel_rfl) (by kernel_rfl)) ?_
  intro W base args ds gs before hval0 hW _ _
  have hval : ∀ (j : Nat) t v, Try.f11.params[j]? = some t → args[j]? = some v → Value.okWide Try.prog W .any base t v := hval0
  have hW2 := hW
  obtain ⟨p, q, hA0, hV, rfl, _, _⟩ := hW2
  have hA : DataW.TrodAll enc Try.prog W 0 (fun _ => true) true Try.f11.params.toList args.toList ds p := hA0
  rw [Try.params11] at hA hval
  obtain ⟨v0, d0, rfl, rfl, h0⟩ := trodAll_one hA
  obtain ⟨rfl, rfl⟩ := trodVars_none hV
  obtain ⟨A0, n, c, rfl, hC⟩ := open_code (hval 0 _ v0 rfl rfl) h0
  refine (FnSumSwap_calls A0 n c W hC).mono fun e W' ⟨he, hb⟩ => ?_
  subst he
  exact ⟨_, rfl, law_post (f := Try.f11) (s := Rows.fnSumSwapSpec) 4 laid_out (by kernel_rfl) rfl (by kernel_rfl) Try.underlying4 hW rfl hb⟩
theorem FnSumSwap_holds : Rows.FnSumSwapSaid :=
  OpenClaim.holds_of_wide 11 Try.f11 rfl rfl rfl rfl rfl rfl rfl ⟨rfl, rfl, rfl, rfl, rfl⟩ rfl rfl rfl rfl rfl (by kernel_rfl) Try.func11 (by kernel_rfl)
    (of_decide_eq_true (by kernel_rfl)) (by unfold Func.isWrapper; rw [if_neg (of_decide_eq_false (by kernel_rfl))]; exact ⟨rfl, rfl⟩)
    (fun os started H enc _ => FnSumSwap_lifted os started H enc)

end Go.Proofs.Ytcanajbdmdhpeaa
