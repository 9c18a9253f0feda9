/-
  FnSumDamage returns true for every code: a damaged byte is noticed.
-/
import Derived.Test.YtcanajbdmdhpeaaSumLaw
import Derived.Test.YtcanajbdmdhpeaaSumDraw
import Derived.Test.YtcanajbdmdhpeaaRow
set_option linter.unusedVariables false
set_option linter.unusedSimpArgs false
namespace Go.Proofs.Ytcanajbdmdhpeaa
open Go.ChangeShapes Go.WideShapes Go.ChangeAt Go.RowKit

set_option maxHeartbeats 4000000 in
theorem FnSumDamage_small (A A9 : Option Addr) (n c n9 c9 : Nat) (w : World) (hC : Code w A n c) (hC9 : Code w A9 n9 c9) : Calls Try.prog 10 #[.slice A n c, .slice A9 n9 c9] w fun e w' => e = .returned (.bool true) ∧ Below w.heap.size w w' := by
  have hn : n ≤ 1048576 := hC.elim fun _ h => h.2.2.1
  have hn2 : ¬ 1048576 < n := by omega
  have hn9 : n9 ≤ 1048576 := hC9.elim fun _ h => h.2.2.1
  have hn92 : ¬ 1048576 < n9 := by omega
  go_enter Try.func10, Try.ntmps10
  go_wp2_with fail
  (with_reducible refine (DrawSumTake_any _ _ _ _ hC).mono ?_); rintro e w1 ⟨A1, n1, c1, xs, rfl, hn1, hx1, hc1, hd1, hb1⟩; have hz1 := hb1.size; (try simp at hz1)
  have HX := Lib.hid hx1.len
  go_wp2_with fail
  (with_reducible refine (impl_SumTake _ _ _ _ _ hx1 (by omega) hc1 hd1).mono ?_); rintro e w2 ⟨A2, m2, c2, rfl, hm2, ho2, hc2, hd2, hb2⟩; have hz2 := hb2.size; (try simp at hz2)
  have HM2 := Lib.hid hm2
  clear hm2
  have hx2 := hx1.below hb2
  go_wp2_with fail
  (with_reducible refine (spec_SumTake _ _ _ _ _ hx2 (by omega) hc1 hd1).mono ?_); rintro e w3 ⟨A3, m3, c3, rfl, hm3, ho3, hc3, hd3, hb3⟩; have hz3 := hb3.size; (try simp at hz3)
  obtain rfl : m2 = m3 := HM2.out.trans hm3.symm
  clear hm3
  have hx3 := hx2.below hb3
  have g3 := own_below ho2 hb3
  have hml : m2 ≤ 40 := by
    have h1 := HM2.out
    have h2 := take_len xs
    have h3 := HX.out
    omega
  have B3 : Below w.heap.size w w3 := (by repeat (first | (with_reducible exact b_refl _) | (with_reducible refine b_alloc ?_ _) | (with_reducible refine b_drew ?_) | (with_reducible refine b_drewN ?_ _) | (with_reducible refine b_set ?_ ?_ _) | (with_reducible refine b_trans ?_ (by assumption)) | (with_reducible refine b_only ?_ (by assumption) ?_) | omega | (focus (simp; done)) | (focus (simp; omega))))
  by_cases hok : takeOk xs = true
  case' neg =>
    have hf : takeOk xs = false := by simpa using hok
    rw [hf]
    rw [if_neg hok] at g3 ho3 HM2
    clear hok
    go_wp2_with fail
    (with_reducible refine (sameInts_any A2 A3 m2 m2 c2 c3 _ _ _ (Ints.of_own g3) (Ints.of_own ho3) (by omega) (by omega)).mono ?_); rintro e w4 ⟨rfl, hb4⟩; have hz4 := hb4.size; (try simp at hz4)
    go_wp2_with fail
    (with_reducible refine (sameInts_any A2 A3 m2 m2 c2 c3 _ _ _ (Ints.of_own (own_below g3 hb4)) (Ints.of_own (own_below ho3 hb4)) (by omega) (by omega)).mono ?_); rintro e w5 ⟨rfl, hb5⟩; have hz5 := hb5.size; (try simp at hz5)
    go_wp2
    go_ret
    exact ⟨ret_bool (by simp), b_trans (b_trans B3 hb4) hb5⟩
  rw [hok]
  rw [if_pos hok] at g3 ho3 HM2
  go_wp2_with fail
  (with_reducible refine (sameInts_any A2 A3 m2 m2 c2 c3 _ _ _ (Ints.of_own g3) (Ints.of_own ho3) (by omega) (by omega)).mono ?_); rintro e w4 ⟨rfl, hb4⟩; have hz4 := hb4.size; (try simp at hz4)
  have g4 := own_below g3 hb4
  have hx4 := hx3.below hb4
  have B4 : Below w.heap.size w w4 := b_trans B3 hb4
  have hp := takeOk_parts hok
  have h20 : n1 ≤ 20 := by have := HX.out; omega
  have h2 : 2 ≤ n1 := by have := HX.out; omega
  clear HM2
  obtain ⟨k, hk, ek⟩ : ∃ k : Nat, k < n1 ∧ ((n9 : Int) % (n1 : Int)) = (k : Int) := ⟨n9 % n1, Nat.mod_lt _ (by omega), by simp⟩
  obtain ⟨b, o, x, rfl, hb, ex, hc⟩ := hx4.at_ hk
  have hxb := bytesOk_at hp.1 ex
  have HD := Lib.hid (damage_bad hok ex)
  have EX := Lib.hid ex
  have hy0 : (0 : Int) ≤ (n9 : Int) := by omega
  clear ex hok hp
  go_wp2_with (at_builtin; refine at_app (.tmp 60) (.tmp 61) rfl ?_; go_must (refine wpList_app (own_empty w4 w4.heap.size (Nat.le_refl _)) ((Ints.lift hx4 (by repeat (first | (with_reducible exact hx4) | (with_reducible refine Ints.drew ?_) | (with_reducible refine Ints.drewN ?_ _) | (with_reducible refine Ints.alloc ?_ _) | (with_reducible refine Ints.below ?_ (by assumption)))))) rfl (.tmp 60) (.tmp 61) rfl rfl rfl (n1) (by first | omega | (simp; done) | (simp; omega)) (by first | omega | (simp; done) | (simp; omega)) (by first | omega | (simp; done) | (simp; omega)) ?_; intro A5 c5 w5 own5 ho5 hat5 hc5 hd5; (try simp only [List.nil_append] at own5); have hz5 := ho5.size; (try simp at hz5)))
  obtain ⟨g, cap, hv, hgb, hgl⟩ := own5.form (by omega)
  injection hv with hA _ hC2
  subst hA; subst hC2
  obtain ⟨u, hu, hcu⟩ := own_cell own5 hk
  have hux : u = .int .i64 x := by
    rw [List.getElem?_map, EX.out] at hu
    simpa using hu.symm
  subst hux
  have hfu := own5.frozenAt k
  have B5 : Below w.heap.size w w5 := (by repeat (first | (with_reducible exact b_refl _) | (with_reducible refine b_alloc ?_ _) | (with_reducible refine b_drew ?_) | (with_reducible refine b_drewN ?_ _) | (with_reducible refine b_set ?_ ?_ _) | (with_reducible refine b_trans ?_ (by assumption)) | (with_reducible refine b_only ?_ (by assumption) ?_) | (with_reducible refine b_own ?_ (by assumption) ?_) | omega | (focus (intro g hg; simp [Value.ownBlock] at hg; done)) | (focus (intro g hg; simp [Value.ownBlock] at hg; omega)) | (focus (refine fun g hg => Nat.le_trans ?_ (World.ownsRow.lt (by assumption) g hg).1; first | omega | (simp; done) | (simp; omega))) | (focus (simp; done)) | (focus (simp; omega))))
  clear hu
  by_cases h254 : 254 ≤ x
  · have hst := (own5.stored k (.int .i64 (x - 1))).1
    rw [← List.map_set, show x - 1 = damaged x from by rw [damaged, if_pos h254]] at hst
    have HE : Hid (damaged x = x - 1) := if_pos h254
    rw [HE.out] at hst
    have HS := Lib.hid (Ints.of_own hst)
    have HCC := Lib.hid (own_cap own5)
    rw [HE.out] at HD
    clear hst
    go_wp2_with fail
    (with_reducible refine (impl_SumTake _ _ _ _ _ HS.out (by omega) HCC.out.1 HCC.out.2).mono ?_); rintro e w6 ⟨A6, m6, c6, rfl, hm6, ho6, hc6, hd6, hb6⟩; have hz6 := hb6.size; (try simp at hz6)
    rw [HD.out]
    clear hm6
    go_wp2
    go_ret
    exact ⟨rfl, (by repeat (first | (with_reducible exact b_refl _) | (with_reducible refine b_alloc ?_ _) | (with_reducible refine b_drew ?_) | (with_reducible refine b_drewN ?_ _) | (with_reducible refine b_set ?_ ?_ _) | (with_reducible refine b_trans ?_ (by assumption)) | (with_reducible refine b_only ?_ (by assumption) ?_) | (with_reducible refine b_own ?_ (by assumption) ?_) | omega | (focus (intro g hg; simp [Value.ownBlock] at hg; done)) | (focus (intro g hg; simp [Value.ownBlock] at hg; omega)) | (focus (refine fun g hg => Nat.le_trans ?_ (World.ownsRow.lt (by assumption) g hg).1; first | omega | (simp; done) | (simp; omega))) | (focus (simp; done)) | (focus (simp; omega))))⟩
  · have hst := (own5.stored k (.int .i64 (x + 1))).1
    have HE : Hid (damaged x = x + 1) := if_neg h254
    rw [← List.map_set] at hst
    have HS := Lib.hid (Ints.of_own hst)
    have HCC := Lib.hid (own_cap own5)
    rw [HE.out] at HD
    clear hst
    go_wp2_with fail
    (with_reducible refine (impl_SumTake _ _ _ _ _ HS.out (by omega) HCC.out.1 HCC.out.2).mono ?_); rintro e w6 ⟨A6, m6, c6, rfl, hm6, ho6, hc6, hd6, hb6⟩; have hz6 := hb6.size; (try simp at hz6)
    rw [HD.out]
    clear hm6
    go_wp2
    go_ret
    exact ⟨rfl, (by repeat (first | (with_reducible exact b_refl _) | (with_reducible refine b_alloc ?_ _) | (with_reducible refine b_drew ?_) | (with_reducible refine b_drewN ?_ _) | (with_reducible refine b_set ?_ ?_ _) | (with_reducible refine b_trans ?_ (by assumption)) | (with_reducible refine b_only ?_ (by assumption) ?_) | (with_reducible refine b_own ?_ (by assumption) ?_) | omega | (focus (intro g hg; simp [Value.ownBlock] at hg; done)) | (focus (intro g hg; simp [Value.ownBlock] at hg; omega)) | (focus (refine fun g hg => Nat.le_trans ?_ (World.ownsRow.lt (by assumption) g hg).1; first | omega | (simp; done) | (simp; omega))) | (focus (simp; done)) | (focus (simp; omega))))⟩
set_option maxHeartbeats 1000000 in
theorem FnSumDamage_calls (A A2 : Option Addr) (n c n2 c2 : Nat) (w : World) (hC : CodeIn w A n c) (hC2 : CodeIn w A2 n2 c2) : Calls Try.prog 10 #[.slice A n c, .slice A2 n2 c2] w fun e w' => e = .returned (.bool true) ∧ Below w.heap.size w w' := by
  have hl := hC.len
  have hl2 := hC2.len
  by_cases hn : n ≤ 1048576
  · by_cases hn2 : n2 ≤ 1048576
    · exact FnSumDamage_small A A2 n c n2 c2 w (hC.code hn) (hC2.code hn2)
    · have hm : ¬ (1048576 : Int) < n := by omega
      have hm2 : (1048576 : Int) < n2 := by omega
      go_enter Try.func10, Try.ntmps10
      go_wp2
      go_ret
      exact ⟨rfl, b_refl _⟩
  · have hm : (1048576 : Int) < n := by omega
    go_enter Try.func10, Try.ntmps10
    go_wp2
    go_ret
    exact ⟨rfl, b_refl _⟩
set_option maxRecDepth 100000 in
theorem FnSumDamage_lifted (os : Os) (started : os.Started) (H : Type) (enc : TypeId × Value → H) :
    ReturnsInHanded {} Try.checked os 10 .any (Rows.fnSumDamageSpec.pre6 enc Try.prog Try.f10 Rows.fnSumDamageRow.domain false) (Rows.fnSumDamageSpec.post enc Try.prog Try.f10 false true false false) := by
  refine returnsInHanded_of_change (C := Try.checked) own started (by kernel_rfl) Try.func10
    (ChangeSpec.witness6 (enc := enc) (C := Try.checked) false ⟨#[], #[.slice none 0 0, .slice none 0 0], []⟩ 8 (by kernel_rfl) (by kernel_rfl) (by kernel_rfl) (by kernel_rfl)) ?_
  intro W base args ds gs before hval0 hW _ _
  have hval : ∀ (j : Nat) t v, Try.f10.params[j]? = some t → args[j]? = some v → Value.okWide Try.prog W .any base t v := hval0
  have hW2 := hW
  obtain ⟨p, q, hA0, hV, rfl, _, _⟩ := hW2
  have hA : DataW.TrodAll enc Try.prog W 0 (fun _ => true) true Try.f10.params.toList args.toList ds p := hA0
  rw [Try.params10] at hA hval
  obtain ⟨v0, v1, d0, d1, p0, p1, rfl, rfl, rfl, h0, h1⟩ := trodAll_two hA
  obtain ⟨rfl, rfl⟩ := trodVars_none hV
  obtain ⟨A0, n, c, rfl, hC⟩ := open_code (hval 0 _ v0 rfl rfl) h0
  obtain ⟨A2, n2, c2, rfl, hC2⟩ := open_code (hval 1 _ v1 rfl rfl) h1
  refine (FnSumDamage_calls A0 A2 n c n2 c2 W hC hC2).mono fun e W' ⟨he, hb⟩ => ?_
  subst he
  exact ⟨_, rfl, law_post (f := Try.f10) (s := Rows.fnSumDamageSpec) 4 laid_out (by kernel_rfl) rfl (by kernel_rfl) Try.underlying4 hW rfl hb⟩
theorem FnSumDamage_holds : Rows.FnSumDamageSaid :=
  OpenClaim.holds_of_wide 10 Try.f10 rfl rfl rfl rfl rfl rfl rfl ⟨rfl, rfl, rfl, rfl, rfl⟩ rfl rfl rfl rfl rfl (by kernel_rfl) Try.func10 (by kernel_rfl)
    (of_decide_eq_true (by kernel_rfl)) (by unfold Func.isWrapper; rw [if_neg (of_decide_eq_false (by kernel_rfl))]; exact ⟨rfl, rfl⟩)
    (fun os started H enc _ => FnSumDamage_lifted os started H enc)

end Go.Proofs.Ytcanajbdmdhpeaa
