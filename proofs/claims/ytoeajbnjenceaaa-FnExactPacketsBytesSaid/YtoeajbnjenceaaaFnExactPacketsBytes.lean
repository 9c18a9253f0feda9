/-
  FnExactPacketsBytes returns true for all lists of lists: the program's PacketsBytes returns what the reference's returns, leaves its argument alone, and its result shares no memory with it.
-/
import Derived.Test.YtoeajbnjenceaaaPackets
import Derived.Test.YtoeajbnjenceaaaRowLists
set_option linter.unusedVariables false
set_option linter.unusedSimpArgs false
namespace Go.Proofs.Ytoeajbnjenceaaa
open Go.ChangeShapes Go.WideShapes Go.ChangeAt Go.RowKit

theorem packsOut_len (xss : List (List Int)) : (packsOut xss).length ≤ 410 := by
  by_cases h : packsOk xss = true
  · rw [packsOut_yes h]
    simp only [packsOk, Bool.and_eq_true, decide_eq_true_eq] at h
    have := packedAll_len h.1
    omega
  · rw [packsOut_no (by simpa using h)]
    simp
set_option maxHeartbeats 4000000 in
theorem FnExactPacketsBytes_calls (A : Option Addr) (n c : Nat) (ss : List Sl) (xss : List (List Int)) (w : World) (hx : Lists w A n ss xss) (hn : n ≤ 9223372036854775807) :
    Calls Try.prog 4 #[.slice A n c] w fun e w' => e = .returned (.bool true) ∧ Below w.heap.size w w' := by
  have hlen := Lib.hid (packsOut_len xss)
  go_enter Try.func4, Try.ntmps4
  go_wp2_with fail
  (with_reducible refine (szIntSS_any A n c 1048576 ss xss _ hx hn (by omega) (by omega)).mono ?_); rintro e w1 ⟨⟨z, rfl, hz⟩, rfl⟩
  by_cases hneg : z < 0
  · go_wp2
    go_ret
    exact ⟨rfl, (by repeat (first | (with_reducible exact b_refl _) | (with_reducible refine b_alloc ?_ _) | (with_reducible refine b_drew ?_) | (with_reducible refine b_drewN ?_ _) | (with_reducible refine b_set ?_ ?_ _) | (with_reducible refine b_trans ?_ (by assumption)) | (with_reducible refine b_only ?_ (by assumption) ?_) | omega | (focus (simp; done)) | (focus (simp; omega))))⟩
  have hb := hz (by omega)
  have hn1 : n ≤ 1048576 := by omega
  have ht : tot xss ≤ 1048576 := by omega
  clear hz hb hn
  go_wp2_with fail
  (with_reducible refine (toIntSS_any A n c ss xss _ hx hn1 ht).mono ?_); rintro e w1 ⟨A1, c1, t1, rfl, ho1, hb1⟩; have hz1 := hb1.size; (try simp at hz1)
  go_wp2_with fail
  (with_reducible refine (spec_PacketsBytes A1 n c1 t1 xss _ ho1.read hn1 ht).mono ?_); rintro e w2 ⟨A2, m2, c2, rfl, hm2, ho2, hc2, hd2, hb2⟩; have hz2 := hb2.size; (try simp at hz2)
  have HM2 := Lib.hid hm2
  clear hm2
  have B2 : Below w.heap.size w w2 := b_trans hb1 hb2
  go_wp2_with fail
  (with_reducible refine (toIntSS_any A n c ss xss _ (hx.below B2) hn1 ht).mono ?_); rintro e w3 ⟨A3, c3, t3, rfl, ho3, hb3⟩; have hz3 := hb3.size; (try simp at hz3)
  have hhi := Lib.hid (fun (k : Nat) (s : Sl) (g : Nat) (hs : t3[k]? = some s) (hg : (slv s).ownBlock = some g) => (ho3.2.lt hs hg).2)
  go_wp2_with fail
  (with_reducible refine (impl_PacketsBytes A3 n c3 t3 xss _ ho3.read hn1 ht).mono ?_); rintro e w4 ⟨A4, m4, c4, rfl, hm4, ho4, hc4, hd4, hb4⟩; have hz4 := hb4.size; (try simp at hz4)
  have B4 : Below w.heap.size w w4 := b_trans (b_trans B2 hb3) hb4
  obtain rfl : m2 = m4 := HM2.out.trans hm4.symm
  clear hm4
  have hml : m2 ≤ 410 := by
    have h1 := HM2.out
    have h2 := hlen.out
    omega
  generalize hys : packsOut xss = ys at *
  generalize hbo : packsOk xss = bo at *
  have HY := Lib.hid hys
  have HBO := Lib.hid hbo
  clear hys hbo hlen
  have w4r := own_below (own_below ho2 hb3) hb4
  go_wp2_with fail
  (with_reducible refine (eqIntS_any A4 A2 m2 m2 c4 c2 ys ys _ (Ints.of_own ho4) (Ints.of_own w4r) (by omega) (by omega)).mono ?_); rintro e w5 ⟨rfl, hb5⟩; have hz5 := hb5.size; (try simp at hz5)
  have B5 : Below w.heap.size w w5 := b_trans B4 hb5
  go_wp2_with fail
  (with_reducible refine (toIntSS_any A n c ss xss _ (hx.below B5) hn1 ht).mono ?_); rintro e w6 ⟨A6, c6, t6, rfl, ho6, hb6⟩; have hz6 := hb6.size; (try simp at hz6)
  have x6 := ((ho3.below hb4).below hb5).below hb6
  go_wp2_with fail
  (with_reducible refine (eqIntSS_same A3 A6 n c3 c6 t3 t6 xss _ x6.read ho6.read hn1 ht).mono ?_); rintro e w7 ⟨rfl, hb7⟩; have hz7 := hb7.size; (try simp at hz7)
  have B7 : Below w.heap.size w w7 := b_trans (b_trans B5 hb6) hb7
  have x7 := x6.below hb7
  have g7 := own_below (own_below (own_below ho4 hb5) hb6) hb7
  have r7 := own_below (own_below (own_below w4r hb5) hb6) hb7
  go_wp2_with fail
  (with_reducible refine (markIntSS_any w2.heap.size w3.heap.size A3 n c3 t3 xss 1 _ x7 hn1 (by omega) (by omega) (by omega) hhi.out).mono ?_)
  rintro e w8 ⟨rfl, x8, hout⟩
  have B8 : Below w.heap.size w w8 := hout.below B7 B7.size B2.size
  have g8 := own_outside g7 hout (fun g hg => .inr (ho4.lt g hg).1)
  have r8 := own_outside r7 hout (fun g hg => .inl (ho2.lt g hg).2)
  have hq8 : ¬ (1 + (tot xss : Int)) < 0 := by omega
  go_wp2_with fail
  (with_reducible refine (eqIntS_any A4 A2 m2 m2 c4 c2 ys ys _ (Ints.of_own g8) (Ints.of_own r8) (by omega) (by omega)).mono ?_); rintro e w9 ⟨rfl, hb9⟩; have hz9 := hb9.size; (try simp at hz9)
  have g9 := own_below g8 hb9
  have r9 := own_below r8 hb9
  go_wp2_with fail
  (with_reducible refine (markIntS_any _ A4 m2 c4 _ 1 _ g9 (by omega) (by omega) (by omega)).mono ?_)
  rintro e w10 ⟨rfl, g10, hg10⟩
  have hx9 := own_apart' ho2 ho4 (by have := hb3.size; omega)
  have r10 := r9.kept hg10 hx9
  have B10 : Below w.heap.size w w10 := b_own (b_trans B8 hb9) hg10 (fun g hg => by have := (g9.lt g hg).1; omega)
  have hq10 : ¬ (1 + (m2 : Int)) < 0 := by omega
  go_wp2_with fail
  (with_reducible refine (heldIntS_any A4 m2 c4 1 _ (Ints.of_own g10) (by omega) (by omega) (by omega)).mono ?_)
  rintro e w11 ⟨rfl, rfl⟩
  go_wp2_with fail
  (with_reducible refine (toIntSS_any A n c ss xss _ (hx.below B10) hn1 ht).mono ?_); rintro e w12 ⟨A12, c12, t12, rfl, ho12, hb12⟩; have hz12 := hb12.size; (try simp at hz12)
  go_wp2_with fail
  (with_reducible refine (impl_PacketsBytes A12 n c12 t12 xss _ ho12.read hn1 ht).mono ?_); rintro e w13 ⟨A13, m13, c13, rfl, hm13, ho13, hc13, hd13, hb13⟩; have hz13 := hb13.size; (try simp at hz13)
  rw [HY.out] at hm13 ho13
  rw [HBO.out]
  obtain rfl : m2 = m13 := HM2.out.trans hm13.symm
  clear hm13
  have r13 := own_below (own_below r10 hb12) hb13
  have g13 := own_below (own_below g10 hb12) hb13
  have B13 : Below w.heap.size w w13 := b_trans (b_trans B10 hb12) hb13
  go_wp2_with fail
  (with_reducible refine (eqIntS_any A13 A2 m2 m2 c13 c2 ys ys _ (Ints.of_own ho13) (Ints.of_own r13) (by omega) (by omega)).mono ?_); rintro e w14 ⟨rfl, hb14⟩; have hz14 := hb14.size; (try simp at hz14)
  go_wp2_with fail
  (with_reducible refine (heldIntS_any A4 m2 c4 1 _ (Ints.of_own (own_below g13 hb14)) (by omega) (by omega) (by omega)).mono ?_)
  rintro e w15 ⟨rfl, rfl⟩
  go_wp2
  go_ret
  exact ⟨rfl, b_trans B13 hb14⟩
set_option maxRecDepth 100000 in
theorem FnExactPacketsBytes_lifted (os : Os) (started : os.Started) (H : Type) (enc : TypeId × Value → H) :
    ReturnsInHanded {} Try.checked os 4 .any (Rows.fnExactPacketsBytesSpec.pre6 enc Try.prog Try.f4 Rows.fnExactPacketsBytesRow.domain false) (Rows.fnExactPacketsBytesSpec.post enc Try.prog Try.f4 false true false false) := by
  refine returnsInHanded_of_change (C := Try.checked) own started (by kernel_rfl) Try.func4
    (ChangeSpec.witness6 (enc := enc) (C := Try.checked) false ⟨#[], #[.slice none 0 0], []⟩ 8 (by kernel_rfl) (by kernel_rfl) (by kernel_rfl) (by kernel_rfl)) ?_
  intro W base args ds gs before hval0 hW _ _
  have hval : ∀ (j : Nat) t v, Try.f4.params[j]? = some t → args[j]? = some v → Value.okWide Try.prog W .any base t v := hval0
  have hW2 := hW
  obtain ⟨p, q, hA0, hV, rfl, _, _⟩ := hW2
  have hA : DataW.TrodAll enc Try.prog W 0 (fun _ => true) true Try.f4.params.toList args.toList ds p := hA0
  rw [Try.params4] at hA hval
  obtain ⟨v0, d0, rfl, rfl, h0⟩ := trodAll_one hA
  obtain ⟨rfl, rfl⟩ := trodVars_none hV
  obtain ⟨A1, n1, c1, ss, xss, rfl, hx, hc1, hm1⟩ := open_lists (hval 0 _ v0 rfl rfl) h0
  refine (FnExactPacketsBytes_calls A1 n1 c1 ss xss W hx (by unfold maxLen at hm1; omega)).mono fun e W' ⟨he, hb⟩ => ?_
  subst he
  exact ⟨_, rfl, law_post (f := Try.f4) (s := Rows.fnExactPacketsBytesSpec) 4 laid_out (by kernel_rfl) rfl (by kernel_rfl) Try.underlying4 hW rfl hb⟩
theorem FnExactPacketsBytes_holds : Rows.FnExactPacketsBytesSaid :=
  OpenClaim.holds_of_wide 4 Try.f4 rfl rfl rfl rfl rfl rfl rfl ⟨rfl, rfl, rfl, rfl, rfl⟩ rfl rfl rfl rfl rfl (by kernel_rfl) Try.func4 (by kernel_rfl)
    (of_decide_eq_true (by kernel_rfl)) (by unfold Func.isWrapper; rw [if_neg (of_decide_eq_false (by kernel_rfl))]; exact ⟨rfl, rfl⟩)
    (fun os started H enc _ => FnExactPacketsBytes_lifted os started H enc)

end Go.Proofs.Ytoeajbnjenceaaa
